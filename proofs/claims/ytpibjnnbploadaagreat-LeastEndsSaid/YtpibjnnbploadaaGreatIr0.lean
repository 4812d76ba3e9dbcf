/- The engine's instructions for the functions, part 0. -/
import Derived.Test.YtpibjnnbploadaaGreatIrT
import Derived.Test.YtpibjnnbploadaaGreatEngAll2
namespace Go.EnvOf
open Go Go.Eng
set_option maxRecDepth 100000
def lp5_0:IC:=
 (.loop [1,3,5,6] [1,5] (.seq (zr [zm 22 6,
 zg 23 (.bin .lss t22 (zi 1000)),
 zm 24 23,
 zt 25 24 (.mov t3),
 zt 26 24 (.ld t5 7 true),
 zt 27 24 (.call 31 [t25,t26] false),
 zt 28 24 (.un .not t27),
 zg 29 (.pick t24 t28 zF)] [1,3,5,6,29] [1,5]
 (.cond t29
 .skip
 (.exit 0)))
 (.seq (.block 1 (zr [zm 33 3,
 zl 34 5 7,
 zc 35 32 [t33,t34],
 zm 32 35,
 zx 36 32 0,
 zx 37 32 1,
 zg 7 (.al [zo,zo,zo,.nils,.nils,.nils] true),
 zn (.st t7 t36 6),
 zm 8 37] [1,3,5,6,7,8] [1,5,7]
 (.seq (zr [zm 38 8,
 zj 39 38] [1,3,5,6,7,39] [1,5,7]
 (.cond t39
 (zr [zg 2 (.mov zF)] [2] []
 .ret)
 .skip))
 (.reg false [zm 40 3,
 zl 41 5 7,
 zl 42 7 6,
 zc 43 33 [t40,t41,t42],
 zn (.st t5 t43 7)] [1,3,5,6] [1,5]))))
 (.reg false [zm 30 6,
 zg 31 (.bin .add t30 (zi 1)),
 zm 6 31] [1,3,5,6] [1,5]))))
def ir5:IFn:=
⟨(zr [zg 1 (.bx t0 22 true),
 zg 2 (.mov zF)] [1] [1]
 (.seq (zr [zl 9 1 22,
 zc 10 15 [t9]] [1,10] [1]
 (.cond t10
 (zr [zc 11 29 [],
 zm 2 11] [2] []
 .ret)
 .skip))
 (zr [zl 13 1 22,
 zg 14 (.callz 17 [t13]),
 zm 12 14,
 zx 15 12 0,
 zx 16 12 1,
 zm 3 15,
 zm 4 16] [1,3,4] [1]
 (.seq (zr [zm 17 4,
 zj 18 17] [1,3,18] [1]
 (.cond t18
 (zr [zc 19 29 [],
 zm 2 19] [2] []
 .ret)
 .skip))
 (zr [zm 20 3,
 zc 21 30 [t20],
 zg 5 (.al [zo,zo,zo,zo,zo,zo,zo] true),
 zn (.st t5 t21 7)] [1,3,5] [1,5]
 (.seq (zr [zg 6 (.mov (zi 0))] [1,3,5,6] [1,5]
 (.block 0 lp5_0))
 (.seq (zr [zp 44 1 19,
 zk 45 44 1,
 zh 46 45,
 zg 47 (.bin .gtr t46 (zi 20)),
 zm 48 47,
 zf 49 48 (.off t1 20),
 zf 50 48 (.ld t49 1 false),
 zf 51 48 (.len t50),
 zf 52 48 (.bin .gtr t51 (zi 3)),
 zg 53 (.pick t48 zT t52),
 zm 54 53,
 zf 55 54 (.off t1 21),
 zf 56 54 (.ld t55 1 false),
 zf 57 54 (.len t56),
 zf 58 54 (.bin .gtr t57 (zi 20)),
 zg 59 (.pick t54 zT t58)] [3,5,59] [5]
 (.cond t59
 (zr [zc 60 29 [],
 zm 2 60] [2] []
 .ret)
 .skip))
 (zr [zm 61 3,
 zl 62 5 7,
 zc 63 31 [t61,t62],
 zm 64 63,
 zt 65 64 (.call 29 [] false),
 zg 66 (.pick t64 t65 zF),
 zm 2 66] [2] []
 .ret)))))))),
 [.tmp 2],false⟩
def q0ha:IC:=
 (.loop [1,3] [1] (.seq (zr [zm 4 3,
 zp 5 1 20,
 zk 6 5 1,
 zh 7 6,
 zg 8 (.bin .lss t4 t7),
 zm 9 8,
 zt 10 9 (.mov t3),
 zt 11 9 (.bin .lss t10 (zi 100)),
 zg 12 (.pick t9 t11 zF)] [1,3,12] [1]
 (.cond t12
 .skip
 (.exit 0)))
 (.seq (.block 1 (zr [zp 15 1 20,
 zk 16 15 1,
 zm 17 3,
 zg 18 (.ixs t16 t17 2),
 zp 19 18 0,
 zk 20 19 1,
 zh 21 20,
 zg 22 (.bin .gtr t21 (zi 100)),
 zm 23 22,
 zf 24 23 (.off t1 20),
 zf 25 23 (.ld t24 1 false),
 zf 26 23 (.mov t3),
 zf 27 23 (.ixs t25 t26 2),
 zf 28 23 (.off t27 1),
 zf 29 23 (.ld t28 1 false),
 zf 30 23 (.len t29),
 zf 31 23 (.bin .gtr t30 (zi 100)),
 zg 32 (.pick t23 zT t31)] [1,3,32] [1]
 (.cond t32
 (zr [zg 2 (.mov zT)] [2] []
 .ret)
 .skip)))
 (.reg false [zm 13 3,
 zg 14 (.bin .add t13 (zi 1)),
 zm 3 14] [1,3] [1]))))
def ir15:IFn:=
⟨(zr [zg 1 (.bx t0 22 true),
 zg 2 (.mov zF)] [1] [1]
 (.seq (zr [zg 3 (.mov (zi 0))] [1,3] [1]
 (.block 0 q0ha))
 (zr [zp 33 1 19,
 zk 34 33 1,
 zh 35 34,
 zg 36 (.bin .gtr t35 (zi 100)),
 zm 37 36,
 zf 38 37 (.off t1 20),
 zf 39 37 (.ld t38 1 false),
 zf 40 37 (.len t39),
 zf 41 37 (.bin .gtr t40 (zi 100)),
 zg 42 (.pick t37 zT t41),
 zm 43 42,
 zf 44 43 (.off t1 21),
 zf 45 43 (.ld t44 1 false),
 zf 46 43 (.len t45),
 zf 47 43 (.bin .gtr t46 (zi 100)),
 zg 48 (.pick t43 zT t47),
 zm 2 48] [2] []
 .ret))),
 [.tmp 2],false⟩
def q0hb:IC:=
 (.loop [1,6,53,54] [1,35] (zr [zg 55 (.bin .lss t54 t53)] [1,6,53,54,55] [1,35]
 (.seq (.cond t55
 .skip
 (.exit 0))
 (.seq (.block 1 (zr [zm 56 54,
 zm 7 56] [1,6,7,53,54] [1,35]
 (.reg true [zm 57 6,
 zm 58 6,
 zg 59 (.nck t58),
 zp 60 59 23,
 zg 61 (.ldl 35 t60 1 false),
 zp 62 1 20,
 zg 63 (.ldl 1 t62 1 false),
 zm 64 7,
 zg 65 (.slc t63 none (some t64) 2),
 zc 66 78 [t65],
 zg 67 (.bsl 1 1 [zo] [(0,t66)]),
 zg 68 (.app t61 t67 1),
 zg 69 (.nck t57),
 zp 70 69 23,
 zn (.stl 35 t70 t68 1)] [1,6,53,54] [1,35])))
 (.reg false [zg 71 (.bin .add t54 (zi 1)),
 zm 54 71] [1,6,53,54] [1,35])))))
def ir17:IFn:=
⟨(zr [zg 1 (.bx t0 22 true),
 zg 2 (.mov (.c (.p .nilp))),
 zg 3 (.mov zF)] [1] [1]
 (.seq (zr [zl 8 1 22,
 zc 9 71 [t8],
 zj 10 9] [1,10] [1]
 (.cond t10
 (zr [zg 2 (.mov (.c (.p .nilp))),
 zg 3 (.mov zF)] [2,3] [35]
 .ret)
 .skip))
 (zr [zl 11 1 22,
 zc 12 73 [t11],
 zc 13 72 [t12],
 zn (.st t1 t13 22)] [1] [1]
 (zr [zp 15 1 19,
 zk 16 15 1,
 zg 17 (.callz 74 [t16]),
 zm 14 17,
 zx 18 14 0,
 zx 19 14 1,
 zm 4 18,
 zm 5 19] [1,4,5] [1]
 (.seq (zr [zm 20 5,
 zj 21 20] [1,4,21] [1]
 (.cond t21
 (zr [zg 2 (.mov (.c (.p .nilp))),
 zg 3 (.mov zF)] [2,3] [35]
 .ret)
 .skip))
 (.seq (.prep [35] (.reg true [zp 22 1 19,
 zg 23 (.ldl 1 t22 1 false),
 zg 24 (.callz 75 [t23]),
 zm 25 4,
 zp 26 1 19,
 zg 27 (.ldl 1 t26 1 false),
 zp 28 1 21,
 zg 29 (.ldl 1 t28 1 false),
 zg 30 (.callz 76 [t27,t29]),
 zg 31 (.bld [.p .nilp,.p .nilp,.p .nilp] [(0,1,t24),(1,1,t25),(2,1,t30)]),
 zg 32 (.bx t31 3 false),
 zg 33 (.ldl 1 t1 22 true),
 zg 34 (.bld [.p .nilp,zo,zo,zo,zo,zo,zo,zo,zo,zo,zo,zo,zo,zo,zo,zo,zo,zo,zo,.p (.bool false),.nils,.nils,.nils,.nils,zo,zo,zo] [(0,1,t32),(1,22,t33)]),
 zg 35 (.bxp t34 27),
 zm 6 35] [1,6] [1,35]))
 (.seq (.reg true [zm 36 6,
 zm 37 6,
 zg 38 (.nck t37),
 zp 39 38 0,
 zg 40 (.ldl 35 t39 1 false),
 zg 41 (.nck t40),
 zp 42 41 2,
 zk 43 42 1,
 zp 44 1 19,
 zg 45 (.ldl 1 t44 1 false),
 zh 46 45,
 zc 47 77 [t43,t46],
 zg 48 (.nck t36),
 zp 49 48 24,
 zn (.stl 35 t49 t47 3)] [1,6] [1,35])
 (.seq (zr [zp 50 1 20,
 zk 51 50 1,
 zh 52 51,
 zg 53 (.bin .add t52 (zi 1)),
 zg 54 (.mov (zi 0))] [1,6,53,54] [1,35]
 (.block 0 q0hb))
 (.seq (.esc [35] (.reg false [zm 72 6,
 zm 2 72,
 zg 3 (.mov zT)] [2,3] [35]))
 .ret))))))))),
 [.tmp 2,.tmp 3],false⟩
def ir29:IFn:=
⟨(zr [zg 0 (.mov zF)] [] []
 (zr [zg 8 (.bld [zo,zo,zo,zo,zo,zo,zo,zo,zo,zo,zo,zo,zo,zo,zo,zo,zo,zo,.p (.bool false)] [(0,1,(zi 1)),(1,1,(zi 1)),(3,1,(zi 9)),(4,1,(zi 9))]),
 zg 9 (.bld [zo,zo,zo,zo,zo,zo,zo] [(0,1,(zi 1)),(1,1,(zi 3))]),
 zg 10 (.bld [zo,zo,zo,zo,zo,zo,zo] [(0,1,(zi 2))]),
 zg 11 (.bld [zo,zo,zo,zo,zo,zo,zo] [(0,1,(zi 1)),(1,1,(zi 3))]),
 zg 12 (.bsl 7 3 [zo,zo,zo,zo,zo,zo,zo] [(0,t9),(1,t10),(2,t11)]),
 zg 13 (.bld [zo,zo,zo,zo,zo,zo,zo,zo,zo,zo,zo,zo,zo,zo,zo,zo,zo,zo,.p (.bool false),.nils,.nils,.nils] [(0,19,t8),(19,1,t12)]),
 zg 14 (.callz 17 [t13]),
 zm 7 14,
 zx 15 7 0,
 zx 16 7 1,
 zm 1 15,
 zm 2 16] [1,2] []
 (zr [zm 18 1,
 zm 19 1,
 zc 20 30 [t19],
 zc 21 32 [t18,t20],
 zm 17 21,
 zx 22 17 0,
 zx 23 17 1,
 zg 3 (.al [zo,zo,zo,.nils,.nils,.nils] true),
 zn (.st t3 t22 6),
 zm 4 23] [1,2,3,4] [3]
 (zr [zm 25 1,
 zg 26 (.bld [zo,zo,zo,zo,zo,zo,zo] [(0,1,(zi 3))]),
 zc 27 32 [t25,t26],
 zm 24 27,
 zx 28 24 0,
 zx 29 24 1,
 zg 5 (.al [zo,zo,zo,.nils,.nils,.nils] true),
 zn (.st t5 t28 6),
 zm 6 29] [2,3,4,6] [3]
 (zr [zm 30 2,
 zm 31 30,
 zt 32 31 (.mov t4),
 zg 33 (.pick t31 t32 zF),
 zm 34 33,
 zt 35 34 (.mov t6),
 zt 36 34 (.un .not t35),
 zg 37 (.pick t34 t36 zF),
 zm 38 37,
 zt 39 38 (.ld t3 6 true),
 zt 40 38 (.bld [zo,zo,zo,.nils,.nils,.nils] [(0,1,(zi 1)),(2,1,(zi 1))]),
 zt 41 38 (.call 40 [t39,t40] false),
 zg 42 (.pick t38 t41 zF),
 zm 0 42] [0] []
 .ret))))),
 [.tmp 0],false⟩
def ir30:IFn:=
⟨(zr [zg 2 (.al [zo,zo,zo,zo,zo,zo,zo] true)] [0,2] [2]
 (zr [zm 3 0,
 zc 4 81 [t3],
 zc 5 87 [t4,(zi 0)],
 zg 6 (.bld [zo,zo,zo,zo,zo,zo,zo] [(0,1,t5)]),
 zn (.st t2 t6 7)] [2] [2]
 .ret)),
 [.cell 2 7 true],false⟩
def ir31:IFn:=
⟨(zr [zg 3 (.bx t1 7 true),
 zg 4 (.mov zF)] [0,3] [3]
 (.seq (.reg true [zm 5 0,
 zg 6 (.ldl 3 t3 7 true),
 zc 7 38 [t5,t6],
 zm 8 7,
 zt 9 8 (.off t3 0),
 zt 10 8 (.ldl 3 t9 1 false),
 zt 11 8 (.mov t0),
 zt 12 8 (.nck t11),
 zt 13 8 (.off t12 0),
 zt 14 8 (.ld t13 1 false),
 zt 15 8 (.nck t14),
 zt 16 8 (.off t15 0),
 zt 17 8 (.ld t16 1 false),
 zt 18 8 (.call 82 [t17] false),
 zt 19 8 (.bin .eql t10 t18),
 zg 20 (.pick t8 t19 zF),
 zm 21 20,
 zt 22 21 (.off t3 3),
 zt 23 21 (.ldl 3 t22 1 false),
 zt 24 21 (.bin .eql t23 (zi 0)),
 zg 25 (.pick t21 t24 zF),
 zm 26 25,
 zt 27 26 (.off t3 2),
 zt 28 26 (.ldl 3 t27 1 false),
 zt 29 26 (.mov t0),
 zt 30 26 (.nck t29),
 zt 31 26 (.off t30 1),
 zt 32 26 (.off t31 20),
 zt 33 26 (.ld t32 1 false),
 zt 34 26 (.len t33),
 zt 35 26 (.bin .eql t28 t34),
 zg 36 (.pick t26 t35 zF),
 zm 37 36,
 zt 38 37 (.off t3 4),
 zt 39 37 (.ldl 3 t38 3 true),
 zt 40 37 (.mov t0),
 zt 41 37 (.nck t40),
 zt 42 37 (.off t41 24),
 zt 43 37 (.ld t42 3 true),
 zt 44 37 (.eqa false [true,true,true] t39 t43),
 zg 45 (.pick t37 t44 zF),
 zm 4 45] [4] [])
 .ret)),
 [.tmp 4],false⟩
def q07g:IC:=
 (.loop [0,3,4,14,15,16] [3,4] (zr [zg 17 (.bin .lss t16 t15)] [0,3,4,14,15,16,17] [3,4]
 (.seq (.cond t17
 .skip
 (.exit 0))
 (.seq (.block 1 (zr [zg 18 (.ixs t14 t16 1),
 zl 19 18 1,
 zg 7 (.al [.p .nilf] true),
 zn (.st t7 t19 1)] [0,3,4,7,14,15,16] [3,4,7]
 (zr [zp 21 7 0,
 zk 22 21 1,
 zm 23 0,
 zl 24 3 7,
 zg 25 (.callv t22 [t23,t24] false),
 zm 20 25,
 zx 26 20 0,
 zx 27 20 1,
 zg 8 (.al [zo,zo,zo,.nils,.nils,.nils] true),
 zn (.st t8 t26 6),
 zm 9 27] [0,3,4,8,9,14,15,16] [3,4,8]
 (zr [zm 28 9] [0,3,4,8,14,15,16,28] [3,4,8]
 (.cond t28
 (zr [zl 29 8 6,
 zn (.st t4 t29 6),
 zg 5 (.mov zT)] [4,5] [4]
 .ret)
 .skip)))))
 (.reg false [zg 30 (.bin .add t16 (zi 1)),
 zm 16 30] [0,3,4,14,15,16] [3,4])))))
def ir32:IFn:=
⟨(zr [zg 3 (.bx t1 7 true),
 zg 4 (.al [zo,zo,zo,.nils,.nils,.nils] true),
 zg 5 (.mov zF)] [0,3,4] [3,4]
 (.seq (zr [zg 10 (.bld [.p .nilf] [(0,1,(.c (.p (.fn 116))))]),
 zg 11 (.bld [.p .nilf] [(0,1,(.c (.p (.fn 117))))]),
 zg 12 (.bld [.p .nilf] [(0,1,(.c (.p (.fn 118))))]),
 zg 13 (.bld [.p .nilf] [(0,1,(.c (.p (.fn 119))))]),
 zg 14 (.bsl 1 4 [.p .nilf] [(0,t10),(1,t11),(2,t12),(3,t13)]),
 zh 15 14,
 zg 16 (.mov (zi 0))] [0,3,4,14,15,16] [3,4]
 (.block 0 q07g))
 (zr [zg 31 (.bld [zo,zo,zo,.nils,.nils,.nils] []),
 zn (.st t4 t31 6),
 zg 5 (.mov zF)] [4,5] [4]
 .ret))),
 [.cell 4 6 true,.tmp 5],false⟩
def q0hc:IC:=
 (.loop [0,6,7,8,67,68,69] [6,7,8] (zr [zg 70 (.bin .lss t69 t68)] [0,6,7,8,67,68,69,70] [6,7,8]
 (.seq (.cond t70
 .skip
 (.exit 0))
 (.seq (.block 1 (zr [zg 71 (.ixs t67 t69 1),
 zk 72 71 1,
 zm 10 72] [0,6,7,8,10,67,68,69] [6,7,8]
 (.reg true [zg 73 (.ldl 8 t8 3 true),
 zm 74 0,
 zg 75 (.nck t74),
 zp 76 75 1,
 zp 77 76 21,
 zk 78 77 1,
 zm 79 10,
 zc 80 123 [t78,t79],
 zc 81 122 [t73,t80],
 zn (.stl 8 t8 t81 3)] [0,6,7,8,67,68,69] [6,7,8])))
 (.reg false [zg 82 (.bin .add t69 (zi 1)),
 zm 69 82] [0,6,7,8,67,68,69] [6,7,8])))))
def ir33:IFn:=
⟨(zr [zg 4 (.bx t1 7 true),
 zg 5 (.bx t2 6 true),
 zg 6 (.al [zo,zo,zo,zo,zo,zo,zo] true)] [0,4,5,6] [4,5,6]
 (.seq (zr [zm 11 0,
 zl 12 4 7,
 zc 13 38 [t11,t12],
 zj 14 13] [0,4,5,6,14] [4,5,6]
 (.cond t14
 (zr [zg 15 (.bld [zo,zo,zo,zo,zo,zo,zo] []),
 zn (.st t6 t15 7)] [6] [6]
 .ret)
 .skip))
 (.seq (.prep [7] (.reg true [zp 16 4 0,
 zg 17 (.ldl 4 t16 1 false),
 zp 18 4 1,
 zg 19 (.ldl 4 t18 1 false),
 zg 20 (.bin .add t19 (zi 1)),
 zm 21 0,
 zg 22 (.nck t21),
 zp 23 22 1,
 zp 24 23 0,
 zp 25 24 0,
 zk 26 25 1,
 zg 27 (.mnmx false t20 t26),
 zg 28 (.bld [zo,zo,zo,zo,zo,zo,zo] [(0,1,t17),(1,1,t27)]),
 zg 7 (.alp [zo,zo,zo,zo,zo,zo,zo]),
 zn (.stl 7 t7 t28 7)] [0,4,5,6,7] [4,5,6,7]))
 (.seq (zr [zp 29 5 0,
 zk 30 29 1,
 zg 31 (.bin .eql t30 (zi 1))] [0,4,5,6,7,31] [4,5,6,7]
 (.cond t31
 (.reg true [zm 32 0,
 zg 33 (.nck t32),
 zp 34 33 0,
 zk 35 34 1,
 zg 36 (.nck t35),
 zp 37 36 0,
 zk 38 37 1,
 zp 39 5 2,
 zg 40 (.ldl 5 t39 1 false),
 zc 41 87 [t38,t40],
 zp 42 7 0,
 zn (.stl 7 t42 t41 1)] [0,4,5,6,7] [4,5,6,7])
 .skip))
 (.seq (.reg true [zm 44 0,
 zg 45 (.nck t44),
 zp 46 45 1,
 zp 47 46 20,
 zk 48 47 1,
 zm 49 0,
 zg 50 (.ldl 4 t4 7 true),
 zp 51 5 2,
 zg 52 (.ldl 5 t51 1 false),
 zg 53 (.call 121 [t49,t50,t52] true),
 zp 54 5 3,
 zg 55 (.ldl 5 t54 1 false),
 zc 56 120 [t48,t53,t55],
 zm 43 56,
 zx 57 43 0,
 zx 58 43 1,
 zp 59 7 2,
 zn (.stl 7 t59 t57 1),
 zp 60 7 3,
 zn (.stl 7 t60 t58 1)] [0,4,5,6,7] [4,5,6,7])
 (zr [zp 61 4 4,
 zl 62 61 3,
 zg 8 (.al [zo,zo,zo] true),
 zn (.st t8 t62 3)] [0,5,6,7,8] [5,6,7,8]
 (.seq (zr [zp 63 5 4,
 zk 64 63 1,
 zp 65 5 5,
 zk 66 65 1,
 zg 67 (.bsl 1 2 [.nils] [(0,t64),(1,t66)]),
 zh 68 67,
 zg 69 (.mov (zi 0))] [0,6,7,8,67,68,69] [6,7,8]
 (.block 0 q0hc))
 (zr [zl 83 8 3,
 zp 84 7 4,
 zn (.st t84 t83 3)] [6,7] [6,7]
 (zr [zl 85 7 7,
 zn (.st t6 t85 7)] [6] [6]
 .ret))))))))),
 [.cell 6 7 true],false⟩
def ir38:IFn:=
⟨(zr [zg 3 (.bx t1 7 true),
 zg 4 (.mov zF)] [0,3] [3]
 (.seq (.seq (.reg true [zm 6 0,
 zg 7 (.eqn .ptr false t6),
 zm 8 7,
 zf 9 8 (.off t3 0),
 zf 10 8 (.ldl 3 t9 1 false),
 zf 11 8 (.bin .lss t10 (zi 0)),
 zg 12 (.pick t8 zT t11),
 zm 13 12,
 zf 14 13 (.off t3 0),
 zf 15 13 (.ldl 3 t14 1 false),
 zf 16 13 (.mov t0),
 zf 17 13 (.nck t16),
 zf 18 13 (.off t17 0),
 zf 19 13 (.ld t18 1 false),
 zf 20 13 (.nck t19),
 zf 21 13 (.off t20 0),
 zf 22 13 (.ld t21 1 false),
 zf 23 13 (.call 82 [t22] false),
 zf 24 13 (.bin .gtr t15 t23),
 zg 25 (.pick t13 zT t24),
 zm 26 25,
 zf 27 26 (.mov t0),
 zf 28 26 (.nck t27),
 zf 29 26 (.off t28 0),
 zf 30 26 (.ld t29 1 false),
 zf 31 26 (.nck t30),
 zf 32 26 (.off t31 0),
 zf 33 26 (.ld t32 1 false),
 zf 34 26 (.off t3 0),
 zf 35 26 (.ldl 3 t34 1 false),
 zf 36 26 (.call 87 [t33,t35] false),
 zf 37 26 (.off t3 0),
 zf 38 26 (.ldl 3 t37 1 false),
 zf 39 26 (.bin .neq t36 t38),
 zg 40 (.pick t26 zT t39),
 zm 41 40,
 zf 42 41 (.off t3 1),
 zf 43 41 (.ldl 3 t42 1 false),
 zf 44 41 (.bin .lss t43 (zi 0)),
 zg 45 (.pick t41 zT t44),
 zm 46 45,
 zf 47 46 (.off t3 1),
 zf 48 46 (.ldl 3 t47 1 false),
 zf 49 46 (.mov t0),
 zf 50 46 (.nck t49),
 zf 51 46 (.off t50 1),
 zf 52 46 (.off t51 0),
 zf 53 46 (.off t52 0),
 zf 54 46 (.ld t53 1 false),
 zf 55 46 (.bin .gtr t48 t54),
 zg 56 (.pick t46 zT t55)] [0,3,56] [3])
 (.cond t56
 (zr [zg 4 (.mov zF)] [4] []
 .ret)
 .skip))
 (zr [zp 57 3 4,
 zl 58 57 3,
 zg 5 (.al [zo,zo,zo] true),
 zn (.st t5 t58 3)] [0,3,5] [3,5]
 (.seq (.reg true [zm 59 0,
 zg 60 (.ldl 3 t3 7 true),
 zc 61 132 [t59,t60],
 zm 62 61,
 zt 63 62 (.bld [zo,zo,zo] []),
 zt 64 62 (.ldl 5 t5 3 true),
 zt 65 62 (.call 133 [t63,t64] false),
 zg 66 (.pick t62 t65 zF),
 zm 67 66,
 zt 68 67 (.ldl 5 t5 3 true),
 zt 69 67 (.mov t0),
 zt 70 67 (.nck t69),
 zt 71 67 (.off t70 0),
 zt 72 67 (.ld t71 1 false),
 zt 73 67 (.nck t72),
 zt 74 67 (.off t73 2),
 zt 75 67 (.ld t74 1 false),
 zt 76 67 (.off t3 0),
 zt 77 67 (.ldl 3 t76 1 false),
 zt 78 67 (.call 77 [t75,t77] false),
 zt 79 67 (.call 133 [t68,t78] false),
 zg 80 (.pick t67 t79 zF),
 zm 4 80] [4] [])
 .ret)))),
 [.tmp 4],false⟩
def ir40:IFn:=
⟨(zr [zg 2 (.bx t0 6 true),
 zg 3 (.bx t1 6 true),
 zg 4 (.mov zF)] [2,3] [2,3]
 (zr [zp 5 2 0,
 zk 6 5 1,
 zp 7 3 0,
 zk 8 7 1,
 zg 9 (.bin .eql t6 t8),
 zm 10 9,
 zt 11 10 (.off t2 1),
 zt 12 10 (.ld t11 1 false),
 zt 13 10 (.off t3 1),
 zt 14 10 (.ld t13 1 false),
 zt 15 10 (.bin .eql t12 t14),
 zg 16 (.pick t10 t15 zF),
 zm 17 16,
 zt 18 17 (.off t2 2),
 zt 19 17 (.ld t18 1 false),
 zt 20 17 (.off t3 2),
 zt 21 17 (.ld t20 1 false),
 zt 22 17 (.bin .eql t19 t21),
 zg 23 (.pick t17 t22 zF),
 zm 24 23,
 zt 25 24 (.off t2 3),
 zt 26 24 (.ld t25 1 false),
 zt 27 24 (.off t3 3),
 zt 28 24 (.ld t27 1 false),
 zt 29 24 (.call 140 [t26,t28] false),
 zg 30 (.pick t24 t29 zF),
 zm 31 30,
 zt 32 31 (.off t2 4),
 zt 33 31 (.ld t32 1 false),
 zt 34 31 (.off t3 4),
 zt 35 31 (.ld t34 1 false),
 zt 36 31 (.call 141 [t33,t35] false),
 zg 37 (.pick t31 t36 zF),
 zm 38 37,
 zt 39 38 (.off t2 5),
 zt 40 38 (.ld t39 1 false),
 zt 41 38 (.off t3 5),
 zt 42 38 (.ld t41 1 false),
 zt 43 38 (.call 141 [t40,t42] false),
 zg 44 (.pick t38 t43 zF),
 zm 4 44] [4] []
 .ret)),
 [.tmp 4],false⟩
def ir71:IFn:=
⟨(zr [zg 1 (.bx t0 22 true),
 zg 2 (.mov zF)] [1] [1]
 (zr [zl 6 1 22,
 zc 7 188 [t6],
 zm 5 7,
 zx 8 5 0,
 zx 9 5 1,
 zm 3 8,
 zm 4 9] [3] []
 (zr [zm 10 3,
 zg 11 (.bin .eql t10 (zi 0)),
 zm 2 11] [2] []
 .ret))),
 [.tmp 2],false⟩
def q0hd:IC:=
 (.loop [2,3,16,17,18] [2,3] (zr [zg 19 (.bin .lss t18 t17)] [2,3,16,17,18,19] [2,3]
 (.seq (.cond t19
 .skip
 (.exit 0))
 (.seq (.block 1 (zr [zg 20 (.ixs t16 t18 2),
 zl 21 20 2,
 zg 5 (.al [.nils,.nils] true),
 zn (.st t5 t21 2)] [2,3,5,16,17,18] [2,3,5]
 (.reg true [zp 22 3 20,
 zg 23 (.ldl 3 t22 1 false),
 zp 24 5 0,
 zg 25 (.ldl 5 t24 1 false),
 zg 26 (.callz 191 [t25]),
 zp 27 5 1,
 zg 28 (.ldl 5 t27 1 false),
 zg 29 (.callz 192 [t28]),
 zg 30 (.bld [.nils,.nils] [(0,1,t26),(1,1,t29)]),
 zg 31 (.bsl 2 1 [.nils,.nils] [(0,t30)]),
 zg 32 (.app t23 t31 2),
 zp 33 3 20,
 zn (.stl 3 t33 t32 1)] [2,3,16,17,18] [2,3])))
 (.reg false [zg 34 (.bin .add t18 (zi 1)),
 zm 18 34] [2,3,16,17,18] [2,3])))))
def ir72:IFn:=
⟨(zr [zg 1 (.bx t0 22 true),
 zg 2 (.al [zo,zo,zo,zo,zo,zo,zo,zo,zo,zo,zo,zo,zo,zo,zo,zo,zo,zo,.p (.bool false),.nils,.nils,.nils] true)] [1,2] [1,2]
 (.seq (.prep [3] (.reg true [zp 6 1 0,
 zg 7 (.ldl 1 t6 19 true),
 zp 8 1 19,
 zg 9 (.ldl 1 t8 1 false),
 zg 10 (.callz 189 [t9]),
 zp 11 1 21,
 zg 12 (.ldl 1 t11 1 false),
 zg 13 (.callz 190 [t12]),
 zg 14 (.bld [zo,zo,zo,zo,zo,zo,zo,zo,zo,zo,zo,zo,zo,zo,zo,zo,zo,zo,.p (.bool false),.nils,.nils,.nils] [(0,19,t7),(19,1,t10),(21,1,t13)]),
 zg 3 (.alp [zo,zo,zo,zo,zo,zo,zo,zo,zo,zo,zo,zo,zo,zo,zo,zo,zo,zo,.p (.bool false),.nils,.nils,.nils]),
 zn (.stl 3 t3 t14 22)] [1,2,3] [1,2,3]))
 (.seq (zr [zp 15 1 20,
 zk 16 15 1,
 zh 17 16,
 zg 18 (.mov (zi 0))] [2,3,16,17,18] [2,3]
 (.block 0 q0hd))
 (zr [zl 35 3 22,
 zn (.st t2 t35 22)] [2] [2]
 .ret)))),
 [.cell 2 22 true],false⟩
def q09i:IC:=
 (.loop [2,3,4,44,45] [2,3] (zr [zg 46 (.bin .lss t45 t44)] [2,3,4,44,45,46] [2,3]
 (.seq (.cond t46
 .skip
 (.exit 0))
 (.seq (.block 1 (zr [zm 47 45,
 zm 5 47] [2,3,4,5,44,45] [2,3]
 (.reg true [zg 48 (.ldl 3 t3 1 true),
 zp 49 4 21,
 zk 50 49 1,
 zm 51 5,
 zg 52 (.ixs t50 t51 3),
 zp 53 52 1,
 zg 54 (.bsl 1 1 [.p .nilp] [(0,t53)]),
 zc 55 195 [t48,(.c (.p (.fn 197))),t54]] [2,3,4,44,45] [2,3])))
 (.reg false [zg 56 (.bin .add t45 (zi 1)),
 zm 45 56] [2,3,4,44,45] [2,3])))))
def ir73:IFn:=
⟨(zr [zg 1 (.bx t0 22 true),
 zg 2 (.al [zo,zo,zo,zo,zo,zo,zo,zo,zo,zo,zo,zo,zo,zo,zo,zo,zo,zo,.p (.bool false),.nils,.nils,.nils] true)] [1,2] [1,2]
 (zr [zp 6 1 0,
 zp 7 6 5,
 zk 8 7 1,
 zg 9 (.bld [zo] [(0,1,t8)]),
 zg 3 (.al [zo] true),
 zn (.st t3 t9 1)] [1,2,3] [1,2,3]
 (.seq (zr [zp 10 3 0,
 zk 11 10 1,
 zg 12 (.bin .lss t11 (zi 1))] [1,2,3,12] [1,2,3]
 (.cond t12
 (zr [zl 13 1 22,
 zn (.st t2 t13 22)] [2] [2]
 .ret)
 .skip))
 (.seq (.prep [4] (.reg true [zp 14 1 0,
 zg 15 (.ldl 1 t14 19 true),
 zg 16 (.ldl 3 t3 1 true),
 zp 17 1 19,
 zg 18 (.ldl 1 t17 1 false),
 zc 19 193 [t16,t18],
 zg 20 (.ldl 3 t3 1 true),
 zp 21 1 20,
 zg 22 (.ldl 1 t21 1 false),
 zc 23 194 [t20,t22],
 zp 24 1 21,
 zg 25 (.ldl 1 t24 1 false),
 zc 26 190 [t25],
 zg 27 (.bld [zo,zo,zo,zo,zo,zo,zo,zo,zo,zo,zo,zo,zo,zo,zo,zo,zo,zo,.p (.bool false),.nils,.nils,.nils] [(0,19,t15),(19,1,t19),(20,1,t23),(21,1,t26)]),
 zg 4 (.alp [zo,zo,zo,zo,zo,zo,zo,zo,zo,zo,zo,zo,zo,zo,zo,zo,zo,zo,.p (.bool false),.nils,.nils,.nils]),
 zn (.stl 4 t4 t27 22)] [2,3,4] [2,3,4]))
 (.esc [4] (zr [zl 28 3 1,
 zp 29 4 0,
 zp 30 29 3,
 zp 31 4 0,
 zp 32 31 4,
 zg 33 (.bsl 1 2 [.p .nilp] [(0,t30),(1,t32)]),
 zc 34 195 [t28,(.c (.p (.fn 196))),t33]] [2,3,4] [2,3]
 (zr [zl 35 3 1,
 zp 36 4 0,
 zp 37 36 6,
 zp 38 4 0,
 zp 39 38 7,
 zg 40 (.bsl 1 2 [.p .nilp] [(0,t37),(1,t39)]),
 zc 41 195 [t35,(.c (.p (.fn 197))),t40]] [2,3,4] [2,3]
 (.seq (zr [zp 42 4 21,
 zk 43 42 1,
 zh 44 43,
 zg 45 (.mov (zi 0))] [2,3,4,44,45] [2,3]
 (.block 0 q09i))
 (zr [zl 57 4 22,
 zn (.st t2 t57 22)] [2] [2]
 .ret))))))))),
 [.cell 2 22 true],false⟩
def q09j:IC:=
 (.loop [0,4,23,24] [21] (zr [zg 25 (.bin .lss t24 t23)] [0,4,23,24,25] [21]
 (.seq (.cond t25
 .skip
 (.exit 0))
 (.seq (.block 1 (zr [zm 26 24,
 zm 5 26] [0,4,5,23,24] [21]
 (zr [zm 27 0,
 zm 28 5,
 zg 29 (.ixs t27 t28 7),
 zl 30 29 7,
 zc 31 198 [t30],
 zg 6 (.al [zo,zo,zo,zo,zo,zo] true),
 zn (.st t6 t31 6)] [0,4,5,6,23,24] [6,21]
 (.seq (zr [zl 32 6 6,
 zc 33 199 [t32],
 zj 34 33] [0,4,5,6,23,24,34] [6,21]
 (.cond t34
 (zr [zg 2 (.mov (.c (.p .nilp))),
 zg 3 (.mov zF)] [2,3] [21]
 .ret)
 .skip))
 (.seq (.reg true [zm 36 4,
 zg 37 (.nck t36),
 zp 38 37 1,
 zg 39 (.ldl 21 t38 1 false),
 zm 40 5,
 zg 41 (.bin .add t40 (zi 1)),
 zm 42 4,
 zg 43 (.nck t42),
 zp 44 43 1,
 zg 45 (.ldl 21 t44 1 false),
 zm 46 5,
 zg 47 (.ixs t45 t46 6),
 zl 48 47 6,
 zg 49 (.ldl 6 t6 6 true),
 zc 50 200 [t48,t49],
 zm 35 50,
 zx 51 35 0,
 zx 52 35 1,
 zg 53 (.ixs t39 t41 6),
 zn (.st t53 t51 6)] [0,4,5,23,24] [21])
 (.seq (.reg true [zm 54 4,
 zg 55 (.nck t54),
 zp 56 55 2,
 zg 57 (.ldl 21 t56 1 false),
 zm 58 5,
 zg 59 (.bin .add t58 (zi 1)),
 zm 60 4,
 zg 61 (.nck t60),
 zp 62 61 2,
 zg 63 (.ldl 21 t62 1 false),
 zm 64 5,
 zg 65 (.ixs t63 t64 1),
 zk 66 65 1,
 zg 67 (.ixs t57 t59 1),
 zn (.st t67 t66 1)] [0,4,5,23,24] [21])
 (zr [zm 68 0,
 zm 69 5,
 zg 70 (.ixs t68 t69 7),
 zp 71 70 0,
 zk 72 71 1,
 zg 73 (.bin .eql t72 (zi 1))] [0,4,5,23,24,73] [21]
 (.cond t73
 (.reg true [zm 74 4,
 zg 75 (.nck t74),
 zp 76 75 2,
 zg 77 (.ldl 21 t76 1 false),
 zm 78 5,
 zg 79 (.bin .add t78 (zi 1)),
 zg 80 (.ixs t77 t79 1),
 zk 81 80 1,
 zm 82 0,
 zm 83 5,
 zg 84 (.ixs t82 t83 7),
 zp 85 84 1,
 zk 86 85 1,
 zg 87 (.bin .add t81 t86),
 zg 88 (.ixs t77 t79 1),
 zn (.st t88 t87 1)] [0,4,23,24] [21])
 .skip))))))))
 (.reg false [zg 89 (.bin .add t24 (zi 1)),
 zm 24 89] [0,4,23,24] [21])))))
def ir74:IFn:=
⟨(zr [zg 2 (.mov (.c (.p .nilp))),
 zg 3 (.mov zF)] [0] []
 (.seq (zr [zm 7 0,
 zh 8 7,
 zg 9 (.bin .gtr t8 (zi 4096))] [0,9] []
 (.cond t9
 (zr [zg 2 (.mov (.c (.p .nilp))),
 zg 3 (.mov zF)] [2,3] [21]
 .ret)
 .skip))
 (.seq (.rsv [6,1] (.prep [21] (.reg true [zm 10 0,
 zg 11 (.callz 189 [t10]),
 zm 12 0,
 zh 13 12,
 zg 14 (.bin .add t13 (zi 1)),
 zg 15 (.mkh 2 6 [zo,zo,zo,zo,zo,zo] t14),
 zm 16 0,
 zh 17 16,
 zg 18 (.bin .add t17 (zi 1)),
 zg 19 (.mkh 1 1 [zo] t18),
 zg 20 (.bld [.nils,.nils,.nils] [(0,1,t11),(1,1,t15),(2,1,t19)]),
 zg 21 (.bxp t20 3),
 zm 4 21] [0,4] [21])))
 (.seq (zr [zm 22 0,
 zh 23 22,
 zg 24 (.mov (zi 0))] [0,4,23,24] [21]
 (.block 0 q09j))
 (.seq (.esc [21] (.reg false [zm 90 4,
 zm 2 90,
 zg 3 (.mov zT)] [2,3] [21]))
 .ret))))),
 [.tmp 2,.tmp 3],false⟩
def ir75:IFn:=
⟨(zr [zg 2 (.mov (.c (.p .nilp)))] [0] []
 (zr [zm 3 0,
 zg 4 (.callz 189 [t3]),
 zg 5 (.bld [.nils] [(0,1,t4)]),
 zg 6 (.bx t5 1 false),
 zm 2 6] [2] []
 .ret)),
 [.tmp 2],false⟩
def q09k:IC:=
 (.loop [1,5,22,23,24] [21] (zr [zg 25 (.bin .lss t24 t23)] [1,5,22,23,24,25] [21]
 (.seq (.cond t25
 .skip
 (.exit 0))
 (.seq (.block 1 (zr [zm 26 24,
 zg 27 (.ixs t22 t24 7),
 zl 28 27 7,
 zg 7 (.al [zo,zo,zo,zo,zo,zo,zo] true),
 zm 6 26,
 zn (.st t7 t28 7)] [1,5,6,7,22,23,24] [7,21]
 (.seq (.prep [9,10] (.reg true [zm 29 5,
 zg 30 (.nck t29),
 zp 31 30 1,
 zg 32 (.ldl 21 t31 1 false),
 zm 33 6,
 zg 34 (.ixs t32 t33 1),
 zg 35 (.ldh t34 1 false),
 zm 36 5,
 zg 37 (.nck t36),
 zp 38 37 2,
 zg 39 (.ldl 21 t38 1 false),
 zm 40 6,
 zg 41 (.ixs t39 t40 3),
 zg 42 (.ldh t41 3 true),
 zm 43 5,
 zg 44 (.nck t43),
 zp 45 44 3,
 zg 46 (.ldl 21 t45 1 false),
 zm 47 6,
 zg 48 (.ixs t46 t47 3),
 zg 49 (.ldh t48 3 true),
 zg 9 (.alp [zo,zo,zo]),
 zg 10 (.alp [zo,zo,zo]),
 zm 8 35,
 zn (.stl 9 t9 t42 3),
 zn (.stl 10 t10 t49 3)] [1,5,7,8,9,10,22,23,24] [7,9,10,21]))
 (.seq (zr [zp 50 7 0,
 zk 51 50 1] [1,5,7,8,9,10,22,23,24,51] [7,9,10,21]
 (.block 2 (zr [zg 53 (.bin .eql t51 (zi 5)),
 zm 52 53] [1,5,7,8,9,10,22,23,24,51,52] [7,9,10,21]
 (.cond t52
 (.reg false [zm 54 8,
 zg 55 (.bin .add t54 (zi 1)),
 zm 8 55] [1,5,8,9,10,22,23,24] [9,10,21])
 (zr [zg 57 (.bin .eql t51 (zi 6)),
 zm 56 57] [1,5,7,8,9,10,22,23,24,51,56] [7,9,10,21]
 (.cond t56
 (zr [zm 59 1,
 zp 60 7 6,
 zk 61 60 1,
 zc 62 201 [t59,t61],
 zm 58 62,
 zx 63 58 0,
 zx 64 58 1,
 zg 11 (.al [zo,zo,zo] true),
 zn (.st t11 t63 3),
 zm 12 64] [1,5,8,9,10,11,12,22,23,24] [9,10,11,21]
 (zr [zm 65 12,
 zm 66 65,
 zt 67 66 (.off t11 0),
 zt 68 66 (.ld t67 1 false),
 zt 69 66 (.bin .geq t68 (zi 0)),
 zg 70 (.pick t66 t69 zF),
 zm 71 70,
 zt 72 71 (.off t11 0),
 zt 73 71 (.ld t72 1 false),
 zt 74 71 (.bin .lss t73 (zi 3)),
 zg 75 (.pick t71 t74 zF)] [1,5,8,9,10,11,22,23,24,75] [9,10,11,21]
 (.cond t75
 (.reg false [zp 76 11 0,
 zk 77 76 1,
 zg 78 (.ixa t9 t77 1 3),
 zk 79 78 1,
 zg 80 (.bin .add t79 (zi 1)),
 zg 81 (.ixa t9 t77 1 3),
 zn (.st t81 t80 1)] [1,5,8,9,10,22,23,24] [9,10,21])
 .skip)))
 (zr [zg 83 (.bin .eql t51 (zi 7)),
 zm 82 83] [1,5,8,9,10,22,23,24,82] [9,10,21]
 (.cond t82
 (zr [zl 84 10 3,
 zl 85 9 3,
 zg 86 (.eqa true [true,true,true] t84 t85)] [1,5,8,9,10,22,23,24,86] [9,10,21]
 (.cond t86
 (.reg false [zl 87 9 3,
 zn (.st t10 t87 3)] [1,5,8,9,10,22,23,24] [9,10,21])
 .skip))
 .skip))))))))
 (.reg true [zm 88 5,
 zm 89 5,
 zm 90 5,
 zm 91 5,
 zg 92 (.nck t91),
 zp 93 92 1,
 zg 94 (.ldl 21 t93 1 false),
 zm 95 8,
 zg 96 (.bsl 1 1 [zo] [(0,t95)]),
 zg 97 (.apo t94 t96 1 t24 1),
 zm 98 5,
 zg 99 (.nck t98),
 zp 100 99 2,
 zg 101 (.ldl 21 t100 1 false),
 zg 102 (.ldl 9 t9 3 true),
 zg 103 (.bsl 3 1 [zo,zo,zo] [(0,t102)]),
 zg 104 (.apo t101 t103 3 t24 1),
 zm 105 5,
 zg 106 (.nck t105),
 zp 107 106 3,
 zg 108 (.ldl 21 t107 1 false),
 zg 109 (.ldl 10 t10 3 true),
 zg 110 (.bsl 3 1 [zo,zo,zo] [(0,t109)]),
 zg 111 (.apo t108 t110 3 t24 1),
 zg 112 (.nck t88),
 zp 113 112 1,
 zn (.stl 21 t113 t97 1),
 zg 114 (.nck t89),
 zp 115 114 2,
 zn (.stl 21 t115 t104 1),
 zg 116 (.nck t90),
 zp 117 116 3,
 zn (.stl 21 t117 t111 1)] [1,5,22,23,24] [21])))))
 (.reg false [zg 118 (.bin .add t24 (zi 1)),
 zm 24 118] [1,5,22,23,24] [21])))))
def ir76:IFn:=
⟨(zr [zg 4 (.mov (.c (.p .nilp)))] [0,1] []
 (zr [zm 13 0,
 zg 14 (.callz 189 [t13]),
 zg 15 (.bsr 1 1 [zo] [(0,(zi 0))]),
 zg 16 (.bld [zo,zo,zo] []),
 zg 17 (.bsr 3 1 [zo,zo,zo] [(0,t16)]),
 zg 18 (.bld [zo,zo,zo] []),
 zg 19 (.bsr 3 1 [zo,zo,zo] [(0,t18)]),
 zg 20 (.bld [.nils,.nils,.nils,.nils] [(0,1,t14),(1,1,t15),(2,1,t17),(3,1,t19)]),
 zg 21 (.bx t20 4 true),
 zm 5 21] [0,1,5] [21]
 (.seq (zr [zm 22 0,
 zh 23 22,
 zg 24 (.mov (zi 0))] [1,5,22,23,24] [21]
 (.block 0 q09k))
 (.seq (.esc [21] (.reg false [zm 119 5,
 zm 4 119] [4] [21]))
 .ret)))),
 [.tmp 4],false⟩
def ir77:IFn:=
⟨(zr [zg 4 (.al [zo,zo,zo] true)] [0,1,4] [4]
 (zr [zm 7 0,
 zm 8 1,
 zc 9 202 [t7,t8],
 zm 6 9,
 zx 10 6 0,
 zx 11 6 1,
 zm 1 10,
 zm 5 11] [0,1,4,5] [4]
 (.seq (zr [zm 12 5,
 zj 13 12] [0,1,4,13] [4]
 (.cond t13
 (zr [zg 14 (.bld [zo,zo,zo] []),
 zn (.st t4 t14 3)] [4] [4]
 .ret)
 .skip))
 (zr [zm 15 0,
 zg 16 (.nck t15),
 zp 17 16 2,
 zk 18 17 1,
 zm 19 1,
 zg 20 (.ixs t18 t19 3),
 zl 21 20 3,
 zn (.st t4 t21 3)] [4] [4]
 .ret)))),
 [.cell 4 3 true],false⟩
def q0cr:IC:=
 (.loop [3,6,7,8] [] (zr [zg 9 (.bin .lss t8 t7)] [3,6,7,8,9] []
 (.seq (.cond t9
 .skip
 (.exit 0))
 (.seq (.block 1 (zr [zg 10 (.ixs t6 t8 2),
 zl 11 10 2,
 zg 5 (.al [.nils,.nils] true),
 zn (.st t5 t11 2)] [3,5,6,7,8] [5]
 (.reg false [zm 12 3,
 zp 13 5 0,
 zk 14 13 1,
 zh 15 14,
 zg 16 (.bin .add t12 t15),
 zm 3 16] [3,6,7,8] [])))
 (.reg false [zg 17 (.bin .add t8 (zi 1)),
 zm 8 17] [3,6,7,8] [])))))
def ir78:IFn:=
⟨(zr [zg 2 (.mov (zi 0))] [0] []
 (zr [zg 3 (.mov (zi 0))] [0,3] []
 (.seq (zr [zm 6 0,
 zh 7 6,
 zg 8 (.mov (zi 0))] [3,6,7,8] []
 (.block 0 q0cr))
 (zr [zm 18 3,
 zm 2 18] [2] []
 .ret)))),
 [.tmp 2],false⟩
def ir81:IFn:=
⟨(zr [zg 2 (.mov (.c (.p .nilp)))] [0] []
 (zr [zm 3 0,
 zc 4 211 [t3],
 zc 5 212 [t4],
 zm 2 5] [2] []
 .ret)),
 [.tmp 2],false⟩
def ir82:IFn:=
⟨(zr [zg 2 (.mov (zi 0))] [0] []
 (.seq (zr [zm 3 0,
 zg 4 (.eqn .ptr false t3)] [0,4] []
 (.cond t4
 (zr [zg 2 (.mov (zi 0))] [2] []
 .ret)
 .skip))
 (zr [zm 5 0,
 zg 6 (.nck t5),
 zp 7 6 0,
 zk 8 7 1,
 zh 9 8,
 zm 2 9] [2] []
 .ret))),
 [.tmp 2],false⟩
def ir86:IFn:=
⟨(zr [zg 2 (.bx t0 2 true),
 zg 3 (.bx t1 2 true),
 zg 4 (.al [zo,zo] true)] [2,3,4] [2,3,4]
 (.seq (.reg true [zp 5 2 0,
 zg 6 (.ldl 2 t5 1 false),
 zp 7 3 0,
 zg 8 (.ldl 3 t7 1 false),
 zc 9 215 [t6,t8],
 zp 10 2 1,
 zg 11 (.ldl 2 t10 1 false),
 zp 12 3 1,
 zg 13 (.ldl 3 t12 1 false),
 zc 14 216 [t11,t13],
 zg 15 (.bld [zo,zo] [(0,1,t9),(1,1,t14)]),
 zn (.stl 4 t4 t15 2)] [4] [4])
 .ret)),
 [.cell 4 2 true],false⟩
def ir87:IFn:=
⟨(zr [zg 4 (.mov (zi 0))] [0,1] []
 (.seq (zr [zm 5 0,
 zg 6 (.eqn .ptr false t5)] [0,1,6] []
 (.cond t6
 (zr [zg 4 (.mov (zi 0))] [4] []
 .ret)
 .skip))
 (zr [zm 7 0,
 zm 8 1,
 zg 9 (.mnmx true t8 (zi 0)),
 zm 10 0,
 zc 11 82 [t10],
 zg 12 (.mnmx false t9 t11),
 zm 13 0,
 zg 14 (.mkf (.func 218) [t13] []),
 zc 15 217 [t7,t12,t14],
 zm 4 15] [4] []
 .ret))),
 [.tmp 4],false⟩
def ir100:IFn:=
⟨(zr [zg 2 (.al [zo,zo,zo,zo,zo,zo,zo,zo,zo,zo,zo,zo,zo,zo,zo,zo,zo,zo,.p (.bool false),.nils,.nils,.nils] true)] [0,2] [2]
 (.seq (zr [zm 3 0,
 zg 4 (.eqn .ptr false t3)] [0,2,4] [2]
 (.cond t4
 (zr [zg 5 (.bld [zo,zo,zo,zo,zo,zo,zo,zo,zo,zo,zo,zo,zo,zo,zo,zo,zo,zo,.p (.bool false),.nils,.nils,.nils] []),
 zn (.st t2 t5 22)] [2] [2]
 .ret)
 .skip))
 (zr [zm 6 0,
 zg 7 (.nck t6),
 zp 8 7 1,
 zl 9 8 22,
 zn (.st t2 t9 22)] [2] [2]
 .ret))),
 [.cell 2 22 true],false⟩
def ir116:IFn:=
⟨(zr [zg 3 (.bx t1 7 true),
 zg 4 (.al [zo,zo,zo,.nils,.nils,.nils] true),
 zg 5 (.mov zF)] [0,3,4] [3,4]
 (.seq (zr [zm 7 0,
 zl 8 3 7,
 zc 9 248 [t7,t8],
 zj 10 9,
 zm 11 10,
 zf 12 11 (.mov t0),
 zf 13 11 (.ld t3 7 true),
 zf 14 11 (.call 249 [t12,t13] false),
 zf 15 11 (.un .not t14),
 zg 16 (.pick t11 zT t15)] [0,3,4,16] [3,4]
 (.cond t16
 (zr [zg 17 (.bld [zo,zo,zo,.nils,.nils,.nils] []),
 zn (.st t4 t17 6),
 zg 5 (.mov zF)] [4,5] [4]
 .ret)
 .skip))
 (.seq (.reg true [zm 18 0,
 zc 19 81 [t18],
 zp 20 3 0,
 zg 21 (.ldl 3 t20 1 false),
 zc 22 214 [t19,t21],
 zm 6 22] [0,3,4,6] [3,4])
 (.seq (zr [zm 23 6,
 zg 24 (.bin .lss t23 (zi 0))] [0,3,4,6,24] [3,4]
 (.cond t24
 (zr [zg 25 (.bld [zo,zo,zo,.nils,.nils,.nils] []),
 zn (.st t4 t25 6),
 zg 5 (.mov zF)] [4,5] [4]
 .ret)
 .skip))
 (.seq (.reg true [zp 26 3 0,
 zg 27 (.ldl 3 t26 1 false),
 zm 28 6,
 zm 29 0,
 zc 30 100 [t29],
 zg 31 (.fldv t30 20 1 false),
 zm 32 0,
 zg 33 (.ldl 3 t3 7 true),
 zm 34 6,
 zc 35 121 [t32,t33,t34],
 zc 36 250 [t31,t35],
 zg 37 (.bld [zo,zo,zo,.nils,.nils,.nils] [(0,1,(zi 1)),(1,1,t27),(2,1,t28),(3,1,t36)]),
 zn (.stl 4 t4 t37 6),
 zg 5 (.mov zT)] [4,5] [4])
 .ret))))),
 [.cell 4 6 true,.tmp 5],false⟩
def ir117:IFn:=
⟨(zr [zg 3 (.bx t1 7 true),
 zg 4 (.al [zo,zo,zo,.nils,.nils,.nils] true),
 zg 5 (.mov zF)] [0,3,4] [3,4]
 (.seq (zr [zm 6 0,
 zl 7 3 7,
 zc 8 248 [t6,t7],
 zj 9 8] [0,3,4,9] [3,4]
 (.cond t9
 (zr [zg 10 (.bld [zo,zo,zo,.nils,.nils,.nils] []),
 zn (.st t4 t10 6),
 zg 5 (.mov zF)] [4,5] [4]
 .ret)
 .skip))
 (.seq (.reg true [zm 11 0,
 zg 12 (.ldl 3 t3 7 true),
 zm 13 0,
 zc 14 252 [t13],
 zp 15 3 0,
 zg 16 (.ldl 3 t15 1 false),
 zc 17 253 [t14,t16],
 zc 18 251 [t11,t12,t17],
 zx 19 18 0,
 zx 20 18 1,
 zn (.stl 4 t4 t19 6),
 zm 5 20] [4,5] [4])
 .ret))),
 [.cell 4 6 true,.tmp 5],false⟩
def ir118:IFn:=
⟨(zr [zg 3 (.bx t1 7 true),
 zg 4 (.al [zo,zo,zo,.nils,.nils,.nils] true),
 zg 5 (.mov zF)] [0,3,4] [3,4]
 (zr [zm 8 0,
 zc 9 100 [t8],
 zg 10 (.fldv t9 20 1 false),
 zm 6 10] [0,3,4,6] [3,4]
 (.seq (.seq (.reg true [zm 11 0,
 zg 12 (.ldl 3 t3 7 true),
 zc 13 248 [t11,t12],
 zj 14 13,
 zm 15 14,
 zf 16 15 (.off t3 0),
 zf 17 15 (.ldl 3 t16 1 false),
 zf 18 15 (.mov t0),
 zf 19 15 (.call 81 [t18] false),
 zf 20 15 (.call 82 [t19] false),
 zf 21 15 (.bin .lss t17 t20),
 zg 22 (.pick t15 zT t21),
 zm 23 22,
 zf 24 23 (.off t3 2),
 zf 25 23 (.ldl 3 t24 1 false),
 zf 26 23 (.mov t6),
 zf 27 23 (.len t26),
 zf 28 23 (.bin .eql t25 t27),
 zg 29 (.pick t23 zT t28)] [0,3,4,6,29] [3,4])
 (.cond t29
 (zr [zg 30 (.bld [zo,zo,zo,.nils,.nils,.nils] []),
 zn (.st t4 t30 6),
 zg 5 (.mov zF)] [4,5] [4]
 .ret)
 .skip))
 (zr [zm 31 0,
 zl 32 3 7,
 zp 33 3 0,
 zk 34 33 1,
 zc 35 121 [t31,t32,t34],
 zg 7 (.al [zo,zo,zo,.p (.bool false)] true),
 zn (.st t7 t35 4)] [3,4,6,7] [3,4,7]
 (zr [zp 36 7 3,
 zn (.st t36 zT 1)] [3,4,6,7] [3,4,7]
 (.seq (.reg true [zp 37 3 0,
 zg 38 (.ldl 3 t37 1 false),
 zp 39 3 0,
 zg 40 (.ldl 3 t39 1 false),
 zm 41 6,
 zg 42 (.ldl 7 t7 4 true),
 zc 43 250 [t41,t42],
 zg 44 (.bld [zo,zo,zo,.nils,.nils,.nils] [(0,1,(zi 3)),(1,1,t38),(2,1,t40),(3,1,t43)]),
 zn (.stl 4 t4 t44 6),
 zg 5 (.mov zT)] [4,5] [4])
 .ret)))))),
 [.cell 4 6 true,.tmp 5],false⟩
def ir119:IFn:=
⟨(zr [zg 3 (.bx t1 7 true),
 zg 4 (.al [zo,zo,zo,.nils,.nils,.nils] true),
 zg 5 (.mov zF)] [0,3,4] [3,4]
 (.seq (zr [zm 6 0,
 zl 7 3 7,
 zc 8 248 [t6,t7],
 zj 9 8] [0,3,4,9] [3,4]
 (.cond t9
 (zr [zg 10 (.bld [zo,zo,zo,.nils,.nils,.nils] []),
 zn (.st t4 t10 6),
 zg 5 (.mov zF)] [4,5] [4]
 .ret)
 .skip))
 (.seq (.reg true [zm 11 0,
 zg 12 (.ldl 3 t3 7 true),
 zm 13 0,
 zc 14 252 [t13],
 zp 15 3 0,
 zg 16 (.ldl 3 t15 1 false),
 zc 17 77 [t14,t16],
 zc 18 251 [t11,t12,t17],
 zx 19 18 0,
 zx 20 18 1,
 zn (.stl 4 t4 t19 6),
 zm 5 20] [4,5] [4])
 .ret))),
 [.cell 4 6 true,.tmp 5],false⟩
def ir120:IFn:=
⟨(zr [zg 4 (.bx t1 4 true),
 zg 6 (.mov (zi 0)),
 zg 7 (.mov (zi 0))] [0,2,4] [4]
 (.seq (zr [zm 9 2,
 zh 10 9,
 zg 11 (.bin .eql t10 (zi 0))] [0,2,4,11] [4]
 (.cond t11
 (.seq (.reg true [zp 12 4 0,
 zg 13 (.ldl 4 t12 1 false),
 zp 14 4 1,
 zg 15 (.ldl 4 t14 1 false),
 zm 6 13,
 zm 7 15] [6,7] [])
 .ret)
 .skip))
 (zr [zm 16 2,
 zm 17 2,
 zh 18 17,
 zg 19 (.bin .sub t18 (zi 1)),
 zg 20 (.ixs t16 t19 3),
 zl 21 20 3,
 zg 8 (.al [zo,zo,zo] true),
 zn (.st t8 t21 3)] [0,8] [8]
 (.seq (.seq (.reg true [zp 22 8 0,
 zg 23 (.ldl 8 t22 1 false),
 zg 24 (.bin .geq t23 (zi 0)),
 zm 25 24,
 zt 26 25 (.off t8 0),
 zt 27 25 (.ldl 8 t26 1 false),
 zt 28 25 (.mov t0),
 zt 29 25 (.len t28),
 zt 30 25 (.bin .lss t27 t29),
 zg 31 (.pick t25 t30 zF),
 zm 32 31,
 zt 33 32 (.off t8 2),
 zt 34 32 (.ldl 8 t33 1 false),
 zt 35 32 (.mov t0),
 zt 36 32 (.off t8 0),
 zt 37 32 (.ldl 8 t36 1 false),
 zt 38 32 (.ixs t35 t37 2),
 zt 39 32 (.off t38 0),
 zt 40 32 (.ld t39 1 false),
 zt 41 32 (.len t40),
 zt 42 32 (.bin .eql t34 t41),
 zg 43 (.pick t32 t42 zF)] [8,43] [8])
 (.cond t43
 (zr [zp 44 8 0,
 zk 45 44 1,
 zg 46 (.bin .add t45 (zi 1)),
 zm 6 46,
 zg 7 (.mov (zi 0))] [6,7] []
 .ret)
 .skip))
 (.seq (.reg true [zp 47 8 0,
 zg 48 (.ldl 8 t47 1 false),
 zp 49 8 2,
 zg 50 (.ldl 8 t49 1 false),
 zm 6 48,
 zm 7 50] [6,7] [])
 .ret))))),
 [.tmp 6,.tmp 7],false⟩
def ir121:IFn:=
⟨(zr [zg 4 (.bx t1 7 true),
 zg 6 (.al [zo,zo,zo,.p (.bool false)] true)] [0,2,4,6] [4,6]
 (.seq (zr [zm 8 0,
 zl 9 4 7,
 zc 10 38 [t8,t9],
 zj 11 10] [0,2,4,6,11] [4,6]
 (.cond t11
 (zr [zg 12 (.bld [zo,zo,zo,.p (.bool false)] []),
 zn (.st t6 t12 4)] [6] [6]
 .ret)
 .skip))
 (zr [zm 13 0,
 zg 14 (.nck t13),
 zp 15 14 0,
 zk 16 15 1,
 zg 17 (.nck t16),
 zp 18 17 2,
 zk 19 18 1,
 zm 20 2,
 zc 21 254 [t19,t20],
 zm 7 21] [0,4,6,7] [4,6]
 (.seq (.reg true [zp 22 4 2,
 zg 23 (.ldl 4 t22 1 false),
 zp 24 4 3,
 zg 25 (.ldl 4 t24 1 false),
 zm 26 7,
 zm 27 7,
 zm 28 0,
 zg 29 (.nck t28),
 zp 30 29 0,
 zk 31 30 1,
 zg 32 (.nck t31),
 zp 33 32 2,
 zk 34 33 1,
 zp 35 4 0,
 zg 36 (.ldl 4 t35 1 false),
 zc 37 254 [t34,t36],
 zg 38 (.bin .gtr t27 t37),
 zg 39 (.bld [zo,zo,zo,.p (.bool false)] [(0,1,t23),(1,1,t25),(2,1,t26),(3,1,t38)]),
 zn (.stl 6 t6 t39 4)] [6] [6])
 .ret)))),
 [.cell 6 4 true],false⟩
def ir122:IFn:=
⟨(zr [zg 2 (.bx t0 3 true),
 zg 3 (.bx t1 3 true),
 zg 4 (.al [zo,zo,zo] true)] [2,3,4] [2,3,4]
 (zr [zl 5 2 3,
 zl 6 3 3,
 zc 7 255 [t5,t6,(zi (-1073741824)),(.c (.p (.fn 256)))],
 zn (.st t4 t7 3)] [4] [4]
 .ret)),
 [.cell 4 3 true],false⟩
def q0dk:IC:=
 (.loop [0,4,5,10,11,12] [4,5] (zr [zg 13 (.bin .lss t12 t11)] [0,4,5,10,11,12,13] [4,5]
 (.seq (.cond t13
 .skip
 (.exit 0))
 (.seq (.block 1 (zr [zg 14 (.ixs t10 t12 1),
 zk 15 14 1,
 zm 7 15] [0,4,5,7,10,11,12] [4,5]
 (zr [zm 17 0,
 zm 18 7,
 zc 19 201 [t17,t18],
 zm 16 19,
 zx 20 16 0,
 zx 21 16 1,
 zg 8 (.al [zo,zo,zo] true),
 zn (.st t8 t20 3),
 zm 9 21] [0,4,5,8,9,10,11,12] [4,5,8]
 (zr [zm 22 9,
 zm 23 22,
 zt 24 23 (.off t8 0),
 zt 25 23 (.ld t24 1 false),
 zt 26 23 (.bin .geq t25 (zi 0)),
 zg 27 (.pick t23 t26 zF),
 zm 28 27,
 zt 29 28 (.off t8 0),
 zt 30 28 (.ld t29 1 false),
 zt 31 28 (.bin .lss t30 (zi 3)),
 zg 32 (.pick t28 t31 zF)] [0,4,5,8,10,11,12,32] [4,5,8]
 (.cond t32
 (.reg false [zp 33 8 0,
 zk 34 33 1,
 zg 35 (.ixa t5 t34 1 3),
 zk 36 35 1,
 zg 37 (.bin .add t36 (zi 1)),
 zg 38 (.ixa t5 t34 1 3),
 zn (.st t38 t37 1)] [0,4,5,10,11,12] [4,5])
 .skip)))))
 (.reg false [zg 39 (.bin .add t12 (zi 1)),
 zm 12 39] [0,4,5,10,11,12] [4,5])))))
def ir123:IFn:=
⟨(zr [zg 4 (.al [zo,zo,zo] true)] [0,1,4] [4]
 (zr [zg 5 (.al [zo,zo,zo] true)] [0,1,4,5] [4,5]
 (.seq (zr [zm 10 1,
 zh 11 10,
 zg 12 (.mov (zi 0))] [0,4,5,10,11,12] [4,5]
 (.block 0 q0dk))
 (zr [zl 40 5 3,
 zn (.st t4 t40 3)] [4] [4]
 .ret)))),
 [.cell 4 3 true],false⟩
def ir132:IFn:=
⟨(zr [zg 3 (.bx t1 7 true),
 zg 4 (.mov zF)] [0,3] [3]
 (.seq (.reg true [zm 7 0,
 zg 8 (.nck t7),
 zp 9 8 0,
 zk 10 9 1,
 zg 11 (.nck t10),
 zp 12 11 2,
 zk 13 12 1,
 zp 14 3 0,
 zg 15 (.ldl 3 t14 1 false),
 zc 16 254 [t13,t15],
 zm 5 16] [0,3,5] [3])
 (.seq (zr [zp 17 3 3,
 zk 18 17 1,
 zg 19 (.bin .eql t18 (zi 0))] [0,3,5,19] [3]
 (.cond t19
 (zr [zp 20 3 2,
 zk 21 20 1,
 zm 22 5,
 zg 23 (.bin .eql t21 t22),
 zm 4 23] [4] []
 .ret)
 .skip))
 (.seq (zr [zp 24 3 2,
 zk 25 24 1,
 zm 26 5,
 zg 27 (.bin .sub t26 (zi 1)),
 zg 28 (.bin .neq t25 t27),
 zm 29 28,
 zf 30 29 (.off t3 2),
 zf 31 29 (.ld t30 1 false),
 zf 32 29 (.bin .lss t31 (zi 0)),
 zg 33 (.pick t29 zT t32),
 zm 34 33,
 zf 35 34 (.off t3 3),
 zf 36 34 (.ld t35 1 false),
 zf 37 34 (.bin .lss t36 (zi 1)),
 zg 38 (.pick t34 zT t37)] [0,3,38] [3]
 (.cond t38
 (zr [zg 4 (.mov zF)] [4] []
 .ret)
 .skip))
 (.seq (.prep [6] (.reg true [zm 39 0,
 zg 40 (.nck t39),
 zp 41 40 1,
 zp 42 41 20,
 zk 43 42 1,
 zp 44 3 2,
 zg 45 (.ldl 3 t44 1 false),
 zg 46 (.ixs t43 t45 2),
 zl 47 46 2,
 zg 6 (.alp [.nils,.nils]),
 zn (.stl 6 t6 t47 2)] [3,6] [3,6]))
 (zr [zp 48 3 3,
 zk 49 48 1,
 zp 50 6 0,
 zk 51 50 1,
 zh 52 51,
 zg 53 (.bin .lss t49 t52),
 zm 54 53,
 zt 55 54 (.ld t6 2 true),
 zt 56 54 (.off t3 3),
 zt 57 54 (.ld t56 1 false),
 zt 58 54 (.call 284 [t55,t57] false),
 zg 59 (.pick t54 t58 zF),
 zm 4 59] [4] []
 .ret)))))),
 [.tmp 4],false⟩
def q07h:IC:=
 (.loop [3,7,8] [3] (zr [zg 9 (.bin .lss t8 (zi 3))] [3,7,8,9] [3]
 (.seq (.cond t9
 .skip
 (.exit 0))
 (.seq (.block 1 (zr [zm 10 8,
 zg 11 (.ixv t7 t8 1 3 false),
 zm 5 10,
 zm 6 11] [3,5,6,7,8] [3]
 (zr [zm 12 6,
 zm 13 5,
 zg 14 (.ixa t3 t13 1 3),
 zk 15 14 1,
 zg 16 (.bin .gtr t12 t15)] [3,7,8,16] [3]
 (.cond t16
 (zr [zg 4 (.mov zF)] [4] []
 .ret)
 .skip))))
 (.reg false [zg 17 (.bin .add t8 (zi 1)),
 zm 8 17] [3,7,8] [3])))))
def ir133:IFn:=
⟨(zr [zg 2 (.bx t0 3 true),
 zg 3 (.bx t1 3 true),
 zg 4 (.mov zF)] [2,3] [2,3]
 (.seq (zr [zl 7 2 3,
 zg 8 (.mov (zi 0))] [3,7,8] [3]
 (.block 0 q07h))
 (zr [zg 4 (.mov zT)] [4] []
 .ret))),
 [.tmp 4],false⟩
def q0ut:IC:=
 (.loop [0,1,5] [] (.seq (zr [zm 11 5,
 zm 12 0,
 zh 13 12,
 zg 14 (.bin .lss t11 t13)] [0,1,5,14] []
 (.cond t14
 .skip
 (.exit 0)))
 (.seq (.block 1 (.seq (.reg true [zm 17 0,
 zm 18 5,
 zg 19 (.ixs t17 t18 3),
 zl 20 19 3,
 zm 21 1,
 zm 22 5,
 zg 23 (.ixs t21 t22 3),
 zl 24 23 3,
 zg 25 (.eqa true [true,true,true] t20 t24)] [0,1,5,25] [])
 (.cond t25
 (zr [zg 4 (.mov zF)] [4] []
 .ret)
 .skip)))
 (.reg false [zm 15 5,
 zg 16 (.bin .add t15 (zi 1)),
 zm 5 16] [0,1,5] []))))
def ir140:IFn:=
⟨(zr [zg 4 (.mov zF)] [0,1] []
 (.seq (zr [zm 6 0,
 zh 7 6,
 zm 8 1,
 zh 9 8,
 zg 10 (.bin .neq t7 t9)] [0,1,10] []
 (.cond t10
 (zr [zg 4 (.mov zF)] [4] []
 .ret)
 .skip))
 (.seq (zr [zg 5 (.mov (zi 0))] [0,1,5] []
 (.block 0 q0ut))
 (zr [zg 4 (.mov zT)] [4] []
 .ret)))),
 [.tmp 4],false⟩
def q0uu:IC:=
 (.loop [0,1,5] [] (.seq (zr [zm 11 5,
 zm 12 0,
 zh 13 12,
 zg 14 (.bin .lss t11 t13)] [0,1,5,14] []
 (.cond t14
 .skip
 (.exit 0)))
 (.seq (.block 1 (.seq (.reg true [zm 17 0,
 zm 18 5,
 zg 19 (.ixs t17 t18 1),
 zk 20 19 1,
 zm 21 1,
 zm 22 5,
 zg 23 (.ixs t21 t22 1),
 zk 24 23 1,
 zg 25 (.bin .neq t20 t24)] [0,1,5,25] [])
 (.cond t25
 (zr [zg 4 (.mov zF)] [4] []
 .ret)
 .skip)))
 (.reg false [zm 15 5,
 zg 16 (.bin .add t15 (zi 1)),
 zm 5 16] [0,1,5] []))))
def ir141:IFn:=
⟨(zr [zg 4 (.mov zF)] [0,1] []
 (.seq (zr [zm 6 0,
 zh 7 6,
 zm 8 1,
 zh 9 8,
 zg 10 (.bin .neq t7 t9)] [0,1,10] []
 (.cond t10
 (zr [zg 4 (.mov zF)] [4] []
 .ret)
 .skip))
 (.seq (zr [zg 5 (.mov (zi 0))] [0,1,5] []
 (.block 0 q0uu))
 (zr [zg 4 (.mov zT)] [4] []
 .ret)))),
 [.tmp 4],false⟩
def ir175:IFn:=
⟨(zr [zg 3 (.bx t1 2 true)] [0,3] [3]
 (zr [zm 4 0,
 zg 5 (.eqn .ptr true t4)] [0,3,5] [3]
 (.cond t5
 (.reg true [zm 6 0,
 zm 7 0,
 zg 8 (.nck t7),
 zp 9 8 0,
 zl 10 9 2,
 zg 11 (.ldl 3 t3 2 true),
 zc 12 86 [t10,t11],
 zg 13 (.nck t6),
 zp 14 13 0,
 zn (.st t14 t12 2)] [] [])
 .skip))),
 [],false⟩
def q0dl:IC:=
 (.loop [1,7,8,9] [1] (zr [zg 10 (.bin .lss t9 t8)] [1,7,8,9,10] [1]
 (.seq (.cond t10
 .skip
 (.exit 0))
 (.seq (.block 1 (zr [zg 11 (.ixs t7 t9 2),
 zl 12 11 2,
 zg 5 (.al [zo,.p .nilf] true),
 zn (.st t5 t12 2)] [1,5,7,8,9] [1,5]
 (zr [zp 13 5 1,
 zk 14 13 1,
 zl 15 1 22,
 zg 16 (.callv t14 [t15] false),
 zm 6 16] [1,5,6,7,8,9] [1,5]
 (zr [zm 17 6,
 zg 18 (.bin .geq t17 (zi 0))] [1,5,6,7,8,9,18] [1,5]
 (.cond t18
 (zr [zp 19 5 0,
 zk 20 19 1,
 zm 21 6,
 zm 2 20,
 zm 3 21] [2,3] []
 .ret)
 .skip)))))
 (.reg false [zg 22 (.bin .add t9 (zi 1)),
 zm 9 22] [1,7,8,9] [1])))))
def ir188:IFn:=
⟨(zr [zg 1 (.bx t0 22 true),
 zg 2 (.mov (zi 0)),
 zg 3 (.mov (zi 0))] [1] [1]
 (.seq (zr [zc 7 329 [],
 zh 8 7,
 zg 9 (.mov (zi 0))] [1,7,8,9] [1]
 (.block 0 q0dl))
 (zr [zg 2 (.mov (zi 0)),
 zg 3 (.mov (zi 0))] [2,3] []
 .ret))),
 [.tmp 2,.tmp 3],false⟩
def ir189:IFn:=
⟨(zr [zg 2 (.mov (.c (.nils)))] [0] []
 (.seq (zr [zm 3 0,
 zg 4 (.eqn .sl false t3)] [0,4] []
 (.cond t4
 (zr [zg 2 (.mov (.c (.nils)))] [2] []
 .ret)
 .skip))
 (zr [zg 5 (.bsl 7 0 [zo,zo,zo,zo,zo,zo,zo] []),
 zm 6 0,
 zg 7 (.app t5 t6 7),
 zm 2 7] [2] []
 .ret))),
 [.tmp 2],true⟩
def ir190:IFn:=
⟨(zr [zg 2 (.mov (.c (.nils)))] [0] []
 (.seq (zr [zm 3 0,
 zg 4 (.eqn .sl false t3)] [0,4] []
 (.cond t4
 (zr [zg 2 (.mov (.c (.nils)))] [2] []
 .ret)
 .skip))
 (zr [zg 5 (.bsl 3 0 [zo,zo,zo] []),
 zm 6 0,
 zg 7 (.app t5 t6 3),
 zm 2 7] [2] []
 .ret))),
 [.tmp 2],true⟩
def ir191:IFn:=
⟨(zr [zg 2 (.mov (.c (.nils)))] [0] []
 (.seq (zr [zm 3 0,
 zg 4 (.eqn .sl false t3)] [0,4] []
 (.cond t4
 (zr [zg 2 (.mov (.c (.nils)))] [2] []
 .ret)
 .skip))
 (zr [zg 5 (.bsl 1 0 [zo] []),
 zm 6 0,
 zg 7 (.app t5 t6 1),
 zm 2 7] [2] []
 .ret))),
 [.tmp 2],true⟩
def ir192:IFn:=
⟨(zr [zg 2 (.mov (.c (.nils)))] [0] []
 (.seq (zr [zm 3 0,
 zg 4 (.eqn .sl false t3)] [0,4] []
 (.cond t4
 (zr [zg 2 (.mov (.c (.nils)))] [2] []
 .ret)
 .skip))
 (zr [zg 5 (.bsl 1 0 [zo] []),
 zm 6 0,
 zg 7 (.app t5 t6 1),
 zm 2 7] [2] []
 .ret))),
 [.tmp 2],true⟩
def q07i:IC:=
 (.loop [2,5,11,12] [2] (zr [zg 13 (.bin .lss t12 t11)] [2,5,11,12,13] [2]
 (.seq (.cond t13
 .skip
 (.exit 0))
 (.seq (.block 1 (zr [zm 14 12,
 zm 6 14] [2,5,6,11,12] [2]
 (zr [zm 15 5,
 zm 16 6,
 zg 17 (.ixs t15 t16 7),
 zm 7 17] [2,5,7,11,12] [2]
 (zr [zm 18 7,
 zg 19 (.nck t18),
 zp 20 19 0,
 zk 21 20 1] [2,5,7,11,12,21] [2]
 (.block 2 (zr [zg 23 (.bin .eql t21 (zi 1)),
 zm 22 23] [2,5,7,11,12,21,22] [2]
 (.cond t22
 (.reg true [zg 24 (.ldl 2 t2 1 true),
 zm 25 7,
 zg 26 (.nck t25),
 zp 27 26 1,
 zg 28 (.bsl 1 1 [.p .nilp] [(0,t27)]),
 zc 29 195 [t24,(.c (.p (.fn 197))),t28]] [2,5,11,12] [2])
 (zr [zg 31 (.bin .eql t21 (zi 2)),
 zm 30 31] [2,5,7,11,12,30] [2]
 (.cond t30
 (.seq (.reg true [zg 32 (.ldl 2 t2 1 true),
 zm 33 7,
 zg 34 (.nck t33),
 zp 35 34 1,
 zg 36 (.bsl 1 1 [.p .nilp] [(0,t35)]),
 zc 37 195 [t32,(.c (.p (.fn 330))),t36]] [2,5,7,11,12] [2])
 (.reg false [zm 38 7,
 zm 39 7,
 zm 40 7,
 zg 41 (.nck t38),
 zp 42 41 3,
 zn (.st t42 (zi 0) 1),
 zg 43 (.nck t39),
 zp 44 43 4,
 zn (.st t44 (zi 0) 1),
 zg 45 (.nck t40),
 zp 46 45 5,
 zn (.st t46 (zi 0) 1)] [2,5,11,12] [2]))
 .skip)))))))))
 (.reg false [zg 47 (.bin .add t12 (zi 1)),
 zm 12 47] [2,5,11,12] [2])))))
def ir193:IFn:=
⟨(zr [zg 2 (.bx t0 1 true),
 zg 4 (.mov (.c (.nils)))] [1,2] [2]
 (zr [zm 8 1,
 zc 9 189 [t8],
 zm 5 9] [2,5] [2]
 (.seq (zr [zm 10 5,
 zh 11 10,
 zg 12 (.mov (zi 0))] [2,5,11,12] [2]
 (.block 0 q07i))
 (zr [zm 48 5,
 zm 4 48] [4] []
 .ret)))),
 [.tmp 4],false⟩
def q07j:IC:=
 (.loop [2,5,6,12,13,14,34,35] [2] (zr [zg 36 (.bin .lss t35 t34)] [2,5,6,12,13,14,34,35,36] [2]
 (.seq (.cond t36
 .skip
 (.exit 2))
 (.seq (.block 3 (zr [zm 37 35,
 zm 8 37] [2,5,6,8,12,13,14,34,35] [2]
 (.reg true [zg 38 (.ldl 2 t2 1 true),
 zm 39 5,
 zm 40 6,
 zg 41 (.ixs t39 t40 2),
 zp 42 41 0,
 zk 43 42 1,
 zm 44 8,
 zg 45 (.ixs t43 t44 1),
 zg 46 (.bsl 1 1 [.p .nilp] [(0,t45)]),
 zc 47 195 [t38,(.c (.p (.fn 197))),t46]] [2,5,6,12,13,14,34,35] [2])))
 (.reg false [zg 48 (.bin .add t35 (zi 1)),
 zm 35 48] [2,5,6,12,13,14,34,35] [2])))))
def q0dm:IC:=
 (.loop [2,5,12,13,14] [2] (zr [zg 15 (.bin .lss t14 t13)] [2,5,12,13,14,15] [2]
 (.seq (.cond t15
 .skip
 (.exit 0))
 (.seq (.block 1 (zr [zm 16 14,
 zg 17 (.ixs t12 t14 2),
 zl 18 17 2,
 zg 7 (.al [.nils,.nils] true),
 zm 6 16,
 zn (.st t7 t18 2)] [2,5,6,7,12,13,14] [2,7]
 (.seq (.reg true [zm 19 5,
 zm 20 6,
 zp 21 7 0,
 zg 22 (.ldl 7 t21 1 false),
 zc 23 191 [t22],
 zp 24 7 1,
 zg 25 (.ldl 7 t24 1 false),
 zc 26 192 [t25],
 zg 27 (.bld [.nils,.nils] [(0,1,t23),(1,1,t26)]),
 zg 28 (.ixs t19 t20 2),
 zn (.st t28 t27 2)] [2,5,6,12,13,14] [2])
 (zr [zm 29 5,
 zm 30 6,
 zg 31 (.ixs t29 t30 2),
 zp 32 31 0,
 zk 33 32 1,
 zh 34 33,
 zg 35 (.mov (zi 0))] [2,5,6,12,13,14,34,35] [2]
 (.block 2 q07j)))))
 (.reg false [zg 49 (.bin .add t14 (zi 1)),
 zm 14 49] [2,5,12,13,14] [2])))))
def ir194:IFn:=
⟨(zr [zg 2 (.bx t0 1 true),
 zg 4 (.mov (.c (.nils)))] [1,2] [2]
 (zr [zm 9 1,
 zh 10 9,
 zg 11 (.mks 2 [.nils,.nils] t10),
 zm 5 11] [1,2,5] [2]
 (.seq (zr [zm 12 1,
 zh 13 12,
 zg 14 (.mov (zi 0))] [2,5,12,13,14] [2]
 (.block 0 q0dm))
 (zr [zm 50 5,
 zm 4 50] [4] []
 .ret)))),
 [.tmp 4],false⟩
def q07k:IC:=
 (.loop [1,3,8,9,10] [3] (zr [zg 11 (.bin .lss t10 t9)] [1,3,8,9,10,11] [3]
 (.seq (.cond t11
 .skip
 (.exit 0))
 (.seq (.block 1 (zr [zg 12 (.ixs t8 t10 1),
 zk 13 12 1,
 zm 7 13] [1,3,7,8,9,10] [3]
 (.reg true [zm 14 7,
 zm 15 1,
 zm 16 7,
 zg 17 (.nck t16),
 zk 18 17 1,
 zp 19 3 0,
 zg 20 (.ldl 3 t19 1 false),
 zg 21 (.callv t15 [t18,t20] false),
 zg 22 (.nck t14),
 zn (.st t22 t21 1)] [1,3,8,9,10] [3])))
 (.reg false [zg 23 (.bin .add t10 (zi 1)),
 zm 10 23] [1,3,8,9,10] [3])))))
def ir195:IFn:=
⟨(zr [zg 3 (.bx t0 1 true)] [1,2,3] [3]
 (zr [zm 8 2,
 zh 9 8,
 zg 10 (.mov (zi 0))] [1,3,8,9,10] [3]
 (.block 0 q07k))),
 [],false⟩
def ir196:IFn:=
⟨(zr [zg 4 (.mov (zi 0))] [0,1] []
 (zr [zm 5 0,
 zm 6 1,
 zc 7 331 [t5,t6,(.c (.p (.fn 332)))],
 zm 4 7] [4] []
 .ret)),
 [.tmp 4],false⟩
def ir197:IFn:=
⟨(zr [zg 4 (.mov (zi 0))] [0,1] []
 (zr [zm 5 0,
 zm 6 1,
 zc 7 331 [t5,t6,(.c (.p (.fn 333)))],
 zm 4 7] [4] []
 .ret)),
 [.tmp 4],false⟩
def ir198:IFn:=
⟨(zr [zg 1 (.bx t0 7 true),
 zg 2 (.al [zo,zo,zo,zo,zo,zo] true)] [1,2] [1,2]
 (.seq (zr [zp 3 1 0,
 zk 4 3 1] [1,2,4] [1,2]
 (.block 0 (zr [zg 6 (.bin .eql t4 (zi 1)),
 zm 5 6] [1,2,4,5] [1,2]
 (.cond t5
 (zr [zp 7 1 1,
 zk 8 7 1,
 zc 9 334 [t8],
 zn (.st t2 t9 6)] [2] [2]
 .ret)
 (zr [zg 11 (.bin .eql t4 (zi 2)),
 zm 10 11] [1,2,10] [1,2]
 (.cond t10
 (zr [zp 12 1 1,
 zk 13 12 1,
 zp 14 1 3,
 zk 15 14 1,
 zp 16 1 4,
 zk 17 16 1,
 zp 18 1 5,
 zk 19 18 1,
 zc 20 335 [t13,t15,t17,t19],
 zn (.st t2 t20 6)] [2] [2]
 .ret)
 .skip))))))
 (zr [zg 21 (.bld [zo,zo,zo,zo,zo,zo] []),
 zn (.st t2 t21 6)] [2] [2]
 .ret))),
 [.cell 2 6 true],false⟩
def q0kn:IC:=
 (.loop [1,3,5] [1] (zr [zg 6 (.bin .lss t5 (zi 4))] [1,3,5,6] [1]
 (.seq (.cond t6
 .skip
 (.exit 0))
 (.seq (.block 1 (zr [zm 7 5,
 zm 4 7] [1,3,4,5] [1]
 (zr [zm 8 3,
 zm 9 4,
 zp 10 1 1,
 zg 11 (.ixa t10 t9 1 4),
 zk 12 11 1,
 zg 13 (.callv t8 [t12] false),
 zj 14 13] [1,3,5,14] [1]
 (.cond t14
 (zr [zg 2 (.mov zF)] [2] []
 .ret)
 .skip))))
 (.reg false [zg 15 (.bin .add t5 (zi 1)),
 zm 5 15] [1,3,5] [1])))))
def ir199:IFn:=
⟨(zr [zg 1 (.bx t0 6 true),
 zg 2 (.mov zF)] [1] [1]
 (zr [zg 3 (.mov (.c (.p (.fn 336))))] [1,3] [1]
 (.seq (zr [zg 5 (.mov (zi 0))] [1,3,5] [1]
 (.block 0 q0kn))
 (zr [zm 16 3,
 zp 17 1 0,
 zk 18 17 1,
 zg 19 (.callv t16 [t18] false),
 zm 20 19,
 zt 21 20 (.mov t3),
 zt 22 20 (.off t1 5),
 zt 23 20 (.ld t22 1 false),
 zt 24 20 (.callv t21 [t23] false),
 zg 25 (.pick t20 t24 zF),
 zm 2 25] [2] []
 .ret)))),
 [.tmp 2],false⟩
def ir200:IFn:=
⟨(zr [zg 2 (.bx t0 6 true),
 zg 3 (.bx t1 6 true),
 zg 4 (.al [zo,zo,zo,zo,zo,zo] true),
 zg 5 (.mov zF)] [2,3,4] [2,3,4]
 (zr [zl 6 2 6,
 zl 7 3 6,
 zc 8 337 [t6,t7,(.c (.p (.fn 338)))],
 zx 9 8 0,
 zx 10 8 1,
 zn (.st t4 t9 6),
 zm 5 10] [4,5] [4]
 .ret)),
 [.cell 4 6 true,.tmp 5],false⟩
def ir201:IFn:=
⟨(zr [zg 4 (.al [zo,zo,zo] true),
 zg 5 (.mov zF)] [0,1,4] [4]
 (.seq (zr [zm 6 1,
 zg 7 (.bin .lss t6 (zi 0)),
 zm 8 7,
 zf 9 8 (.mov t1),
 zf 10 8 (.mov t0),
 zf 11 8 (.len t10),
 zf 12 8 (.bin .geq t9 t11),
 zg 13 (.pick t8 zT t12)] [0,1,4,13] [4]
 (.cond t13
 (zr [zg 14 (.bld [zo,zo,zo] []),
 zn (.st t4 t14 3),
 zg 5 (.mov zF)] [4,5] [4]
 .ret)
 .skip))
 (zr [zm 15 0,
 zm 16 1,
 zg 17 (.ixs t15 t16 3),
 zl 18 17 3,
 zn (.st t4 t18 3),
 zg 5 (.mov zT)] [4,5] [4]
 .ret))),
 [.cell 4 3 true,.tmp 5],false⟩
def ir202:IFn:=
⟨(zr [zg 4 (.mov (zi 0)),
 zg 5 (.mov zF)] [0,1] []
 (.seq (zr [zm 6 0,
 zg 7 (.eqn .ptr false t6)] [0,1,7] []
 (.cond t7
 (zr [zg 4 (.mov (zi 0)),
 zg 5 (.mov zF)] [4,5] []
 .ret)
 .skip))
 (zr [zm 8 1,
 zg 9 (.mnmx true t8 (zi 0)),
 zm 10 0,
 zg 11 (.nck t10),
 zp 12 11 0,
 zk 13 12 1,
 zh 14 13,
 zg 15 (.mnmx false t9 t14),
 zm 4 15,
 zg 5 (.mov zT)] [4,5] []
 .ret))),
 [.tmp 4,.tmp 5],false⟩
def ir211:IFn:=
⟨(zr [zg 2 (.mov (.c (.p .nilp)))] [0] []
 (.seq (zr [zm 3 0,
 zg 4 (.eqn .ptr false t3)] [0,4] []
 (.cond t4
 (zr [zg 2 (.mov (.c (.p .nilp)))] [2] []
 .ret)
 .skip))
 (zr [zm 5 0,
 zg 6 (.nck t5),
 zp 7 6 0,
 zk 8 7 1,
 zm 2 8] [2] []
 .ret))),
 [.tmp 2],false⟩
def ir212:IFn:=
⟨(zr [zg 2 (.mov (.c (.p .nilp)))] [0] []
 (.seq (zr [zm 3 0,
 zg 4 (.eqn .ptr false t3)] [0,4] []
 (.cond t4
 (zr [zg 2 (.mov (.c (.p .nilp)))] [2] []
 .ret)
 .skip))
 (zr [zm 5 0,
 zg 6 (.nck t5),
 zp 7 6 0,
 zk 8 7 1,
 zm 2 8] [2] []
 .ret))),
 [.tmp 2],false⟩
def ir214:IFn:=
⟨(zr [zg 4 (.mov (zi 0))] [0,1] []
 (.seq (zr [zm 5 1,
 zm 6 0,
 zc 7 82 [t6],
 zg 8 (.bin .geq t5 t7)] [0,1,8] []
 (.cond t8
 (zr [zg 4 (.mov (zi (-1)))] [4] []
 .ret)
 .skip))
 (zr [zm 9 0,
 zm 10 1,
 zg 11 (.mnmx true t10 (zi 0)),
 zg 12 (.bin .add t11 (zi 1)),
 zm 13 0,
 zg 14 (.mkf (.func 316) [t13] []),
 zc 15 217 [t9,t12,t14],
 zm 4 15] [4] []
 .ret))),
 [.tmp 4],false⟩
def ir215:IFn:=
⟨(zr [zg 4 (.mov (zi 0))] [0,1] []
 (zr [zg 5 (.mov (.c (.p (.fn 345))))] [0,1,5] []
 (zr [zm 6 5,
 zm 7 5,
 zm 8 0,
 zg 9 (.callv t7 [t8] false),
 zm 10 5,
 zm 11 1,
 zg 12 (.callv t10 [t11] false),
 zg 13 (.bin .add t9 t12),
 zg 14 (.callv t6 [t13] false),
 zm 4 14] [4] []
 .ret))),
 [.tmp 4],false⟩
def ir216:IFn:=
⟨(zr [zg 4 (.mov (zi 0))] [0,1] []
 (zr [zg 5 (.mov (.c (.p (.fn 346))))] [0,1,5] []
 (zr [zm 6 5,
 zm 7 5,
 zm 8 0,
 zg 9 (.callv t7 [t8] false),
 zm 10 5,
 zm 11 1,
 zg 12 (.callv t10 [t11] false),
 zg 13 (.bin .add t9 t12),
 zg 14 (.callv t6 [t13] false),
 zm 4 14] [4] []
 .ret))),
 [.tmp 4],false⟩
def q07l:IC:=
 (.loop [0,2,7] [] (.seq (zr [zm 9 7,
 zm 10 0,
 zc 11 82 [t10],
 zg 12 (.bin .leq t9 t11)] [0,2,7,12] []
 (.cond t12
 .skip
 (.exit 0)))
 (.seq (.block 1 (zr [zm 15 2,
 zm 16 7,
 zg 17 (.callv t15 [t16] false)] [0,2,7,17] []
 (.cond t17
 (zr [zm 18 7,
 zm 6 18] [6] []
 .ret)
 .skip)))
 (.reg false [zm 13 7,
 zg 14 (.bin .add t13 (zi 1)),
 zm 7 14] [0,2,7] []))))
def ir217:IFn:=
⟨(zr [zg 6 (.mov (zi 0))] [0,1,2] []
 (.seq (zr [zm 8 1,
 zm 7 8] [0,2,7] []
 (.block 0 q07l))
 (zr [zg 6 (.mov (zi (-1)))] [6] []
 .ret))),
 [.tmp 6],false⟩
def ir218:IFn:=
⟨(zr [zg 4 (.mov zF)] [0,1] []
 (zr [zm 8 0,
 zm 9 1,
 zc 10 286 [t8,t9],
 zm 7 10,
 zx 11 7 0,
 zx 12 7 1,
 zg 5 (.al [zo,zo,zo,zo,zo,zo,zo] true),
 zn (.st t5 t11 7),
 zm 6 12] [5,6] [5]
 (zr [zm 13 6,
 zj 14 13,
 zm 15 14,
 zf 16 15 (.ld t5 7 true),
 zf 17 15 (.call 347 [t16] false),
 zf 18 15 (.un .not t17),
 zg 19 (.pick t15 zT t18),
 zm 4 19] [4] []
 .ret))),
 [.tmp 4],false⟩
def ir248:IFn:=
⟨(zr [zg 3 (.bx t1 7 true),
 zg 4 (.mov zF)] [0,3] [3]
 (zr [zm 5 0,
 zl 6 3 7,
 zc 7 38 [t5,t6],
 zm 8 7,
 zt 9 8 (.mov t0),
 zt 10 8 (.ld t3 7 true),
 zt 11 8 (.call 31 [t9,t10] false),
 zt 12 8 (.un .not t11),
 zg 13 (.pick t8 t12 zF),
 zm 4 13] [4] []
 .ret)),
 [.tmp 4],false⟩
def ir249:IFn:=
⟨(zr [zg 3 (.bx t1 7 true),
 zg 4 (.mov zF)] [0,3] [3]
 (.seq (.reg true [zm 5 0,
 zg 6 (.ldl 3 t3 7 true),
 zc 7 38 [t5,t6],
 zm 8 7,
 zt 9 8 (.mov t0),
 zt 10 8 (.nck t9),
 zt 11 8 (.off t10 0),
 zt 12 8 (.ld t11 1 false),
 zt 13 8 (.nck t12),
 zt 14 8 (.off t13 2),
 zt 15 8 (.ld t14 1 false),
 zt 16 8 (.off t3 0),
 zt 17 8 (.ldl 3 t16 1 false),
 zt 18 8 (.call 253 [t15,t17] false),
 zt 19 8 (.off t3 4),
 zt 20 8 (.ldl 3 t19 3 true),
 zt 21 8 (.call 133 [t18,t20] false),
 zg 22 (.pick t8 t21 zF),
 zm 4 22] [4] [])
 .ret)),
 [.tmp 4],false⟩
def q04f:IC:=
 (.reg false [zm 5 9] [4,5] [])
def q04g:IC:=
 (.block 1 (zr [zm 10 5,
 zn (.st t4 t10 1)] [4] []
 .ret))
def ir250:IFn:=
⟨(zr [zg 3 (.bx t1 4 true),
 zg 4 (.al [.nils] false)] [0,3,4] [3]
 (.seq (zr [zm 6 0,
 zl 7 3 4,
 zc 8 365 [t6,t7]] [4,8] []
 (.block 0 (.rangeFunc t8 [9] q04f q04g)))
 (zr [zn (.st t4 (.c (.nils)) 1)] [4] []
 .ret))),
 [.cell 4 1 false],false⟩
def q07m:IC:=
 (.loop [0,4,5,6,14,15] [4,5,6] (zr [zg 16 (.bin .lss t15 (zi 3))] [0,4,5,6,14,15,16] [4,5,6]
 (.seq (.cond t16
 .skip
 (.exit 0))
 (.seq (.block 1 (zr [zm 17 15,
 zg 18 (.ixv t14 t15 1 3 false),
 zm 8 17,
 zm 9 18] [0,4,5,6,8,9,14,15] [4,5,6]
 (zr [zm 19 8,
 zg 20 (.ixa t5 t19 1 3),
 zk 21 20 1,
 zm 22 9,
 zg 23 (.bin .gtr t21 t22)] [0,4,5,6,8,14,15,23] [4,5,6]
 (.cond t23
 (zr [zg 10 (.al [zo,zo,zo] true)] [0,4,6,8,10] [4,6,10]
 (zr [zm 24 8,
 zg 25 (.ixa t10 t24 1 3),
 zn (.st t25 (zi 1) 1)] [0,4,6,10] [4,6,10]
 (.seq (.reg true [zm 27 0,
 zc 28 100 [t27],
 zg 29 (.fldv t28 21 1 false),
 zp 30 4 4,
 zg 31 (.ldl 4 t30 3 true),
 zg 32 (.ldl 10 t10 3 true),
 zc 33 366 [t29,t31,t32],
 zm 26 33,
 zx 34 26 0,
 zx 35 26 1,
 zm 11 34,
 zm 12 35] [4,6,11,12] [4,6])
 (zr [zp 36 4 0,
 zk 37 36 1,
 zp 38 4 0,
 zk 39 38 1,
 zm 40 11,
 zg 41 (.bld [zo,zo,zo,.nils,.nils,.nils] [(0,1,(zi 2)),(1,1,t37),(2,1,t39),(4,1,t40)]),
 zm 42 12,
 zn (.st t6 t41 6),
 zm 7 42] [6,7] [6]
 .ret))))
 .skip))))
 (.reg false [zg 43 (.bin .add t15 (zi 1)),
 zm 15 43] [0,4,5,6,14,15] [4,5,6])))))
def ir251:IFn:=
⟨(zr [zg 4 (.bx t1 7 true),
 zg 5 (.bx t2 3 true),
 zg 6 (.al [zo,zo,zo,.nils,.nils,.nils] true),
 zg 7 (.mov zF)] [0,4,5,6] [4,5,6]
 (.seq (zr [zp 13 4 4,
 zl 14 13 3,
 zg 15 (.mov (zi 0))] [0,4,5,6,14,15] [4,5,6]
 (.block 0 q07m))
 (zr [zg 44 (.bld [zo,zo,zo,.nils,.nils,.nils] []),
 zn (.st t6 t44 6),
 zg 7 (.mov zF)] [6,7] [6]
 .ret))),
 [.cell 6 6 true,.tmp 7],false⟩
def ir252:IFn:=
⟨(zr [zg 2 (.mov (.c (.p .nilp)))] [0] []
 (zr [zm 3 0,
 zc 4 211 [t3],
 zc 5 367 [t4],
 zm 2 5] [2] []
 .ret)),
 [.tmp 2],false⟩
def ir253:IFn:=
⟨(zr [zg 4 (.al [zo,zo,zo] true)] [0,1,4] [4]
 (zr [zm 7 0,
 zm 8 1,
 zc 9 202 [t7,t8],
 zm 6 9,
 zx 10 6 0,
 zx 11 6 1,
 zm 1 10,
 zm 5 11] [0,1,4,5] [4]
 (.seq (zr [zm 12 5,
 zj 13 12] [0,1,4,13] [4]
 (.cond t13
 (zr [zg 14 (.bld [zo,zo,zo] []),
 zn (.st t4 t14 3)] [4] [4]
 .ret)
 .skip))
 (zr [zm 15 0,
 zg 16 (.nck t15),
 zp 17 16 3,
 zk 18 17 1,
 zm 19 1,
 zg 20 (.ixs t18 t19 3),
 zl 21 20 3,
 zn (.st t4 t21 3)] [4] [4]
 .ret)))),
 [.cell 4 3 true],false⟩
def ir254:IFn:=
⟨(zr [zg 4 (.mov (zi 0))] [0,1] []
 (zr [zm 7 0,
 zm 8 1,
 zc 9 202 [t7,t8],
 zm 6 9,
 zx 10 6 0,
 zx 11 6 1,
 zm 1 10,
 zm 5 11] [0,1,5] []
 (.seq (zr [zm 12 5,
 zj 13 12] [0,1,13] []
 (.cond t13
 (zr [zg 4 (.mov (zi 0))] [4] []
 .ret)
 .skip))
 (zr [zm 14 0,
 zg 15 (.nck t14),
 zp 16 15 1,
 zk 17 16 1,
 zm 18 1,
 zg 19 (.ixs t17 t18 1),
 zk 20 19 1,
 zm 4 20] [4] []
 .ret)))),
 [.tmp 4],false⟩
def q0ko:IC:=
 (.loop [2,3,4,5,8,9,11] [4,5,8,9] (zr [zg 12 (.bin .lss t11 (zi 3))] [2,3,4,5,8,9,11,12] [4,5,8,9]
 (.seq (.cond t12
 .skip
 (.exit 0))
 (.seq (.block 1 (zr [zm 13 11,
 zm 10 13] [2,3,4,5,8,9,10,11] [4,5,8,9]
 (.reg true [zm 14 10,
 zm 15 3,
 zm 16 10,
 zg 17 (.ixa t4 t16 1 3),
 zg 18 (.ldl 4 t17 1 false),
 zm 19 2,
 zc 20 291 [t18,t19,(zi 1073741824)],
 zm 21 10,
 zg 22 (.ixa t5 t21 1 3),
 zg 23 (.ldl 5 t22 1 false),
 zm 24 2,
 zc 25 291 [t23,t24,(zi 1073741824)],
 zg 26 (.callv t15 [t20,t25] false),
 zm 27 2,
 zc 28 291 [t26,t27,(zi 1073741824)],
 zg 29 (.ixa t9 t14 1 3),
 zn (.stl 9 t29 t28 1)] [2,3,4,5,8,9,11] [4,5,8,9])))
 (.reg false [zg 30 (.bin .add t11 (zi 1)),
 zm 11 30] [2,3,4,5,8,9,11] [4,5,8,9])))))
def ir255:IFn:=
⟨(zr [zg 4 (.bx t0 3 true),
 zg 5 (.bx t1 3 true),
 zg 8 (.al [zo,zo,zo] true)] [2,3,4,5,8] [4,5,8]
 (zr [zg 9 (.al [zo,zo,zo] true)] [2,3,4,5,8,9] [4,5,8,9]
 (.seq (zr [zg 11 (.mov (zi 0))] [2,3,4,5,8,9,11] [4,5,8,9]
 (.block 0 q0ko))
 (zr [zl 31 9 3,
 zn (.st t8 t31 3)] [8] [8]
 .ret)))),
 [.cell 8 3 true],false⟩
def ir256:IFn:=
⟨(zr [zg 4 (.mov (zi 0))] [0,1] []
 (zr [zm 5 0,
 zm 6 1,
 zg 7 (.bin .add t5 t6),
 zm 4 7] [4] []
 .ret)),
 [.tmp 4],false⟩
def ir284:IFn:=
⟨(zr [zg 2 (.bx t0 2 true),
 zg 4 (.mov zF)] [1,2] [2]
 (zr [zl 5 2 2,
 zm 6 1,
 zc 7 375 [t5,t6],
 zm 4 7] [4] []
 .ret)),
 [.tmp 4],false⟩
def ir286:IFn:=
⟨(zr [zg 4 (.al [zo,zo,zo,zo,zo,zo,zo] true),
 zg 5 (.mov zF)] [0,1,4] [4]
 (.seq (zr [zm 6 1,
 zg 7 (.bin .lss t6 (zi 0)),
 zm 8 7,
 zf 9 8 (.mov t1),
 zf 10 8 (.mov t0),
 zf 11 8 (.call 82 [t10] false),
 zf 12 8 (.bin .geq t9 t11),
 zg 13 (.pick t8 zT t12)] [0,1,4,13] [4]
 (.cond t13
 (zr [zg 14 (.bld [zo,zo,zo,zo,zo,zo,zo] []),
 zn (.st t4 t14 7),
 zg 5 (.mov zF)] [4,5] [4]
 .ret)
 .skip))
 (zr [zm 15 0,
 zg 16 (.nck t15),
 zp 17 16 0,
 zk 18 17 1,
 zm 19 1,
 zg 20 (.ixs t18 t19 7),
 zl 21 20 7,
 zn (.st t4 t21 7),
 zg 5 (.mov zT)] [4,5] [4]
 .ret))),
 [.cell 4 7 true,.tmp 5],false⟩
def ir291:IFn:=
⟨(zr [zg 6 (.mov (zi 0))] [0,1,2] []
 (zr [zm 7 0,
 zm 8 1,
 zg 9 (.mnmx true t7 t8),
 zm 10 2,
 zg 11 (.mnmx false t9 t10),
 zm 6 11] [6] []
 .ret)),
 [.tmp 6],false⟩
def ir316:IFn:=
⟨(zr [zg 4 (.mov zF)] [0,1] []
 (zr [zm 8 0,
 zm 9 1,
 zc 10 286 [t8,t9],
 zm 7 10,
 zx 11 7 0,
 zx 12 7 1,
 zg 5 (.al [zo,zo,zo,zo,zo,zo,zo] true),
 zn (.st t5 t11 7),
 zm 6 12] [0,1,5,6] [5]
 (.seq (.block 0 (zr [zm 14 1,
 zg 15 (.bin .lss t14 (zi 1)),
 zm 16 15,
 zf 17 16 (.mov t1),
 zf 18 16 (.mov t0),
 zf 19 16 (.call 82 [t18] false),
 zf 20 16 (.bin .gtr t17 t19),
 zg 21 (.pick t16 zT t20),
 zm 13 21] [0,1,5,6,13] [5]
 (.cond t13
 (zr [zg 4 (.mov zF)] [4] []
 .ret)
 (zr [zm 23 6,
 zj 24 23,
 zm 22 24] [0,1,5,22] [5]
 (.cond t22
 (zr [zg 4 (.mov zT)] [4] []
 .ret)
 (zr [zp 26 5 0,
 zk 27 26 1,
 zg 28 (.bin .eql t27 (zi 2)),
 zm 25 28] [0,1,5,25] [5]
 (.cond t25
 (zr [zm 29 0,
 zg 30 (.nck t29),
 zp 31 30 0,
 zk 32 31 1,
 zm 33 1,
 zg 34 (.bin .sub t33 (zi 1)),
 zg 35 (.ixs t32 t34 7),
 zl 36 35 7,
 zc 37 347 [t36],
 zj 38 37,
 zm 4 38] [4] []
 .ret)
 .skip)))))))
 (zr [zp 39 5 0,
 zk 40 39 1,
 zg 41 (.bin .eql t40 (zi 3)),
 zm 42 41,
 zt 43 42 (.ld t5 7 true),
 zt 44 42 (.call 385 [t43] false),
 zt 45 42 (.un .not t44),
 zg 46 (.pick t42 t45 zF),
 zm 4 46] [4] []
 .ret)))),
 [.tmp 4],false⟩
def ir329:IFn:=
⟨(zr [zg 0 (.mov (.c (.nils)))] [] []
 (zr [zc 1 393 [(.c (.p (.fn 394)))],
 zg 2 (.bld [zo,.p .nilf] [(0,1,(zi 3)),(1,1,t1)]),
 zc 3 393 [(.c (.p (.fn 395)))],
 zg 4 (.bld [zo,.p .nilf] [(0,1,(zi 4)),(1,1,t3)]),
 zc 5 393 [(.c (.p (.fn 396)))],
 zg 6 (.bld [zo,.p .nilf] [(0,1,(zi 5)),(1,1,t5)]),
 zc 7 393 [(.c (.p (.fn 397)))],
 zg 8 (.bld [zo,.p .nilf] [(0,1,(zi 6)),(1,1,t7)]),
 zc 9 393 [(.c (.p (.fn 399)))],
 zg 10 (.bld [zo,.p .nilf] [(0,1,(zi 7)),(1,1,t9)]),
 zg 11 (.bld [zo,.p .nilf] [(0,1,(zi 8)),(1,1,(.c (.p (.fn 400))))]),
 zg 12 (.bld [zo,.p .nilf] [(0,1,(zi 9)),(1,1,(.c (.p (.fn 403))))]),
 zg 13 (.bld [zo,.p .nilf] [(0,1,(zi 10)),(1,1,(.c (.p (.fn 406))))]),
 zg 14 (.bld [zo,.p .nilf] [(0,1,(zi 11)),(1,1,(.c (.p (.fn 409))))]),
 zg 15 (.bld [zo,.p .nilf] [(0,1,(zi 12)),(1,1,(.c (.p (.fn 410))))]),
 zg 16 (.bsl 2 10 [zo,.p .nilf] [(0,t2),(1,t4),(2,t6),(3,t8),(4,t10),(5,t11),(6,t12),(7,t13),(8,t14),(9,t15)]),
 zm 0 16] [0] []
 .ret)),
 [.tmp 0],false⟩
def ir330:IFn:=
⟨(zr [zg 4 (.mov (zi 0))] [0,1] []
 (.seq (zr [zm 6 1,
 zg 7 (.bin .lss t6 (zi 1))] [0,1,7] []
 (.cond t7
 (zr [zm 8 0,
 zm 4 8] [4] []
 .ret)
 .skip))
 (zr [zm 9 0,
 zm 10 1,
 zg 11 (.bin .rem t9 t10),
 zm 5 11] [0,1,5] []
 (.seq (zr [zm 12 5,
 zg 13 (.bin .lss t12 (zi 0))] [0,1,5,13] []
 (.cond t13
 (.reg false [zm 14 5,
 zm 15 1,
 zg 16 (.bin .add t14 t15),
 zm 5 16] [0,1,5] [])
 .skip))
 (.seq (zr [zm 17 5,
 zm 18 1,
 zm 19 5,
 zg 20 (.bin .sub t18 t19),
 zg 21 (.bin .lss t17 t20)] [0,1,21] []
 (.cond t21
 (zr [zm 22 0,
 zm 23 1,
 zc 24 196 [t22,t23],
 zm 4 24] [4] []
 .ret)
 .skip))
 (zr [zm 25 0,
 zm 26 1,
 zc 27 197 [t25,t26],
 zm 4 27] [4] []
 .ret)))))),
 [.tmp 4],false⟩
def ir331:IFn:=
⟨(zr [zg 6 (.mov (zi 0))] [0,1,2] []
 (.seq (zr [zm 10 2,
 zm 11 0,
 zm 12 1,
 zg 13 (.callv t10 [t11,t12] false),
 zm 9 13,
 zx 14 9 0,
 zx 15 9 1,
 zm 7 14,
 zm 8 15] [0,7,8] []
 (zr [zm 16 8] [0,7,16] []
 (.cond t16
 (zr [zm 17 7,
 zm 6 17] [6] []
 .ret)
 .skip)))
 (zr [zm 18 0,
 zm 6 18] [6] []
 .ret))),
 [.tmp 6],false⟩
def ir332:IFn:=
⟨(zr [zg 4 (.mov (zi 0)),
 zg 5 (.mov zF)] [0,1] []
 (.seq (zr [zm 6 1,
 zg 7 (.bin .lss t6 (zi 1))] [0,1,7] []
 (.cond t7
 (zr [zg 4 (.mov (zi 0)),
 zg 5 (.mov zF)] [4,5] []
 .ret)
 .skip))
 (zr [zm 8 0,
 zm 9 0,
 zm 10 1,
 zc 11 411 [t9,t10],
 zc 12 376 [t8,t11],
 zx 13 12 0,
 zx 14 12 1,
 zm 4 13,
 zm 5 14] [4,5] []
 .ret))),
 [.tmp 4,.tmp 5],false⟩
def ir333:IFn:=
⟨(zr [zg 4 (.mov (zi 0)),
 zg 5 (.mov zF)] [0,1] []
 (.seq (zr [zm 7 1,
 zg 8 (.bin .lss t7 (zi 1))] [0,1,8] []
 (.cond t8
 (zr [zg 4 (.mov (zi 0)),
 zg 5 (.mov zF)] [4,5] []
 .ret)
 .skip))
 (.seq (zr [zm 9 0,
 zm 10 1,
 zc 11 411 [t9,t10],
 zm 6 11] [0,1,6] []
 (zr [zm 12 6,
 zg 13 (.bin .gtr t12 (zi 0))] [0,1,6,13] []
 (.cond t13
 (zr [zm 14 0,
 zm 15 1,
 zm 16 6,
 zg 17 (.bin .sub t15 t16),
 zc 18 338 [t14,t17],
 zx 19 18 0,
 zx 20 18 1,
 zm 4 19,
 zm 5 20] [4,5] []
 .ret)
 .skip)))
 (zr [zm 21 0,
 zm 4 21,
 zg 5 (.mov zT)] [4,5] []
 .ret)))),
 [.tmp 4,.tmp 5],false⟩
def ir334:IFn:=
⟨(zr [zg 2 (.al [zo,zo,zo,zo,zo,zo] true)] [0,2] [2]
 (zr [zm 3 0,
 zg 4 (.bld [zo,zo,zo,zo,zo,zo] [(0,1,t3)]),
 zn (.st t2 t4 6)] [2] [2]
 .ret)),
 [.cell 2 6 true],false⟩
def ir335:IFn:=
⟨(zr [zg 8 (.al [zo,zo,zo,zo,zo,zo] true)] [0,1,2,3,8] [8]
 (zr [zm 10 0,
 zm 11 3,
 zg 12 (.bld [zo,zo,zo,zo,zo,zo] [(0,1,t10),(5,1,t11)]),
 zg 9 (.al [zo,zo,zo,zo,zo,zo] true),
 zn (.st t9 t12 6)] [1,2,8,9] [8,9]
 (.seq (zr [zm 13 2,
 zg 14 (.bin .geq t13 (zi 0)),
 zm 15 14,
 zt 16 15 (.mov t2),
 zt 17 15 (.bin .lss t16 (zi 4)),
 zg 18 (.pick t15 t17 zF)] [1,2,8,9,18] [8,9]
 (.cond t18
 (.reg false [zm 19 2,
 zm 20 1,
 zp 21 9 1,
 zg 22 (.ixa t21 t19 1 4),
 zn (.st t22 t20 1)] [8,9] [8,9])
 .skip))
 (zr [zl 23 9 6,
 zn (.st t8 t23 6)] [8] [8]
 .ret)))),
 [.cell 8 6 true],false⟩
def ir336:IFn:=
⟨(zr [zg 2 (.mov zF)] [0] []
 (zr [zm 3 0,
 zg 4 (.bin .geq t3 (zi 0)),
 zm 5 4,
 zt 6 5 (.mov t0),
 zt 7 5 (.bin .leq t6 (zi 4294967296)),
 zg 8 (.pick t5 t7 zF),
 zm 2 8] [2] []
 .ret)),
 [.tmp 2],false⟩
def q0kp:IC:=
 (.loop [3,4,6,8,9,10,26] [3,4,6,10] (zr [zg 27 (.bin .lss t26 (zi 4))] [3,4,6,8,9,10,26,27] [3,4,6,10]
 (.seq (.cond t27
 .skip
 (.exit 0))
 (.seq (.block 1 (zr [zm 28 26,
 zm 11 28] [3,4,6,8,9,10,11,26] [3,4,6,10]
 (.reg true [zm 29 11,
 zm 30 9,
 zm 31 11,
 zp 32 3 1,
 zg 33 (.ixa t32 t31 1 4),
 zg 34 (.ldl 3 t33 1 false),
 zm 35 11,
 zp 36 4 1,
 zg 37 (.ixa t36 t35 1 4),
 zg 38 (.ldl 4 t37 1 false),
 zg 39 (.callv t30 [t34,t38] false),
 zp 40 10 1,
 zg 41 (.ixa t40 t29 1 4),
 zn (.stl 10 t41 t39 1)] [3,4,6,8,9,10,26] [3,4,6,10])))
 (.reg false [zg 42 (.bin .add t26 (zi 1)),
 zm 26 42] [3,4,6,8,9,10,26] [3,4,6,10])))))
def ir337:IFn:=
⟨(zr [zg 3 (.bx t0 6 true),
 zg 4 (.bx t1 6 true),
 zg 5 (.bx t2 1 false),
 zg 6 (.al [zo,zo,zo,zo,zo,zo] true),
 zg 7 (.mov zF)] [3,4,5,6] [3,4,6]
 (zr [zg 8 (.al [.p (.bool false)] false),
 zn (.st t8 zT 1)] [3,4,5,6,8] [3,4,6]
 (zr [zg 12 (.mkf (.func 412) [] [t5,t8]),
 zm 9 12] [3,4,6,8,9] [3,4,6]
 (.seq (.prep [10] (.reg true [zm 13 9,
 zp 14 3 0,
 zg 15 (.ldl 3 t14 1 false),
 zp 16 4 0,
 zg 17 (.ldl 4 t16 1 false),
 zg 18 (.callv t13 [t15,t17] false),
 zm 19 9,
 zp 20 3 5,
 zg 21 (.ldl 3 t20 1 false),
 zp 22 4 5,
 zg 23 (.ldl 4 t22 1 false),
 zg 24 (.callv t19 [t21,t23] false),
 zg 25 (.bld [zo,zo,zo,zo,zo,zo] [(0,1,t18),(5,1,t24)]),
 zg 10 (.alp [zo,zo,zo,zo,zo,zo]),
 zn (.stl 10 t10 t25 6)] [3,4,6,8,9,10] [3,4,6,10]))
 (.seq (zr [zg 26 (.mov (zi 0))] [3,4,6,8,9,10,26] [3,4,6,10]
 (.block 0 q0kp))
 (.seq (zr [zk 43 8 1,
 zj 44 43] [6,10,44] [6,10]
 (.cond t44
 (zr [zg 45 (.bld [zo,zo,zo,zo,zo,zo] []),
 zn (.st t6 t45 6),
 zg 7 (.mov zF)] [6,7] [6]
 .ret)
 .skip))
 (zr [zl 46 10 6,
 zn (.st t6 t46 6),
 zg 7 (.mov zT)] [6,7] [6]
 .ret))))))),
 [.cell 6 6 true,.tmp 7],false⟩
def ir338:IFn:=
⟨(zr [zg 4 (.mov (zi 0)),
 zg 5 (.mov zF)] [0,1] []
 (zr [zm 7 0,
 zm 8 1,
 zg 9 (.bin .add t7 t8),
 zm 6 9] [0,1,6] []
 (.seq (zr [zm 10 6,
 zm 11 0,
 zg 12 (.bin .gtr t10 t11),
 zm 13 1,
 zg 14 (.bin .gtr t13 (zi 0)),
 zg 15 (.eqb true t12 t14),
 zm 16 15,
 zt 17 16 (.mov t1),
 zt 18 16 (.bin .neq t17 (zi 0)),
 zg 19 (.pick t16 t18 zF)] [6,19] []
 (.cond t19
 (zr [zg 4 (.mov (zi 0)),
 zg 5 (.mov zF)] [4,5] []
 .ret)
 .skip))
 (zr [zm 20 6,
 zm 4 20,
 zg 5 (.mov zT)] [4,5] []
 .ret)))),
 [.tmp 4,.tmp 5],false⟩
def ir345:IFn:=
⟨(zr [zg 2 (.mov (zi 0))] [0] []
 (zr [zm 3 0,
 zg 4 (.mnmx true t3 (zi 0)),
 zg 5 (.mnmx false t4 (zi 1125899906842624)),
 zm 2 5] [2] []
 .ret)),
 [.tmp 2],false⟩
def ir346:IFn:=
⟨(zr [zg 2 (.mov (zi 0))] [0] []
 (zr [zm 3 0,
 zg 4 (.mnmx true t3 (zi 0)),
 zg 5 (.mnmx false t4 (zi 1125899906842624)),
 zm 2 5] [2] []
 .ret)),
 [.tmp 2],false⟩
def ir347:IFn:=
⟨(zr [zg 1 (.bx t0 7 true),
 zg 2 (.mov zF)] [1] [1]
 (zr [zp 3 1 0,
 zk 4 3 1,
 zg 5 (.bin .eql t4 (zi 2)),
 zm 6 5,
 zf 7 6 (.off t1 0),
 zf 8 6 (.ld t7 1 false),
 zf 9 6 (.bin .eql t8 (zi 3)),
 zg 10 (.pick t6 zT t9),
 zm 2 10] [2] []
 .ret)),
 [.tmp 2],false⟩
def ir365:IFn:=
⟨(zr [zg 2 (.bx t0 1 false),
 zg 3 (.bx t1 4 false),
 zg 4 (.mov (.c (.p .nilf)))] [2,3] []
 (zr [zg 5 (.mkf (.func 423) [] [t3,t2]),
 zm 4 5] [4] []
 .ret)),
 [.tmp 4],false⟩
end Go.EnvOf
