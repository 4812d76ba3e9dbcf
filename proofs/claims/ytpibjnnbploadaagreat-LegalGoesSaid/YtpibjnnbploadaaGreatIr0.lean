/- The engine's instructions for the functions, part 0. -/
import Derived.Test.YtpibjnnbploadaaGreatIrT
import Derived.Test.YtpibjnnbploadaaGreatEngAll2
namespace Go.EnvOf
open Go Go.Eng
set_option maxRecDepth 100000
def ir8:IFn:=
⟨(zr [zg 3 (.bx t0 22 true),
 zg 4 (.bx t1 7 true),
 zg 5 (.bx t2 6 true),
 zg 6 (.mov zF)] [3,4,5] [3,4,5]
 (.seq (zr [zl 12 3 22,
 zc 13 15 [t12],
 zm 14 13,
 zf 15 14 (.off t5 3),
 zf 16 14 (.ld t15 1 false),
 zf 17 14 (.len t16),
 zf 18 14 (.bin .gtr t17 (zi 50)),
 zg 19 (.pick t14 zT t18),
 zm 20 19,
 zf 21 20 (.off t5 4),
 zf 22 20 (.ld t21 1 false),
 zf 23 20 (.len t22),
 zf 24 20 (.bin .gtr t23 (zi 50)),
 zg 25 (.pick t20 zT t24),
 zm 26 25,
 zf 27 26 (.off t5 5),
 zf 28 26 (.ld t27 1 false),
 zf 29 26 (.len t28),
 zf 30 26 (.bin .gtr t29 (zi 50)),
 zg 31 (.pick t26 zT t30)] [3,4,5,31] [3,4,5]
 (.cond t31
 (zr [zc 32 34 [],
 zm 6 32] [6] []
 .ret)
 .skip))
 (zr [zl 34 3 22,
 zg 35 (.callz 17 [t34]),
 zm 33 35,
 zx 36 33 0,
 zx 37 33 1,
 zm 7 36,
 zm 8 37] [4,5,7,8] [4,5]
 (.seq (zr [zm 38 8,
 zj 39 38,
 zm 40 39,
 zf 41 40 (.mov t7),
 zf 42 40 (.ld t4 7 true),
 zf 43 40 (.ld t5 6 true),
 zf 44 40 (.call 37 [t41,t42,t43] false),
 zf 45 40 (.un .not t44),
 zg 46 (.pick t40 zT t45)] [4,5,7,46] [4,5]
 (.cond t46
 (zr [zc 47 34 [],
 zm 6 47] [6] []
 .ret)
 .skip))
 (zr [zm 48 7,
 zl 49 4 7,
 zl 50 5 6,
 zc 51 33 [t48,t49,t50],
 zg 9 (.al [zo,zo,zo,zo,zo,zo,zo] true),
 zn (.st t9 t51 7)] [4,5,7,9] [4,5,9]
 (zr [zm 53 7,
 zl 54 4 7,
 zc 55 32 [t53,t54],
 zm 52 55,
 zx 56 52 0,
 zx 57 52 1,
 zg 10 (.al [zo,zo,zo,.nils,.nils,.nils] true),
 zn (.st t10 t56 6),
 zm 11 57] [4,5,7,9,10,11] [4,5,9,10]
 (.seq (zr [zm 58 7,
 zl 59 4 7,
 zl 60 5 6,
 zc 61 39 [t58,t59,t60],
 zg 62 (.fldv t61 4 1 false),
 zm 63 62,
 zt 64 63 (.ld t10 6 true),
 zt 65 63 (.ld t5 6 true),
 zt 66 63 (.call 40 [t64,t65] false),
 zt 67 63 (.un .not t66),
 zg 68 (.pick t63 t67 zF)] [4,7,9,11,68] [4,9]
 (.cond t68
 (zr [zg 6 (.mov zF)] [6] []
 .ret)
 .skip))
 (.seq (.reg true [zm 69 11,
 zm 70 69,
 zt 71 70 (.mov t7),
 zt 72 70 (.ldl 9 t9 7 true),
 zt 73 70 (.call 38 [t71,t72] false),
 zg 74 (.pick t70 t73 zF),
 zm 75 74,
 zt 76 75 (.mov t7),
 zt 77 75 (.ldl 9 t9 7 true),
 zt 78 75 (.call 41 [t76,t77] false),
 zt 79 75 (.mov t7),
 zt 80 75 (.ldl 4 t4 7 true),
 zt 81 75 (.call 41 [t79,t80] false),
 zt 82 75 (.bin .gtr t78 t81),
 zg 83 (.pick t75 t82 zF),
 zm 84 83,
 zt 85 84 (.call 34 [] false),
 zg 86 (.pick t84 t85 zF),
 zm 6 86] [6] [])
 .ret)))))))),
 [.tmp 6],false⟩
def q0iv:IC:=
 (.loop [1,3] [1] (.seq (zr [zm 4 3,
 zp 5 1 20,
 zk 6 5 1,
 zh 7 6,
 zg 8 (.bin .lss t4 t7),
 zm 9 8,
 zt 10 9 (.mov t3),
 zt 11 9 (.bin .lss t10 (zi 100)),
 zg 12 (.pick t9 t11 zF)] [1,3,12] [1]
 (.cond t12
 .skip
 (.exit 0)))
 (.seq (.block 1 (zr [zp 15 1 20,
 zk 16 15 1,
 zm 17 3,
 zg 18 (.ixs t16 t17 2),
 zp 19 18 0,
 zk 20 19 1,
 zh 21 20,
 zg 22 (.bin .gtr t21 (zi 100)),
 zm 23 22,
 zf 24 23 (.off t1 20),
 zf 25 23 (.ld t24 1 false),
 zf 26 23 (.mov t3),
 zf 27 23 (.ixs t25 t26 2),
 zf 28 23 (.off t27 1),
 zf 29 23 (.ld t28 1 false),
 zf 30 23 (.len t29),
 zf 31 23 (.bin .gtr t30 (zi 100)),
 zg 32 (.pick t23 zT t31)] [1,3,32] [1]
 (.cond t32
 (zr [zg 2 (.mov zT)] [2] []
 .ret)
 .skip)))
 (.reg false [zm 13 3,
 zg 14 (.bin .add t13 (zi 1)),
 zm 3 14] [1,3] [1]))))
def ir15:IFn:=
⟨(zr [zg 1 (.bx t0 22 true),
 zg 2 (.mov zF)] [1] [1]
 (.seq (zr [zg 3 (.mov (zi 0))] [1,3] [1]
 (.block 0 q0iv))
 (zr [zp 33 1 19,
 zk 34 33 1,
 zh 35 34,
 zg 36 (.bin .gtr t35 (zi 100)),
 zm 37 36,
 zf 38 37 (.off t1 20),
 zf 39 37 (.ld t38 1 false),
 zf 40 37 (.len t39),
 zf 41 37 (.bin .gtr t40 (zi 100)),
 zg 42 (.pick t37 zT t41),
 zm 43 42,
 zf 44 43 (.off t1 21),
 zf 45 43 (.ld t44 1 false),
 zf 46 43 (.len t45),
 zf 47 43 (.bin .gtr t46 (zi 100)),
 zg 48 (.pick t43 zT t47),
 zm 2 48] [2] []
 .ret))),
 [.tmp 2],false⟩
def q0iw:IC:=
 (.loop [1,6,53,54] [1,35] (zr [zg 55 (.bin .lss t54 t53)] [1,6,53,54,55] [1,35]
 (.seq (.cond t55
 .skip
 (.exit 0))
 (.seq (.block 1 (zr [zm 56 54,
 zm 7 56] [1,6,7,53,54] [1,35]
 (.reg true [zm 57 6,
 zm 58 6,
 zg 59 (.nck t58),
 zp 60 59 23,
 zg 61 (.ldl 35 t60 1 false),
 zp 62 1 20,
 zg 63 (.ldl 1 t62 1 false),
 zm 64 7,
 zg 65 (.slc t63 none (some t64) 2),
 zc 66 78 [t65],
 zg 67 (.bsl 1 1 [zo] [(0,t66)]),
 zg 68 (.app t61 t67 1),
 zg 69 (.nck t57),
 zp 70 69 23,
 zn (.stl 35 t70 t68 1)] [1,6,53,54] [1,35])))
 (.reg false [zg 71 (.bin .add t54 (zi 1)),
 zm 54 71] [1,6,53,54] [1,35])))))
def ir17:IFn:=
⟨(zr [zg 1 (.bx t0 22 true),
 zg 2 (.mov (.c (.p .nilp))),
 zg 3 (.mov zF)] [1] [1]
 (.seq (zr [zl 8 1 22,
 zc 9 71 [t8],
 zj 10 9] [1,10] [1]
 (.cond t10
 (zr [zg 2 (.mov (.c (.p .nilp))),
 zg 3 (.mov zF)] [2,3] [35]
 .ret)
 .skip))
 (zr [zl 11 1 22,
 zc 12 73 [t11],
 zc 13 72 [t12],
 zn (.st t1 t13 22)] [1] [1]
 (zr [zp 15 1 19,
 zk 16 15 1,
 zg 17 (.callz 74 [t16]),
 zm 14 17,
 zx 18 14 0,
 zx 19 14 1,
 zm 4 18,
 zm 5 19] [1,4,5] [1]
 (.seq (zr [zm 20 5,
 zj 21 20] [1,4,21] [1]
 (.cond t21
 (zr [zg 2 (.mov (.c (.p .nilp))),
 zg 3 (.mov zF)] [2,3] [35]
 .ret)
 .skip))
 (.seq (.prep [35] (.reg true [zp 22 1 19,
 zg 23 (.ldl 1 t22 1 false),
 zg 24 (.callz 75 [t23]),
 zm 25 4,
 zp 26 1 19,
 zg 27 (.ldl 1 t26 1 false),
 zp 28 1 21,
 zg 29 (.ldl 1 t28 1 false),
 zg 30 (.callz 76 [t27,t29]),
 zg 31 (.bld [.p .nilp,.p .nilp,.p .nilp] [(0,1,t24),(1,1,t25),(2,1,t30)]),
 zg 32 (.bx t31 3 false),
 zg 33 (.ldl 1 t1 22 true),
 zg 34 (.bld [.p .nilp,zo,zo,zo,zo,zo,zo,zo,zo,zo,zo,zo,zo,zo,zo,zo,zo,zo,zo,.p (.bool false),.nils,.nils,.nils,.nils,zo,zo,zo] [(0,1,t32),(1,22,t33)]),
 zg 35 (.bxp t34 27),
 zm 6 35] [1,6] [1,35]))
 (.seq (.reg true [zm 36 6,
 zm 37 6,
 zg 38 (.nck t37),
 zp 39 38 0,
 zg 40 (.ldl 35 t39 1 false),
 zg 41 (.nck t40),
 zp 42 41 2,
 zk 43 42 1,
 zp 44 1 19,
 zg 45 (.ldl 1 t44 1 false),
 zh 46 45,
 zc 47 77 [t43,t46],
 zg 48 (.nck t36),
 zp 49 48 24,
 zn (.stl 35 t49 t47 3)] [1,6] [1,35])
 (.seq (zr [zp 50 1 20,
 zk 51 50 1,
 zh 52 51,
 zg 53 (.bin .add t52 (zi 1)),
 zg 54 (.mov (zi 0))] [1,6,53,54] [1,35]
 (.block 0 q0iw))
 (.seq (.esc [35] (.reg false [zm 72 6,
 zm 2 72,
 zg 3 (.mov zT)] [2,3] [35]))
 .ret))))))))),
 [.tmp 2,.tmp 3],false⟩
def ir30:IFn:=
⟨(zr [zg 2 (.al [zo,zo,zo,zo,zo,zo,zo] true)] [0,2] [2]
 (zr [zm 3 0,
 zc 4 81 [t3],
 zc 5 87 [t4,(zi 0)],
 zg 6 (.bld [zo,zo,zo,zo,zo,zo,zo] [(0,1,t5)]),
 zn (.st t2 t6 7)] [2] [2]
 .ret)),
 [.cell 2 7 true],false⟩
def ir31:IFn:=
⟨(zr [zg 3 (.bx t1 7 true),
 zg 4 (.mov zF)] [0,3] [3]
 (.seq (.reg true [zm 5 0,
 zg 6 (.ldl 3 t3 7 true),
 zc 7 38 [t5,t6],
 zm 8 7,
 zt 9 8 (.off t3 0),
 zt 10 8 (.ldl 3 t9 1 false),
 zt 11 8 (.mov t0),
 zt 12 8 (.nck t11),
 zt 13 8 (.off t12 0),
 zt 14 8 (.ld t13 1 false),
 zt 15 8 (.nck t14),
 zt 16 8 (.off t15 0),
 zt 17 8 (.ld t16 1 false),
 zt 18 8 (.call 82 [t17] false),
 zt 19 8 (.bin .eql t10 t18),
 zg 20 (.pick t8 t19 zF),
 zm 21 20,
 zt 22 21 (.off t3 3),
 zt 23 21 (.ldl 3 t22 1 false),
 zt 24 21 (.bin .eql t23 (zi 0)),
 zg 25 (.pick t21 t24 zF),
 zm 26 25,
 zt 27 26 (.off t3 2),
 zt 28 26 (.ldl 3 t27 1 false),
 zt 29 26 (.mov t0),
 zt 30 26 (.nck t29),
 zt 31 26 (.off t30 1),
 zt 32 26 (.off t31 20),
 zt 33 26 (.ld t32 1 false),
 zt 34 26 (.len t33),
 zt 35 26 (.bin .eql t28 t34),
 zg 36 (.pick t26 t35 zF),
 zm 37 36,
 zt 38 37 (.off t3 4),
 zt 39 37 (.ldl 3 t38 3 true),
 zt 40 37 (.mov t0),
 zt 41 37 (.nck t40),
 zt 42 37 (.off t41 24),
 zt 43 37 (.ld t42 3 true),
 zt 44 37 (.eqa false [true,true,true] t39 t43),
 zg 45 (.pick t37 t44 zF),
 zm 4 45] [4] [])
 .ret)),
 [.tmp 4],false⟩
def q07z:IC:=
 (.loop [0,3,4,14,15,16] [3,4] (zr [zg 17 (.bin .lss t16 t15)] [0,3,4,14,15,16,17] [3,4]
 (.seq (.cond t17
 .skip
 (.exit 0))
 (.seq (.block 1 (zr [zg 18 (.ixs t14 t16 1),
 zl 19 18 1,
 zg 7 (.al [.p .nilf] true),
 zn (.st t7 t19 1)] [0,3,4,7,14,15,16] [3,4,7]
 (zr [zp 21 7 0,
 zk 22 21 1,
 zm 23 0,
 zl 24 3 7,
 zg 25 (.callv t22 [t23,t24] false),
 zm 20 25,
 zx 26 20 0,
 zx 27 20 1,
 zg 8 (.al [zo,zo,zo,.nils,.nils,.nils] true),
 zn (.st t8 t26 6),
 zm 9 27] [0,3,4,8,9,14,15,16] [3,4,8]
 (zr [zm 28 9] [0,3,4,8,14,15,16,28] [3,4,8]
 (.cond t28
 (zr [zl 29 8 6,
 zn (.st t4 t29 6),
 zg 5 (.mov zT)] [4,5] [4]
 .ret)
 .skip)))))
 (.reg false [zg 30 (.bin .add t16 (zi 1)),
 zm 16 30] [0,3,4,14,15,16] [3,4])))))
def ir32:IFn:=
⟨(zr [zg 3 (.bx t1 7 true),
 zg 4 (.al [zo,zo,zo,.nils,.nils,.nils] true),
 zg 5 (.mov zF)] [0,3,4] [3,4]
 (.seq (zr [zg 10 (.bld [.p .nilf] [(0,1,(.c (.p (.fn 116))))]),
 zg 11 (.bld [.p .nilf] [(0,1,(.c (.p (.fn 117))))]),
 zg 12 (.bld [.p .nilf] [(0,1,(.c (.p (.fn 118))))]),
 zg 13 (.bld [.p .nilf] [(0,1,(.c (.p (.fn 119))))]),
 zg 14 (.bsl 1 4 [.p .nilf] [(0,t10),(1,t11),(2,t12),(3,t13)]),
 zh 15 14,
 zg 16 (.mov (zi 0))] [0,3,4,14,15,16] [3,4]
 (.block 0 q07z))
 (zr [zg 31 (.bld [zo,zo,zo,.nils,.nils,.nils] []),
 zn (.st t4 t31 6),
 zg 5 (.mov zF)] [4,5] [4]
 .ret))),
 [.cell 4 6 true,.tmp 5],false⟩
def q0ix:IC:=
 (.loop [0,6,7,8,67,68,69] [6,7,8] (zr [zg 70 (.bin .lss t69 t68)] [0,6,7,8,67,68,69,70] [6,7,8]
 (.seq (.cond t70
 .skip
 (.exit 0))
 (.seq (.block 1 (zr [zg 71 (.ixs t67 t69 1),
 zk 72 71 1,
 zm 10 72] [0,6,7,8,10,67,68,69] [6,7,8]
 (.reg true [zg 73 (.ldl 8 t8 3 true),
 zm 74 0,
 zg 75 (.nck t74),
 zp 76 75 1,
 zp 77 76 21,
 zk 78 77 1,
 zm 79 10,
 zc 80 123 [t78,t79],
 zc 81 122 [t73,t80],
 zn (.stl 8 t8 t81 3)] [0,6,7,8,67,68,69] [6,7,8])))
 (.reg false [zg 82 (.bin .add t69 (zi 1)),
 zm 69 82] [0,6,7,8,67,68,69] [6,7,8])))))
def ir33:IFn:=
⟨(zr [zg 4 (.bx t1 7 true),
 zg 5 (.bx t2 6 true),
 zg 6 (.al [zo,zo,zo,zo,zo,zo,zo] true)] [0,4,5,6] [4,5,6]
 (.seq (zr [zm 11 0,
 zl 12 4 7,
 zc 13 38 [t11,t12],
 zj 14 13] [0,4,5,6,14] [4,5,6]
 (.cond t14
 (zr [zg 15 (.bld [zo,zo,zo,zo,zo,zo,zo] []),
 zn (.st t6 t15 7)] [6] [6]
 .ret)
 .skip))
 (.seq (.prep [7] (.reg true [zp 16 4 0,
 zg 17 (.ldl 4 t16 1 false),
 zp 18 4 1,
 zg 19 (.ldl 4 t18 1 false),
 zg 20 (.bin .add t19 (zi 1)),
 zm 21 0,
 zg 22 (.nck t21),
 zp 23 22 1,
 zp 24 23 0,
 zp 25 24 0,
 zk 26 25 1,
 zg 27 (.mnmx false t20 t26),
 zg 28 (.bld [zo,zo,zo,zo,zo,zo,zo] [(0,1,t17),(1,1,t27)]),
 zg 7 (.alp [zo,zo,zo,zo,zo,zo,zo]),
 zn (.stl 7 t7 t28 7)] [0,4,5,6,7] [4,5,6,7]))
 (.seq (zr [zp 29 5 0,
 zk 30 29 1,
 zg 31 (.bin .eql t30 (zi 1))] [0,4,5,6,7,31] [4,5,6,7]
 (.cond t31
 (.reg true [zm 32 0,
 zg 33 (.nck t32),
 zp 34 33 0,
 zk 35 34 1,
 zg 36 (.nck t35),
 zp 37 36 0,
 zk 38 37 1,
 zp 39 5 2,
 zg 40 (.ldl 5 t39 1 false),
 zc 41 87 [t38,t40],
 zp 42 7 0,
 zn (.stl 7 t42 t41 1)] [0,4,5,6,7] [4,5,6,7])
 .skip))
 (.seq (.reg true [zm 44 0,
 zg 45 (.nck t44),
 zp 46 45 1,
 zp 47 46 20,
 zk 48 47 1,
 zm 49 0,
 zg 50 (.ldl 4 t4 7 true),
 zp 51 5 2,
 zg 52 (.ldl 5 t51 1 false),
 zg 53 (.call 121 [t49,t50,t52] true),
 zp 54 5 3,
 zg 55 (.ldl 5 t54 1 false),
 zc 56 120 [t48,t53,t55],
 zm 43 56,
 zx 57 43 0,
 zx 58 43 1,
 zp 59 7 2,
 zn (.stl 7 t59 t57 1),
 zp 60 7 3,
 zn (.stl 7 t60 t58 1)] [0,4,5,6,7] [4,5,6,7])
 (zr [zp 61 4 4,
 zl 62 61 3,
 zg 8 (.al [zo,zo,zo] true),
 zn (.st t8 t62 3)] [0,5,6,7,8] [5,6,7,8]
 (.seq (zr [zp 63 5 4,
 zk 64 63 1,
 zp 65 5 5,
 zk 66 65 1,
 zg 67 (.bsl 1 2 [.nils] [(0,t64),(1,t66)]),
 zh 68 67,
 zg 69 (.mov (zi 0))] [0,6,7,8,67,68,69] [6,7,8]
 (.block 0 q0ix))
 (zr [zl 83 8 3,
 zp 84 7 4,
 zn (.st t84 t83 3)] [6,7] [6,7]
 (zr [zl 85 7 7,
 zn (.st t6 t85 7)] [6] [6]
 .ret))))))))),
 [.cell 6 7 true],false⟩
def ir34:IFn:=
⟨(zr [zg 0 (.mov zF)] [] []
 (zr [zg 5 (.bld [zo,zo,zo,zo,zo,zo,zo,zo,zo,zo,zo,zo,zo,zo,zo,zo,zo,zo,.p (.bool false)] [(0,1,(zi 1)),(1,1,(zi 1)),(3,1,(zi 9)),(4,1,(zi 9))]),
 zg 6 (.bld [zo,zo,zo,zo,zo,zo,zo] [(0,1,(zi 1)),(1,1,(zi 3))]),
 zg 7 (.bld [zo,zo,zo,zo,zo,zo,zo] [(0,1,(zi 1)),(1,1,(zi 3))]),
 zg 8 (.bld [zo,zo,zo,zo,zo,zo,zo] [(0,1,(zi 2))]),
 zg 9 (.bld [zo,zo,zo,zo,zo,zo,zo] [(0,1,(zi 1)),(1,1,(zi 30))]),
 zg 10 (.bsl 7 4 [zo,zo,zo,zo,zo,zo,zo] [(0,t6),(1,t7),(2,t8),(3,t9)]),
 zg 11 (.bld [zo,zo,zo,zo,zo,zo,zo,zo,zo,zo,zo,zo,zo,zo,zo,zo,zo,zo,.p (.bool false),.nils,.nils,.nils] [(0,19,t5),(19,1,t10)]),
 zg 12 (.callz 17 [t11]),
 zm 4 12,
 zx 13 4 0,
 zx 14 4 1,
 zm 1 13,
 zm 2 14] [1,2] []
 (zr [zm 15 1,
 zc 16 30 [t15],
 zg 3 (.al [zo,zo,zo,zo,zo,zo,zo] true),
 zn (.st t3 t16 7)] [1,2,3] [3]
 (zr [zm 17 2,
 zm 18 17,
 zt 19 18 (.mov t1),
 zt 20 18 (.ld t3 7 true),
 zt 21 18 (.bld [zo,zo,zo,.nils,.nils,.nils] [(0,1,(zi 1)),(2,1,(zi 2))]),
 zt 22 18 (.call 37 [t19,t20,t21] false),
 zg 23 (.pick t18 t22 zF),
 zm 24 23,
 zt 25 24 (.mov t1),
 zt 26 24 (.ld t3 7 true),
 zt 27 24 (.bld [zo,zo,zo,.nils,.nils,.nils] [(0,1,(zi 1)),(2,1,(zi 1))]),
 zt 28 24 (.call 35 [t25,t26,t27] false),
 zt 29 24 (.bin .eql t28 (zi 14)),
 zg 30 (.pick t24 t29 zF),
 zm 31 30,
 zt 32 31 (.mov t1),
 zt 33 31 (.ld t3 7 true),
 zt 34 31 (.bld [zo,zo,zo,.nils,.nils,.nils] [(0,1,(zi 1)),(2,1,(zi 4))]),
 zt 35 31 (.call 35 [t32,t33,t34] false),
 zt 36 31 (.bin .eql t35 (zi 17)),
 zg 37 (.pick t31 t36 zF),
 zm 38 37,
 zt 39 38 (.mov t1),
 zt 40 38 (.bld [zo,zo,zo,zo,zo,zo,zo] [(0,1,(zi 3)),(1,1,(zi 1))]),
 zt 41 38 (.bld [zo,zo,zo,.nils,.nils,.nils] [(0,1,(zi 1)),(1,1,(zi 3)),(2,1,(zi 4))]),
 zt 42 38 (.call 37 [t39,t40,t41] false),
 zg 43 (.pick t38 t42 zF),
 zm 0 43] [0] []
 .ret)))),
 [.tmp 0],false⟩
def q0iy:IC:=
 (.loop [0,4,5,9,47,48,49] [4,5,9] (zr [zg 50 (.bin .lss t49 t48)] [0,4,5,9,47,48,49,50] [4,5,9]
 (.seq (.cond t50
 .skip
 (.exit 0))
 (.seq (.block 1 (zr [zg 51 (.ixs t47 t49 2),
 zl 52 51 2,
 zg 11 (.al [zo,.p .nilf] true),
 zn (.st t11 t52 2)] [0,4,5,9,11,47,48,49] [4,5,9,11]
 (zr [zp 53 11 1,
 zk 54 53 1,
 zl 55 9 36,
 zg 56 (.callv t54 [t55] false)] [0,4,5,9,11,47,48,49,56] [4,5,9,11]
 (.cond t56
 (zr [zp 57 11 0,
 zk 58 57 1,
 zm 6 58] [6] []
 .ret)
 .skip))))
 (.reg false [zg 59 (.bin .add t49 (zi 1)),
 zm 49 59] [0,4,5,9,47,48,49] [4,5,9])))))
def ir35:IFn:=
⟨(zr [zg 4 (.bx t1 7 true),
 zg 5 (.bx t2 6 true),
 zg 6 (.mov (zi 0))] [0,4,5] [4,5]
 (.seq (.reg true [zc 15 124 [],
 zp 16 5 0,
 zg 17 (.ldl 5 t16 1 false),
 zg 18 (.mp (.lk none (.nils) true) [t15,t17]),
 zm 14 18,
 zx 19 14 0,
 zx 20 14 1,
 zm 7 19,
 zm 8 20] [0,4,5,7,8] [4,5])
 (.seq (zr [zm 21 8,
 zj 22 21,
 zm 23 22,
 zf 24 23 (.mov t0),
 zf 25 23 (.ld t4 7 true),
 zf 26 23 (.call 38 [t24,t25] false),
 zf 27 23 (.un .not t26),
 zg 28 (.pick t23 zT t27),
 zm 29 28,
 zf 30 29 (.mov t0),
 zf 31 29 (.ld t4 7 true),
 zf 32 29 (.call 31 [t30,t31] false),
 zg 33 (.pick t29 zT t32),
 zm 34 33,
 zf 35 34 (.off t5 1),
 zf 36 34 (.ld t35 1 false),
 zf 37 34 (.off t4 0),
 zf 38 34 (.ld t37 1 false),
 zf 39 34 (.bin .neq t36 t38),
 zg 40 (.pick t34 zT t39)] [0,4,5,7,40] [4,5]
 (.cond t40
 (zr [zg 6 (.mov (zi 19))] [6] []
 .ret)
 .skip))
 (.seq (.prep [9] (.reg true [zm 41 0,
 zg 42 (.ldl 4 t4 7 true),
 zg 43 (.ldl 5 t5 6 true),
 zm 44 0,
 zc 45 100 [t44],
 zg 46 (.bld [.p .nilp,zo,zo,zo,zo,zo,zo,zo,zo,zo,zo,.nils,.nils,.nils,zo,zo,zo,zo,zo,zo,zo,zo,zo,zo,zo,zo,zo,zo,zo,zo,zo,zo,.p (.bool false),.nils,.nils,.nils] [(0,1,t41),(1,7,t42),(8,6,t43),(14,22,t45)]),
 zg 9 (.alp [.p .nilp,zo,zo,zo,zo,zo,zo,zo,zo,zo,zo,.nils,.nils,.nils,zo,zo,zo,zo,zo,zo,zo,zo,zo,zo,zo,zo,zo,zo,zo,zo,zo,zo,.p (.bool false),.nils,.nils,.nils]),
 zn (.stl 9 t9 t46 36)] [0,4,5,7,9] [4,5,9]))
 (.seq (zr [zm 47 7,
 zh 48 47,
 zg 49 (.mov (zi 0))] [0,4,5,9,47,48,49] [4,5,9]
 (.block 0 q0iy))
 (.seq (zr [zl 60 9 36,
 zc 61 125 [t60]] [0,4,5,61] [4,5]
 (.cond t61
 (zr [zm 63 0,
 zl 64 4 7,
 zc 65 32 [t63,t64],
 zm 62 65,
 zx 66 62 0,
 zx 67 62 1,
 zg 12 (.al [zo,zo,zo,.nils,.nils,.nils] true),
 zn (.st t12 t66 6),
 zm 13 67] [5,12] [5,12]
 (zr [zl 68 5 6,
 zl 69 12 6,
 zc 70 126 [t68,t69],
 zj 71 70] [71] []
 (.cond t71
 (zr [zg 6 (.mov (zi 17))] [6] []
 .ret)
 .skip)))
 .skip))
 (zr [zg 6 (.mov (zi 0))] [6] []
 .ret))))))),
 [.tmp 6],false⟩
def ir37:IFn:=
⟨(zr [zg 4 (.bx t1 7 true),
 zg 5 (.bx t2 6 true),
 zg 6 (.mov zF)] [0,4,5] [4,5]
 (zr [zm 7 0,
 zl 8 4 7,
 zl 9 5 6,
 zc 10 35 [t7,t8,t9],
 zg 11 (.bin .eql t10 (zi 0)),
 zm 6 11] [6] []
 .ret)),
 [.tmp 6],false⟩
def ir38:IFn:=
⟨(zr [zg 3 (.bx t1 7 true),
 zg 4 (.mov zF)] [0,3] [3]
 (.seq (.seq (.reg true [zm 6 0,
 zg 7 (.eqn .ptr false t6),
 zm 8 7,
 zf 9 8 (.off t3 0),
 zf 10 8 (.ldl 3 t9 1 false),
 zf 11 8 (.bin .lss t10 (zi 0)),
 zg 12 (.pick t8 zT t11),
 zm 13 12,
 zf 14 13 (.off t3 0),
 zf 15 13 (.ldl 3 t14 1 false),
 zf 16 13 (.mov t0),
 zf 17 13 (.nck t16),
 zf 18 13 (.off t17 0),
 zf 19 13 (.ld t18 1 false),
 zf 20 13 (.nck t19),
 zf 21 13 (.off t20 0),
 zf 22 13 (.ld t21 1 false),
 zf 23 13 (.call 82 [t22] false),
 zf 24 13 (.bin .gtr t15 t23),
 zg 25 (.pick t13 zT t24),
 zm 26 25,
 zf 27 26 (.mov t0),
 zf 28 26 (.nck t27),
 zf 29 26 (.off t28 0),
 zf 30 26 (.ld t29 1 false),
 zf 31 26 (.nck t30),
 zf 32 26 (.off t31 0),
 zf 33 26 (.ld t32 1 false),
 zf 34 26 (.off t3 0),
 zf 35 26 (.ldl 3 t34 1 false),
 zf 36 26 (.call 87 [t33,t35] false),
 zf 37 26 (.off t3 0),
 zf 38 26 (.ldl 3 t37 1 false),
 zf 39 26 (.bin .neq t36 t38),
 zg 40 (.pick t26 zT t39),
 zm 41 40,
 zf 42 41 (.off t3 1),
 zf 43 41 (.ldl 3 t42 1 false),
 zf 44 41 (.bin .lss t43 (zi 0)),
 zg 45 (.pick t41 zT t44),
 zm 46 45,
 zf 47 46 (.off t3 1),
 zf 48 46 (.ldl 3 t47 1 false),
 zf 49 46 (.mov t0),
 zf 50 46 (.nck t49),
 zf 51 46 (.off t50 1),
 zf 52 46 (.off t51 0),
 zf 53 46 (.off t52 0),
 zf 54 46 (.ld t53 1 false),
 zf 55 46 (.bin .gtr t48 t54),
 zg 56 (.pick t46 zT t55)] [0,3,56] [3])
 (.cond t56
 (zr [zg 4 (.mov zF)] [4] []
 .ret)
 .skip))
 (zr [zp 57 3 4,
 zl 58 57 3,
 zg 5 (.al [zo,zo,zo] true),
 zn (.st t5 t58 3)] [0,3,5] [3,5]
 (.seq (.reg true [zm 59 0,
 zg 60 (.ldl 3 t3 7 true),
 zc 61 132 [t59,t60],
 zm 62 61,
 zt 63 62 (.bld [zo,zo,zo] []),
 zt 64 62 (.ldl 5 t5 3 true),
 zt 65 62 (.call 133 [t63,t64] false),
 zg 66 (.pick t62 t65 zF),
 zm 67 66,
 zt 68 67 (.ldl 5 t5 3 true),
 zt 69 67 (.mov t0),
 zt 70 67 (.nck t69),
 zt 71 67 (.off t70 0),
 zt 72 67 (.ld t71 1 false),
 zt 73 67 (.nck t72),
 zt 74 67 (.off t73 2),
 zt 75 67 (.ld t74 1 false),
 zt 76 67 (.off t3 0),
 zt 77 67 (.ldl 3 t76 1 false),
 zt 78 67 (.call 77 [t75,t77] false),
 zt 79 67 (.call 133 [t68,t78] false),
 zg 80 (.pick t67 t79 zF),
 zm 4 80] [4] [])
 .ret)))),
 [.tmp 4],false⟩
def ir39:IFn:=
⟨(zr [zg 4 (.bx t1 7 true),
 zg 5 (.bx t2 6 true),
 zg 6 (.al [zo,zo,zo,.p (.bool false),.p (.bool false),zo,zo,zo,zo,zo] true)] [0,4,5,6] [4,5,6]
 (zr [zg 7 (.al [zo,zo,zo,.p (.bool false),.p (.bool false),zo,zo,zo,zo,zo] true)] [0,4,5,6,7] [4,5,6,7]
 (.seq (zr [zm 10 0,
 zl 11 4 7,
 zc 12 38 [t10,t11],
 zj 13 12] [0,4,5,6,7,13] [4,5,6,7]
 (.cond t13
 (zr [zl 14 7 10,
 zn (.st t6 t14 10)] [6] [6]
 .ret)
 .skip))
 (zr [zm 15 0,
 zc 16 100 [t15],
 zg 8 (.al [zo,zo,zo,zo,zo,zo,zo,zo,zo,zo,zo,zo,zo,zo,zo,zo,zo,zo,.p (.bool false),.nils,.nils,.nils] true),
 zn (.st t8 t16 22)] [0,4,5,6,7,8] [4,5,6,7,8]
 (zr [zp 17 8 20,
 zk 18 17 1,
 zp 19 5 3,
 zk 20 19 1,
 zp 21 8 0,
 zp 22 21 6,
 zk 23 22 1,
 zc 24 134 [t18,t20,t23],
 zp 25 7 0,
 zn (.st t25 t24 1)] [0,4,5,6,7,8] [4,5,6,7,8]
 (.seq (zr [zp 26 5 0,
 zk 27 26 1] [0,4,5,6,7,8,27] [4,5,6,7,8]
 (.block 0 (zr [zg 29 (.bin .eql t27 (zi 1)),
 zm 28 29] [0,4,5,6,7,8,27,28] [4,5,6,7,8]
 (.cond t28
 (.reg false [zp 30 8 0,
 zl 31 30 19,
 zp 32 8 21,
 zk 33 32 1,
 zp 34 5 4,
 zk 35 34 1,
 zp 36 5 5,
 zk 37 36 1,
 zg 38 (.bld [.nils,.nils] [(0,1,t35),(1,1,t37)]),
 zc 39 135 [t31,t33,t38],
 zp 40 7 1,
 zn (.st t40 t39 1)] [0,4,5,6,7,8] [4,5,6,7,8])
 (zr [zg 42 (.bin .eql t27 (zi 2)),
 zm 41 42] [0,4,5,6,7,8,41] [4,5,6,7,8]
 (.cond t41
 (.reg false [zp 43 8 0,
 zl 44 43 19,
 zp 45 8 21,
 zk 46 45 1,
 zp 47 5 4,
 zk 48 47 1,
 zc 49 136 [t44,t46,t48],
 zp 50 7 1,
 zn (.st t50 t49 1)] [0,4,5,6,7,8] [4,5,6,7,8])
 .skip))))))
 (.seq (.reg true [zm 51 0,
 zg 52 (.ldl 4 t4 7 true),
 zc 53 101 [t51,t52],
 zp 54 7 0,
 zg 55 (.ldl 7 t54 1 false),
 zg 56 (.bin .sub t53 t55),
 zp 57 7 1,
 zg 58 (.ldl 7 t57 1 false),
 zg 59 (.bin .sub t56 t58),
 zp 60 7 2,
 zn (.stl 7 t60 t59 1)] [0,4,5,6,7,8] [4,5,6,7,8])
 (zr [zm 61 0,
 zl 62 5 6,
 zc 63 137 [t61,t62],
 zp 64 7 3,
 zn (.st t64 t63 1)] [0,4,5,6,7,8] [4,5,6,7,8]
 (zr [zp 65 5 3,
 zk 66 65 1,
 zh 67 66,
 zg 68 (.bin .gtr t67 (zi 0)),
 zm 69 68,
 zt 70 69 (.off t7 0),
 zt 71 69 (.ld t70 1 false),
 zt 72 69 (.off t8 0),
 zt 73 69 (.off t72 8),
 zt 74 69 (.ld t73 1 false),
 zt 75 69 (.bin .gtr t71 t74),
 zg 76 (.pick t69 t75 zF),
 zm 9 76] [0,4,5,6,7,9] [4,5,6,7]
 (.seq (zr [zp 77 5 0,
 zk 78 77 1,
 zg 79 (.bin .neq t78 (zi 1))] [0,4,5,6,7,9,79] [4,5,6,7]
 (.cond t79
 (zr [zm 80 9,
 zm 81 80,
 zf 82 81 (.off t7 2),
 zf 83 81 (.ld t82 1 false),
 zf 84 81 (.bin .lss t83 (zi 0)),
 zg 85 (.pick t81 zT t84),
 zp 86 7 4,
 zn (.st t86 t85 1)] [6,7] [6,7]
 (zr [zl 87 7 10,
 zn (.st t6 t87 10)] [6] [6]
 .ret))
 .skip))
 (.seq (.reg true [zm 88 0,
 zc 89 105 [t88],
 zp 90 4 0,
 zg 91 (.ldl 4 t90 1 false),
 zp 92 5 2,
 zg 93 (.ldl 5 t92 1 false),
 zc 94 139 [t89,t91,t93],
 zp 95 7 2,
 zg 96 (.ldl 7 t95 1 false),
 zp 97 7 3,
 zg 98 (.ldl 7 t97 1 false),
 zc 99 138 [t94,t96,t98],
 zp 100 7 5,
 zn (.stl 7 t100 t99 5)] [6,7,9] [6,7])
 (zr [zm 101 9,
 zm 102 101,
 zf 103 102 (.off t7 5),
 zf 104 102 (.off t103 0),
 zf 105 102 (.ld t104 1 false),
 zf 106 102 (.bin .eql t105 (zi 3)),
 zg 107 (.pick t102 zT t106),
 zp 108 7 4,
 zn (.st t108 t107 1)] [6,7] [6,7]
 (zr [zl 109 7 10,
 zn (.st t6 t109 10)] [6] [6]
 .ret))))))))))))),
 [.cell 6 10 true],false⟩
def ir40:IFn:=
⟨(zr [zg 2 (.bx t0 6 true),
 zg 3 (.bx t1 6 true),
 zg 4 (.mov zF)] [2,3] [2,3]
 (zr [zp 5 2 0,
 zk 6 5 1,
 zp 7 3 0,
 zk 8 7 1,
 zg 9 (.bin .eql t6 t8),
 zm 10 9,
 zt 11 10 (.off t2 1),
 zt 12 10 (.ld t11 1 false),
 zt 13 10 (.off t3 1),
 zt 14 10 (.ld t13 1 false),
 zt 15 10 (.bin .eql t12 t14),
 zg 16 (.pick t10 t15 zF),
 zm 17 16,
 zt 18 17 (.off t2 2),
 zt 19 17 (.ld t18 1 false),
 zt 20 17 (.off t3 2),
 zt 21 17 (.ld t20 1 false),
 zt 22 17 (.bin .eql t19 t21),
 zg 23 (.pick t17 t22 zF),
 zm 24 23,
 zt 25 24 (.off t2 3),
 zt 26 24 (.ld t25 1 false),
 zt 27 24 (.off t3 3),
 zt 28 24 (.ld t27 1 false),
 zt 29 24 (.call 140 [t26,t28] false),
 zg 30 (.pick t24 t29 zF),
 zm 31 30,
 zt 32 31 (.off t2 4),
 zt 33 31 (.ld t32 1 false),
 zt 34 31 (.off t3 4),
 zt 35 31 (.ld t34 1 false),
 zt 36 31 (.call 141 [t33,t35] false),
 zg 37 (.pick t31 t36 zF),
 zm 38 37,
 zt 39 38 (.off t2 5),
 zt 40 38 (.ld t39 1 false),
 zt 41 38 (.off t3 5),
 zt 42 38 (.ld t41 1 false),
 zt 43 38 (.call 141 [t40,t42] false),
 zg 44 (.pick t38 t43 zF),
 zm 4 44] [4] []
 .ret)),
 [.tmp 4],false⟩
def ir41:IFn:=
⟨(zr [zg 3 (.bx t1 7 true),
 zg 4 (.mov (zi 0))] [0,3] [3]
 (.seq (zr [zm 5 0,
 zl 6 3 7,
 zc 7 38 [t5,t6],
 zj 8 7] [0,3,8] [3]
 (.cond t8
 (zr [zg 4 (.mov (zi 0))] [4] []
 .ret)
 .skip))
 (.seq (.reg true [zp 9 3 0,
 zg 10 (.ldl 3 t9 1 false),
 zm 11 0,
 zg 12 (.nck t11),
 zp 13 12 23,
 zk 14 13 1,
 zp 15 3 2,
 zg 16 (.ldl 3 t15 1 false),
 zg 17 (.ixs t14 t16 1),
 zk 18 17 1,
 zg 19 (.bin .add t10 t18),
 zp 20 3 3,
 zg 21 (.ldl 3 t20 1 false),
 zg 22 (.bin .add t19 t21),
 zp 23 3 4,
 zg 24 (.ldl 3 t23 3 true),
 zg 25 (.call 142 [t24] true),
 zg 26 (.bin .add t22 t25),
 zm 4 26] [4] [])
 .ret))),
 [.tmp 4],false⟩
def ir71:IFn:=
⟨(zr [zg 1 (.bx t0 22 true),
 zg 2 (.mov zF)] [1] [1]
 (zr [zl 6 1 22,
 zc 7 188 [t6],
 zm 5 7,
 zx 8 5 0,
 zx 9 5 1,
 zm 3 8,
 zm 4 9] [3] []
 (zr [zm 10 3,
 zg 11 (.bin .eql t10 (zi 0)),
 zm 2 11] [2] []
 .ret))),
 [.tmp 2],false⟩
def q0iz:IC:=
 (.loop [2,3,16,17,18] [2,3] (zr [zg 19 (.bin .lss t18 t17)] [2,3,16,17,18,19] [2,3]
 (.seq (.cond t19
 .skip
 (.exit 0))
 (.seq (.block 1 (zr [zg 20 (.ixs t16 t18 2),
 zl 21 20 2,
 zg 5 (.al [.nils,.nils] true),
 zn (.st t5 t21 2)] [2,3,5,16,17,18] [2,3,5]
 (.reg true [zp 22 3 20,
 zg 23 (.ldl 3 t22 1 false),
 zp 24 5 0,
 zg 25 (.ldl 5 t24 1 false),
 zg 26 (.callz 191 [t25]),
 zp 27 5 1,
 zg 28 (.ldl 5 t27 1 false),
 zg 29 (.callz 192 [t28]),
 zg 30 (.bld [.nils,.nils] [(0,1,t26),(1,1,t29)]),
 zg 31 (.bsl 2 1 [.nils,.nils] [(0,t30)]),
 zg 32 (.app t23 t31 2),
 zp 33 3 20,
 zn (.stl 3 t33 t32 1)] [2,3,16,17,18] [2,3])))
 (.reg false [zg 34 (.bin .add t18 (zi 1)),
 zm 18 34] [2,3,16,17,18] [2,3])))))
def ir72:IFn:=
⟨(zr [zg 1 (.bx t0 22 true),
 zg 2 (.al [zo,zo,zo,zo,zo,zo,zo,zo,zo,zo,zo,zo,zo,zo,zo,zo,zo,zo,.p (.bool false),.nils,.nils,.nils] true)] [1,2] [1,2]
 (.seq (.prep [3] (.reg true [zp 6 1 0,
 zg 7 (.ldl 1 t6 19 true),
 zp 8 1 19,
 zg 9 (.ldl 1 t8 1 false),
 zg 10 (.callz 189 [t9]),
 zp 11 1 21,
 zg 12 (.ldl 1 t11 1 false),
 zg 13 (.callz 190 [t12]),
 zg 14 (.bld [zo,zo,zo,zo,zo,zo,zo,zo,zo,zo,zo,zo,zo,zo,zo,zo,zo,zo,.p (.bool false),.nils,.nils,.nils] [(0,19,t7),(19,1,t10),(21,1,t13)]),
 zg 3 (.alp [zo,zo,zo,zo,zo,zo,zo,zo,zo,zo,zo,zo,zo,zo,zo,zo,zo,zo,.p (.bool false),.nils,.nils,.nils]),
 zn (.stl 3 t3 t14 22)] [1,2,3] [1,2,3]))
 (.seq (zr [zp 15 1 20,
 zk 16 15 1,
 zh 17 16,
 zg 18 (.mov (zi 0))] [2,3,16,17,18] [2,3]
 (.block 0 q0iz))
 (zr [zl 35 3 22,
 zn (.st t2 t35 22)] [2] [2]
 .ret)))),
 [.cell 2 22 true],false⟩
def q0ad:IC:=
 (.loop [2,3,4,44,45] [2,3] (zr [zg 46 (.bin .lss t45 t44)] [2,3,4,44,45,46] [2,3]
 (.seq (.cond t46
 .skip
 (.exit 0))
 (.seq (.block 1 (zr [zm 47 45,
 zm 5 47] [2,3,4,5,44,45] [2,3]
 (.reg true [zg 48 (.ldl 3 t3 1 true),
 zp 49 4 21,
 zk 50 49 1,
 zm 51 5,
 zg 52 (.ixs t50 t51 3),
 zp 53 52 1,
 zg 54 (.bsl 1 1 [.p .nilp] [(0,t53)]),
 zc 55 195 [t48,(.c (.p (.fn 197))),t54]] [2,3,4,44,45] [2,3])))
 (.reg false [zg 56 (.bin .add t45 (zi 1)),
 zm 45 56] [2,3,4,44,45] [2,3])))))
def ir73:IFn:=
⟨(zr [zg 1 (.bx t0 22 true),
 zg 2 (.al [zo,zo,zo,zo,zo,zo,zo,zo,zo,zo,zo,zo,zo,zo,zo,zo,zo,zo,.p (.bool false),.nils,.nils,.nils] true)] [1,2] [1,2]
 (zr [zp 6 1 0,
 zp 7 6 5,
 zk 8 7 1,
 zg 9 (.bld [zo] [(0,1,t8)]),
 zg 3 (.al [zo] true),
 zn (.st t3 t9 1)] [1,2,3] [1,2,3]
 (.seq (zr [zp 10 3 0,
 zk 11 10 1,
 zg 12 (.bin .lss t11 (zi 1))] [1,2,3,12] [1,2,3]
 (.cond t12
 (zr [zl 13 1 22,
 zn (.st t2 t13 22)] [2] [2]
 .ret)
 .skip))
 (.seq (.prep [4] (.reg true [zp 14 1 0,
 zg 15 (.ldl 1 t14 19 true),
 zg 16 (.ldl 3 t3 1 true),
 zp 17 1 19,
 zg 18 (.ldl 1 t17 1 false),
 zc 19 193 [t16,t18],
 zg 20 (.ldl 3 t3 1 true),
 zp 21 1 20,
 zg 22 (.ldl 1 t21 1 false),
 zc 23 194 [t20,t22],
 zp 24 1 21,
 zg 25 (.ldl 1 t24 1 false),
 zc 26 190 [t25],
 zg 27 (.bld [zo,zo,zo,zo,zo,zo,zo,zo,zo,zo,zo,zo,zo,zo,zo,zo,zo,zo,.p (.bool false),.nils,.nils,.nils] [(0,19,t15),(19,1,t19),(20,1,t23),(21,1,t26)]),
 zg 4 (.alp [zo,zo,zo,zo,zo,zo,zo,zo,zo,zo,zo,zo,zo,zo,zo,zo,zo,zo,.p (.bool false),.nils,.nils,.nils]),
 zn (.stl 4 t4 t27 22)] [2,3,4] [2,3,4]))
 (.esc [4] (zr [zl 28 3 1,
 zp 29 4 0,
 zp 30 29 3,
 zp 31 4 0,
 zp 32 31 4,
 zg 33 (.bsl 1 2 [.p .nilp] [(0,t30),(1,t32)]),
 zc 34 195 [t28,(.c (.p (.fn 196))),t33]] [2,3,4] [2,3]
 (zr [zl 35 3 1,
 zp 36 4 0,
 zp 37 36 6,
 zp 38 4 0,
 zp 39 38 7,
 zg 40 (.bsl 1 2 [.p .nilp] [(0,t37),(1,t39)]),
 zc 41 195 [t35,(.c (.p (.fn 197))),t40]] [2,3,4] [2,3]
 (.seq (zr [zp 42 4 21,
 zk 43 42 1,
 zh 44 43,
 zg 45 (.mov (zi 0))] [2,3,4,44,45] [2,3]
 (.block 0 q0ad))
 (zr [zl 57 4 22,
 zn (.st t2 t57 22)] [2] [2]
 .ret))))))))),
 [.cell 2 22 true],false⟩
def q0ae:IC:=
 (.loop [0,4,23,24] [21] (zr [zg 25 (.bin .lss t24 t23)] [0,4,23,24,25] [21]
 (.seq (.cond t25
 .skip
 (.exit 0))
 (.seq (.block 1 (zr [zm 26 24,
 zm 5 26] [0,4,5,23,24] [21]
 (zr [zm 27 0,
 zm 28 5,
 zg 29 (.ixs t27 t28 7),
 zl 30 29 7,
 zc 31 198 [t30],
 zg 6 (.al [zo,zo,zo,zo,zo,zo] true),
 zn (.st t6 t31 6)] [0,4,5,6,23,24] [6,21]
 (.seq (zr [zl 32 6 6,
 zc 33 199 [t32],
 zj 34 33] [0,4,5,6,23,24,34] [6,21]
 (.cond t34
 (zr [zg 2 (.mov (.c (.p .nilp))),
 zg 3 (.mov zF)] [2,3] [21]
 .ret)
 .skip))
 (.seq (.reg true [zm 36 4,
 zg 37 (.nck t36),
 zp 38 37 1,
 zg 39 (.ldl 21 t38 1 false),
 zm 40 5,
 zg 41 (.bin .add t40 (zi 1)),
 zm 42 4,
 zg 43 (.nck t42),
 zp 44 43 1,
 zg 45 (.ldl 21 t44 1 false),
 zm 46 5,
 zg 47 (.ixs t45 t46 6),
 zl 48 47 6,
 zg 49 (.ldl 6 t6 6 true),
 zc 50 200 [t48,t49],
 zm 35 50,
 zx 51 35 0,
 zx 52 35 1,
 zg 53 (.ixs t39 t41 6),
 zn (.st t53 t51 6)] [0,4,5,23,24] [21])
 (.seq (.reg true [zm 54 4,
 zg 55 (.nck t54),
 zp 56 55 2,
 zg 57 (.ldl 21 t56 1 false),
 zm 58 5,
 zg 59 (.bin .add t58 (zi 1)),
 zm 60 4,
 zg 61 (.nck t60),
 zp 62 61 2,
 zg 63 (.ldl 21 t62 1 false),
 zm 64 5,
 zg 65 (.ixs t63 t64 1),
 zk 66 65 1,
 zg 67 (.ixs t57 t59 1),
 zn (.st t67 t66 1)] [0,4,5,23,24] [21])
 (zr [zm 68 0,
 zm 69 5,
 zg 70 (.ixs t68 t69 7),
 zp 71 70 0,
 zk 72 71 1,
 zg 73 (.bin .eql t72 (zi 1))] [0,4,5,23,24,73] [21]
 (.cond t73
 (.reg true [zm 74 4,
 zg 75 (.nck t74),
 zp 76 75 2,
 zg 77 (.ldl 21 t76 1 false),
 zm 78 5,
 zg 79 (.bin .add t78 (zi 1)),
 zg 80 (.ixs t77 t79 1),
 zk 81 80 1,
 zm 82 0,
 zm 83 5,
 zg 84 (.ixs t82 t83 7),
 zp 85 84 1,
 zk 86 85 1,
 zg 87 (.bin .add t81 t86),
 zg 88 (.ixs t77 t79 1),
 zn (.st t88 t87 1)] [0,4,23,24] [21])
 .skip))))))))
 (.reg false [zg 89 (.bin .add t24 (zi 1)),
 zm 24 89] [0,4,23,24] [21])))))
def ir74:IFn:=
⟨(zr [zg 2 (.mov (.c (.p .nilp))),
 zg 3 (.mov zF)] [0] []
 (.seq (zr [zm 7 0,
 zh 8 7,
 zg 9 (.bin .gtr t8 (zi 4096))] [0,9] []
 (.cond t9
 (zr [zg 2 (.mov (.c (.p .nilp))),
 zg 3 (.mov zF)] [2,3] [21]
 .ret)
 .skip))
 (.seq (.rsv [6,1] (.prep [21] (.reg true [zm 10 0,
 zg 11 (.callz 189 [t10]),
 zm 12 0,
 zh 13 12,
 zg 14 (.bin .add t13 (zi 1)),
 zg 15 (.mkh 2 6 [zo,zo,zo,zo,zo,zo] t14),
 zm 16 0,
 zh 17 16,
 zg 18 (.bin .add t17 (zi 1)),
 zg 19 (.mkh 1 1 [zo] t18),
 zg 20 (.bld [.nils,.nils,.nils] [(0,1,t11),(1,1,t15),(2,1,t19)]),
 zg 21 (.bxp t20 3),
 zm 4 21] [0,4] [21])))
 (.seq (zr [zm 22 0,
 zh 23 22,
 zg 24 (.mov (zi 0))] [0,4,23,24] [21]
 (.block 0 q0ae))
 (.seq (.esc [21] (.reg false [zm 90 4,
 zm 2 90,
 zg 3 (.mov zT)] [2,3] [21]))
 .ret))))),
 [.tmp 2,.tmp 3],false⟩
def ir75:IFn:=
⟨(zr [zg 2 (.mov (.c (.p .nilp)))] [0] []
 (zr [zm 3 0,
 zg 4 (.callz 189 [t3]),
 zg 5 (.bld [.nils] [(0,1,t4)]),
 zg 6 (.bx t5 1 false),
 zm 2 6] [2] []
 .ret)),
 [.tmp 2],false⟩
def q0af:IC:=
 (.loop [1,5,22,23,24] [21] (zr [zg 25 (.bin .lss t24 t23)] [1,5,22,23,24,25] [21]
 (.seq (.cond t25
 .skip
 (.exit 0))
 (.seq (.block 1 (zr [zm 26 24,
 zg 27 (.ixs t22 t24 7),
 zl 28 27 7,
 zg 7 (.al [zo,zo,zo,zo,zo,zo,zo] true),
 zm 6 26,
 zn (.st t7 t28 7)] [1,5,6,7,22,23,24] [7,21]
 (.seq (.prep [9,10] (.reg true [zm 29 5,
 zg 30 (.nck t29),
 zp 31 30 1,
 zg 32 (.ldl 21 t31 1 false),
 zm 33 6,
 zg 34 (.ixs t32 t33 1),
 zg 35 (.ldh t34 1 false),
 zm 36 5,
 zg 37 (.nck t36),
 zp 38 37 2,
 zg 39 (.ldl 21 t38 1 false),
 zm 40 6,
 zg 41 (.ixs t39 t40 3),
 zg 42 (.ldh t41 3 true),
 zm 43 5,
 zg 44 (.nck t43),
 zp 45 44 3,
 zg 46 (.ldl 21 t45 1 false),
 zm 47 6,
 zg 48 (.ixs t46 t47 3),
 zg 49 (.ldh t48 3 true),
 zg 9 (.alp [zo,zo,zo]),
 zg 10 (.alp [zo,zo,zo]),
 zm 8 35,
 zn (.stl 9 t9 t42 3),
 zn (.stl 10 t10 t49 3)] [1,5,7,8,9,10,22,23,24] [7,9,10,21]))
 (.seq (zr [zp 50 7 0,
 zk 51 50 1] [1,5,7,8,9,10,22,23,24,51] [7,9,10,21]
 (.block 2 (zr [zg 53 (.bin .eql t51 (zi 5)),
 zm 52 53] [1,5,7,8,9,10,22,23,24,51,52] [7,9,10,21]
 (.cond t52
 (.reg false [zm 54 8,
 zg 55 (.bin .add t54 (zi 1)),
 zm 8 55] [1,5,8,9,10,22,23,24] [9,10,21])
 (zr [zg 57 (.bin .eql t51 (zi 6)),
 zm 56 57] [1,5,7,8,9,10,22,23,24,51,56] [7,9,10,21]
 (.cond t56
 (zr [zm 59 1,
 zp 60 7 6,
 zk 61 60 1,
 zc 62 201 [t59,t61],
 zm 58 62,
 zx 63 58 0,
 zx 64 58 1,
 zg 11 (.al [zo,zo,zo] true),
 zn (.st t11 t63 3),
 zm 12 64] [1,5,8,9,10,11,12,22,23,24] [9,10,11,21]
 (zr [zm 65 12,
 zm 66 65,
 zt 67 66 (.off t11 0),
 zt 68 66 (.ld t67 1 false),
 zt 69 66 (.bin .geq t68 (zi 0)),
 zg 70 (.pick t66 t69 zF),
 zm 71 70,
 zt 72 71 (.off t11 0),
 zt 73 71 (.ld t72 1 false),
 zt 74 71 (.bin .lss t73 (zi 3)),
 zg 75 (.pick t71 t74 zF)] [1,5,8,9,10,11,22,23,24,75] [9,10,11,21]
 (.cond t75
 (.reg false [zp 76 11 0,
 zk 77 76 1,
 zg 78 (.ixa t9 t77 1 3),
 zk 79 78 1,
 zg 80 (.bin .add t79 (zi 1)),
 zg 81 (.ixa t9 t77 1 3),
 zn (.st t81 t80 1)] [1,5,8,9,10,22,23,24] [9,10,21])
 .skip)))
 (zr [zg 83 (.bin .eql t51 (zi 7)),
 zm 82 83] [1,5,8,9,10,22,23,24,82] [9,10,21]
 (.cond t82
 (zr [zl 84 10 3,
 zl 85 9 3,
 zg 86 (.eqa true [true,true,true] t84 t85)] [1,5,8,9,10,22,23,24,86] [9,10,21]
 (.cond t86
 (.reg false [zl 87 9 3,
 zn (.st t10 t87 3)] [1,5,8,9,10,22,23,24] [9,10,21])
 .skip))
 .skip))))))))
 (.reg true [zm 88 5,
 zm 89 5,
 zm 90 5,
 zm 91 5,
 zg 92 (.nck t91),
 zp 93 92 1,
 zg 94 (.ldl 21 t93 1 false),
 zm 95 8,
 zg 96 (.bsl 1 1 [zo] [(0,t95)]),
 zg 97 (.apo t94 t96 1 t24 1),
 zm 98 5,
 zg 99 (.nck t98),
 zp 100 99 2,
 zg 101 (.ldl 21 t100 1 false),
 zg 102 (.ldl 9 t9 3 true),
 zg 103 (.bsl 3 1 [zo,zo,zo] [(0,t102)]),
 zg 104 (.apo t101 t103 3 t24 1),
 zm 105 5,
 zg 106 (.nck t105),
 zp 107 106 3,
 zg 108 (.ldl 21 t107 1 false),
 zg 109 (.ldl 10 t10 3 true),
 zg 110 (.bsl 3 1 [zo,zo,zo] [(0,t109)]),
 zg 111 (.apo t108 t110 3 t24 1),
 zg 112 (.nck t88),
 zp 113 112 1,
 zn (.stl 21 t113 t97 1),
 zg 114 (.nck t89),
 zp 115 114 2,
 zn (.stl 21 t115 t104 1),
 zg 116 (.nck t90),
 zp 117 116 3,
 zn (.stl 21 t117 t111 1)] [1,5,22,23,24] [21])))))
 (.reg false [zg 118 (.bin .add t24 (zi 1)),
 zm 24 118] [1,5,22,23,24] [21])))))
def ir76:IFn:=
⟨(zr [zg 4 (.mov (.c (.p .nilp)))] [0,1] []
 (zr [zm 13 0,
 zg 14 (.callz 189 [t13]),
 zg 15 (.bsr 1 1 [zo] [(0,(zi 0))]),
 zg 16 (.bld [zo,zo,zo] []),
 zg 17 (.bsr 3 1 [zo,zo,zo] [(0,t16)]),
 zg 18 (.bld [zo,zo,zo] []),
 zg 19 (.bsr 3 1 [zo,zo,zo] [(0,t18)]),
 zg 20 (.bld [.nils,.nils,.nils,.nils] [(0,1,t14),(1,1,t15),(2,1,t17),(3,1,t19)]),
 zg 21 (.bx t20 4 true),
 zm 5 21] [0,1,5] [21]
 (.seq (zr [zm 22 0,
 zh 23 22,
 zg 24 (.mov (zi 0))] [1,5,22,23,24] [21]
 (.block 0 q0af))
 (.seq (.esc [21] (.reg false [zm 119 5,
 zm 4 119] [4] [21]))
 .ret)))),
 [.tmp 4],false⟩
def ir77:IFn:=
⟨(zr [zg 4 (.al [zo,zo,zo] true)] [0,1,4] [4]
 (zr [zm 7 0,
 zm 8 1,
 zc 9 202 [t7,t8],
 zm 6 9,
 zx 10 6 0,
 zx 11 6 1,
 zm 1 10,
 zm 5 11] [0,1,4,5] [4]
 (.seq (zr [zm 12 5,
 zj 13 12] [0,1,4,13] [4]
 (.cond t13
 (zr [zg 14 (.bld [zo,zo,zo] []),
 zn (.st t4 t14 3)] [4] [4]
 .ret)
 .skip))
 (zr [zm 15 0,
 zg 16 (.nck t15),
 zp 17 16 2,
 zk 18 17 1,
 zm 19 1,
 zg 20 (.ixs t18 t19 3),
 zl 21 20 3,
 zn (.st t4 t21 3)] [4] [4]
 .ret)))),
 [.cell 4 3 true],false⟩
def q0dt:IC:=
 (.loop [3,6,7,8] [] (zr [zg 9 (.bin .lss t8 t7)] [3,6,7,8,9] []
 (.seq (.cond t9
 .skip
 (.exit 0))
 (.seq (.block 1 (zr [zg 10 (.ixs t6 t8 2),
 zl 11 10 2,
 zg 5 (.al [.nils,.nils] true),
 zn (.st t5 t11 2)] [3,5,6,7,8] [5]
 (.reg false [zm 12 3,
 zp 13 5 0,
 zk 14 13 1,
 zh 15 14,
 zg 16 (.bin .add t12 t15),
 zm 3 16] [3,6,7,8] [])))
 (.reg false [zg 17 (.bin .add t8 (zi 1)),
 zm 8 17] [3,6,7,8] [])))))
def ir78:IFn:=
⟨(zr [zg 2 (.mov (zi 0))] [0] []
 (zr [zg 3 (.mov (zi 0))] [0,3] []
 (.seq (zr [zm 6 0,
 zh 7 6,
 zg 8 (.mov (zi 0))] [3,6,7,8] []
 (.block 0 q0dt))
 (zr [zm 18 3,
 zm 2 18] [2] []
 .ret)))),
 [.tmp 2],false⟩
def ir81:IFn:=
⟨(zr [zg 2 (.mov (.c (.p .nilp)))] [0] []
 (zr [zm 3 0,
 zc 4 211 [t3],
 zc 5 212 [t4],
 zm 2 5] [2] []
 .ret)),
 [.tmp 2],false⟩
def ir82:IFn:=
⟨(zr [zg 2 (.mov (zi 0))] [0] []
 (.seq (zr [zm 3 0,
 zg 4 (.eqn .ptr false t3)] [0,4] []
 (.cond t4
 (zr [zg 2 (.mov (zi 0))] [2] []
 .ret)
 .skip))
 (zr [zm 5 0,
 zg 6 (.nck t5),
 zp 7 6 0,
 zk 8 7 1,
 zh 9 8,
 zm 2 9] [2] []
 .ret))),
 [.tmp 2],false⟩
def q0ag:IC:=
 (.loop [0,5,6,7] [] (.seq (zr [zm 14 7,
 zg 15 (.bin .gtr t14 (zi 0)),
 zm 16 15,
 zt 17 16 (.mov t7),
 zt 18 16 (.mov t6),
 zt 19 16 (.bin .leq t17 t18),
 zg 20 (.pick t16 t19 zF)] [0,5,6,7,20] []
 (.cond t20
 .skip
 (.exit 0)))
 (.seq (.block 1 (.reg false [zm 24 5,
 zm 25 7,
 zg 26 (.bsl 1 1 [zo] [(0,t25)]),
 zg 27 (.app t24 t26 1),
 zm 5 27] [0,5,6,7] []))
 (.reg false [zm 21 0,
 zm 22 7,
 zc 23 214 [t21,t22],
 zm 7 23] [0,5,6,7] []))))
def ir84:IFn:=
⟨(zr [zg 4 (.mov (.c (.nils)))] [0,1] []
 (zr [zg 5 (.nrow 1)] [0,1,5] []
 (zr [zm 8 0,
 zm 9 1,
 zc 10 213 [t8,t9],
 zm 6 10] [0,1,5,6] []
 (.seq (zr [zm 11 0,
 zm 12 1,
 zc 13 214 [t11,t12],
 zm 7 13] [0,5,6,7] []
 (.block 0 q0ag))
 (zr [zm 28 5,
 zm 4 28] [4] []
 .ret))))),
 [.tmp 4],false⟩
def ir86:IFn:=
⟨(zr [zg 2 (.bx t0 2 true),
 zg 3 (.bx t1 2 true),
 zg 4 (.al [zo,zo] true)] [2,3,4] [2,3,4]
 (.seq (.reg true [zp 5 2 0,
 zg 6 (.ldl 2 t5 1 false),
 zp 7 3 0,
 zg 8 (.ldl 3 t7 1 false),
 zc 9 215 [t6,t8],
 zp 10 2 1,
 zg 11 (.ldl 2 t10 1 false),
 zp 12 3 1,
 zg 13 (.ldl 3 t12 1 false),
 zc 14 216 [t11,t13],
 zg 15 (.bld [zo,zo] [(0,1,t9),(1,1,t14)]),
 zn (.stl 4 t4 t15 2)] [4] [4])
 .ret)),
 [.cell 4 2 true],false⟩
def ir87:IFn:=
⟨(zr [zg 4 (.mov (zi 0))] [0,1] []
 (.seq (zr [zm 5 0,
 zg 6 (.eqn .ptr false t5)] [0,1,6] []
 (.cond t6
 (zr [zg 4 (.mov (zi 0))] [4] []
 .ret)
 .skip))
 (zr [zm 7 0,
 zm 8 1,
 zg 9 (.mnmx true t8 (zi 0)),
 zm 10 0,
 zc 11 82 [t10],
 zg 12 (.mnmx false t9 t11),
 zm 13 0,
 zg 14 (.mkf (.func 218) [t13] []),
 zc 15 217 [t7,t12,t14],
 zm 4 15] [4] []
 .ret))),
 [.tmp 4],false⟩
def ir89:IFn:=
⟨(zr [zg 4 (.mov zF)] [0,1] []
 (zr [zm 5 0,
 zm 6 1,
 zc 7 221 [t5,t6],
 zg 8 (.bin .geq t7 (zi 0)),
 zm 4 8] [4] []
 .ret)),
 [.tmp 4],false⟩
def ir100:IFn:=
⟨(zr [zg 2 (.al [zo,zo,zo,zo,zo,zo,zo,zo,zo,zo,zo,zo,zo,zo,zo,zo,zo,zo,.p (.bool false),.nils,.nils,.nils] true)] [0,2] [2]
 (.seq (zr [zm 3 0,
 zg 4 (.eqn .ptr false t3)] [0,2,4] [2]
 (.cond t4
 (zr [zg 5 (.bld [zo,zo,zo,zo,zo,zo,zo,zo,zo,zo,zo,zo,zo,zo,zo,zo,zo,zo,.p (.bool false),.nils,.nils,.nils] []),
 zn (.st t2 t5 22)] [2] [2]
 .ret)
 .skip))
 (zr [zm 6 0,
 zg 7 (.nck t6),
 zp 8 7 1,
 zl 9 8 22,
 zn (.st t2 t9 22)] [2] [2]
 .ret))),
 [.cell 2 22 true],false⟩
def ir101:IFn:=
⟨(zr [zg 3 (.bx t1 7 true),
 zg 4 (.mov (zi 0))] [0,3] [3]
 (.seq (.block 0 (zr [zm 6 0,
 zl 7 3 7,
 zc 8 38 [t6,t7],
 zj 9 8,
 zm 5 9] [0,3,5] [3]
 (.cond t5
 (zr [zg 4 (.mov (zi 0))] [4] []
 .ret)
 (.seq (.reg true [zp 11 3 1,
 zg 12 (.ldl 3 t11 1 false),
 zm 13 0,
 zg 14 (.nck t13),
 zp 15 14 1,
 zp 16 15 0,
 zp 17 16 0,
 zk 18 17 1,
 zg 19 (.bin .lss t12 t18),
 zm 10 19] [0,10] [])
 (.cond t10
 (zr [zm 20 0,
 zg 21 (.nck t20),
 zp 22 21 1,
 zp 23 22 0,
 zp 24 23 4,
 zk 25 24 1,
 zm 4 25] [4] []
 .ret)
 .skip)))))
 (zr [zm 26 0,
 zg 27 (.nck t26),
 zp 28 27 1,
 zp 29 28 0,
 zp 30 29 3,
 zk 31 30 1,
 zm 4 31] [4] []
 .ret))),
 [.tmp 4],false⟩
def ir105:IFn:=
⟨(zr [zg 2 (.mov (.c (.p .nilp)))] [0] []
 (zr [zm 3 0,
 zc 4 211 [t3],
 zc 5 235 [t4],
 zm 2 5] [2] []
 .ret)),
 [.tmp 2],false⟩
def q0eq:IC:=
 (.loop [0,2,7,8,13,14,15] [] (zr [zg 16 (.bin .lss t15 t14)] [0,2,7,8,13,14,15,16] []
 (.seq (.cond t16
 .skip
 (.exit 0))
 (.seq (.block 1 (zr [zg 17 (.ixs t13 t15 1),
 zk 18 17 1,
 zm 10 18] [0,2,7,8,10,13,14,15] []
 (zr [zm 20 0,
 zm 21 10,
 zc 22 201 [t20,t21],
 zm 19 22,
 zx 23 19 0,
 zx 24 19 1,
 zg 11 (.al [zo,zo,zo] true),
 zn (.st t11 t23 3),
 zm 12 24] [0,2,7,8,11,12,13,14,15] [11]
 (zr [zm 25 12] [0,2,7,8,11,13,14,15,25] [11]
 (.cond t25
 (.reg false [zm 26 7,
 zm 27 8,
 zm 28 7,
 zp 29 11 1,
 zk 30 29 1,
 zg 31 (.callv t28 [t30] false),
 zg 32 (.bin .add t27 t31),
 zm 33 7,
 zm 34 2,
 zg 35 (.callv t33 [t34] false),
 zg 36 (.bin .add t32 t35),
 zg 37 (.callv t26 [t36] false),
 zm 8 37] [0,2,7,8,13,14,15] [])
 .skip)))))
 (.reg false [zg 38 (.bin .add t15 (zi 1)),
 zm 15 38] [0,2,7,8,13,14,15] [])))))
def ir107:IFn:=
⟨(zr [zg 6 (.mov (zi 0))] [0,1,2] []
 (zr [zg 7 (.mov (.c (.p (.fn 237))))] [0,1,2,7] []
 (zr [zg 8 (.mov (zi 0))] [0,1,2,7,8] []
 (.seq (zr [zm 13 1,
 zh 14 13,
 zg 15 (.mov (zi 0))] [0,2,7,8,13,14,15] []
 (.block 0 q0eq))
 (zr [zm 39 8,
 zm 6 39] [6] []
 .ret))))),
 [.tmp 6],false⟩
def ir116:IFn:=
⟨(zr [zg 3 (.bx t1 7 true),
 zg 4 (.al [zo,zo,zo,.nils,.nils,.nils] true),
 zg 5 (.mov zF)] [0,3,4] [3,4]
 (.seq (zr [zm 7 0,
 zl 8 3 7,
 zc 9 248 [t7,t8],
 zj 10 9,
 zm 11 10,
 zf 12 11 (.mov t0),
 zf 13 11 (.ld t3 7 true),
 zf 14 11 (.call 249 [t12,t13] false),
 zf 15 11 (.un .not t14),
 zg 16 (.pick t11 zT t15)] [0,3,4,16] [3,4]
 (.cond t16
 (zr [zg 17 (.bld [zo,zo,zo,.nils,.nils,.nils] []),
 zn (.st t4 t17 6),
 zg 5 (.mov zF)] [4,5] [4]
 .ret)
 .skip))
 (.seq (.reg true [zm 18 0,
 zc 19 81 [t18],
 zp 20 3 0,
 zg 21 (.ldl 3 t20 1 false),
 zc 22 214 [t19,t21],
 zm 6 22] [0,3,4,6] [3,4])
 (.seq (zr [zm 23 6,
 zg 24 (.bin .lss t23 (zi 0))] [0,3,4,6,24] [3,4]
 (.cond t24
 (zr [zg 25 (.bld [zo,zo,zo,.nils,.nils,.nils] []),
 zn (.st t4 t25 6),
 zg 5 (.mov zF)] [4,5] [4]
 .ret)
 .skip))
 (.seq (.reg true [zp 26 3 0,
 zg 27 (.ldl 3 t26 1 false),
 zm 28 6,
 zm 29 0,
 zc 30 100 [t29],
 zg 31 (.fldv t30 20 1 false),
 zm 32 0,
 zg 33 (.ldl 3 t3 7 true),
 zm 34 6,
 zc 35 121 [t32,t33,t34],
 zc 36 250 [t31,t35],
 zg 37 (.bld [zo,zo,zo,.nils,.nils,.nils] [(0,1,(zi 1)),(1,1,t27),(2,1,t28),(3,1,t36)]),
 zn (.stl 4 t4 t37 6),
 zg 5 (.mov zT)] [4,5] [4])
 .ret))))),
 [.cell 4 6 true,.tmp 5],false⟩
def ir117:IFn:=
⟨(zr [zg 3 (.bx t1 7 true),
 zg 4 (.al [zo,zo,zo,.nils,.nils,.nils] true),
 zg 5 (.mov zF)] [0,3,4] [3,4]
 (.seq (zr [zm 6 0,
 zl 7 3 7,
 zc 8 248 [t6,t7],
 zj 9 8] [0,3,4,9] [3,4]
 (.cond t9
 (zr [zg 10 (.bld [zo,zo,zo,.nils,.nils,.nils] []),
 zn (.st t4 t10 6),
 zg 5 (.mov zF)] [4,5] [4]
 .ret)
 .skip))
 (.seq (.reg true [zm 11 0,
 zg 12 (.ldl 3 t3 7 true),
 zm 13 0,
 zc 14 252 [t13],
 zp 15 3 0,
 zg 16 (.ldl 3 t15 1 false),
 zc 17 253 [t14,t16],
 zc 18 251 [t11,t12,t17],
 zx 19 18 0,
 zx 20 18 1,
 zn (.stl 4 t4 t19 6),
 zm 5 20] [4,5] [4])
 .ret))),
 [.cell 4 6 true,.tmp 5],false⟩
def ir118:IFn:=
⟨(zr [zg 3 (.bx t1 7 true),
 zg 4 (.al [zo,zo,zo,.nils,.nils,.nils] true),
 zg 5 (.mov zF)] [0,3,4] [3,4]
 (zr [zm 8 0,
 zc 9 100 [t8],
 zg 10 (.fldv t9 20 1 false),
 zm 6 10] [0,3,4,6] [3,4]
 (.seq (.seq (.reg true [zm 11 0,
 zg 12 (.ldl 3 t3 7 true),
 zc 13 248 [t11,t12],
 zj 14 13,
 zm 15 14,
 zf 16 15 (.off t3 0),
 zf 17 15 (.ldl 3 t16 1 false),
 zf 18 15 (.mov t0),
 zf 19 15 (.call 81 [t18] false),
 zf 20 15 (.call 82 [t19] false),
 zf 21 15 (.bin .lss t17 t20),
 zg 22 (.pick t15 zT t21),
 zm 23 22,
 zf 24 23 (.off t3 2),
 zf 25 23 (.ldl 3 t24 1 false),
 zf 26 23 (.mov t6),
 zf 27 23 (.len t26),
 zf 28 23 (.bin .eql t25 t27),
 zg 29 (.pick t23 zT t28)] [0,3,4,6,29] [3,4])
 (.cond t29
 (zr [zg 30 (.bld [zo,zo,zo,.nils,.nils,.nils] []),
 zn (.st t4 t30 6),
 zg 5 (.mov zF)] [4,5] [4]
 .ret)
 .skip))
 (zr [zm 31 0,
 zl 32 3 7,
 zp 33 3 0,
 zk 34 33 1,
 zc 35 121 [t31,t32,t34],
 zg 7 (.al [zo,zo,zo,.p (.bool false)] true),
 zn (.st t7 t35 4)] [3,4,6,7] [3,4,7]
 (zr [zp 36 7 3,
 zn (.st t36 zT 1)] [3,4,6,7] [3,4,7]
 (.seq (.reg true [zp 37 3 0,
 zg 38 (.ldl 3 t37 1 false),
 zp 39 3 0,
 zg 40 (.ldl 3 t39 1 false),
 zm 41 6,
 zg 42 (.ldl 7 t7 4 true),
 zc 43 250 [t41,t42],
 zg 44 (.bld [zo,zo,zo,.nils,.nils,.nils] [(0,1,(zi 3)),(1,1,t38),(2,1,t40),(3,1,t43)]),
 zn (.stl 4 t4 t44 6),
 zg 5 (.mov zT)] [4,5] [4])
 .ret)))))),
 [.cell 4 6 true,.tmp 5],false⟩
def ir119:IFn:=
⟨(zr [zg 3 (.bx t1 7 true),
 zg 4 (.al [zo,zo,zo,.nils,.nils,.nils] true),
 zg 5 (.mov zF)] [0,3,4] [3,4]
 (.seq (zr [zm 6 0,
 zl 7 3 7,
 zc 8 248 [t6,t7],
 zj 9 8] [0,3,4,9] [3,4]
 (.cond t9
 (zr [zg 10 (.bld [zo,zo,zo,.nils,.nils,.nils] []),
 zn (.st t4 t10 6),
 zg 5 (.mov zF)] [4,5] [4]
 .ret)
 .skip))
 (.seq (.reg true [zm 11 0,
 zg 12 (.ldl 3 t3 7 true),
 zm 13 0,
 zc 14 252 [t13],
 zp 15 3 0,
 zg 16 (.ldl 3 t15 1 false),
 zc 17 77 [t14,t16],
 zc 18 251 [t11,t12,t17],
 zx 19 18 0,
 zx 20 18 1,
 zn (.stl 4 t4 t19 6),
 zm 5 20] [4,5] [4])
 .ret))),
 [.cell 4 6 true,.tmp 5],false⟩
def ir120:IFn:=
⟨(zr [zg 4 (.bx t1 4 true),
 zg 6 (.mov (zi 0)),
 zg 7 (.mov (zi 0))] [0,2,4] [4]
 (.seq (zr [zm 9 2,
 zh 10 9,
 zg 11 (.bin .eql t10 (zi 0))] [0,2,4,11] [4]
 (.cond t11
 (.seq (.reg true [zp 12 4 0,
 zg 13 (.ldl 4 t12 1 false),
 zp 14 4 1,
 zg 15 (.ldl 4 t14 1 false),
 zm 6 13,
 zm 7 15] [6,7] [])
 .ret)
 .skip))
 (zr [zm 16 2,
 zm 17 2,
 zh 18 17,
 zg 19 (.bin .sub t18 (zi 1)),
 zg 20 (.ixs t16 t19 3),
 zl 21 20 3,
 zg 8 (.al [zo,zo,zo] true),
 zn (.st t8 t21 3)] [0,8] [8]
 (.seq (.seq (.reg true [zp 22 8 0,
 zg 23 (.ldl 8 t22 1 false),
 zg 24 (.bin .geq t23 (zi 0)),
 zm 25 24,
 zt 26 25 (.off t8 0),
 zt 27 25 (.ldl 8 t26 1 false),
 zt 28 25 (.mov t0),
 zt 29 25 (.len t28),
 zt 30 25 (.bin .lss t27 t29),
 zg 31 (.pick t25 t30 zF),
 zm 32 31,
 zt 33 32 (.off t8 2),
 zt 34 32 (.ldl 8 t33 1 false),
 zt 35 32 (.mov t0),
 zt 36 32 (.off t8 0),
 zt 37 32 (.ldl 8 t36 1 false),
 zt 38 32 (.ixs t35 t37 2),
 zt 39 32 (.off t38 0),
 zt 40 32 (.ld t39 1 false),
 zt 41 32 (.len t40),
 zt 42 32 (.bin .eql t34 t41),
 zg 43 (.pick t32 t42 zF)] [8,43] [8])
 (.cond t43
 (zr [zp 44 8 0,
 zk 45 44 1,
 zg 46 (.bin .add t45 (zi 1)),
 zm 6 46,
 zg 7 (.mov (zi 0))] [6,7] []
 .ret)
 .skip))
 (.seq (.reg true [zp 47 8 0,
 zg 48 (.ldl 8 t47 1 false),
 zp 49 8 2,
 zg 50 (.ldl 8 t49 1 false),
 zm 6 48,
 zm 7 50] [6,7] [])
 .ret))))),
 [.tmp 6,.tmp 7],false⟩
def ir121:IFn:=
⟨(zr [zg 4 (.bx t1 7 true),
 zg 6 (.al [zo,zo,zo,.p (.bool false)] true)] [0,2,4,6] [4,6]
 (.seq (zr [zm 8 0,
 zl 9 4 7,
 zc 10 38 [t8,t9],
 zj 11 10] [0,2,4,6,11] [4,6]
 (.cond t11
 (zr [zg 12 (.bld [zo,zo,zo,.p (.bool false)] []),
 zn (.st t6 t12 4)] [6] [6]
 .ret)
 .skip))
 (zr [zm 13 0,
 zg 14 (.nck t13),
 zp 15 14 0,
 zk 16 15 1,
 zg 17 (.nck t16),
 zp 18 17 2,
 zk 19 18 1,
 zm 20 2,
 zc 21 254 [t19,t20],
 zm 7 21] [0,4,6,7] [4,6]
 (.seq (.reg true [zp 22 4 2,
 zg 23 (.ldl 4 t22 1 false),
 zp 24 4 3,
 zg 25 (.ldl 4 t24 1 false),
 zm 26 7,
 zm 27 7,
 zm 28 0,
 zg 29 (.nck t28),
 zp 30 29 0,
 zk 31 30 1,
 zg 32 (.nck t31),
 zp 33 32 2,
 zk 34 33 1,
 zp 35 4 0,
 zg 36 (.ldl 4 t35 1 false),
 zc 37 254 [t34,t36],
 zg 38 (.bin .gtr t27 t37),
 zg 39 (.bld [zo,zo,zo,.p (.bool false)] [(0,1,t23),(1,1,t25),(2,1,t26),(3,1,t38)]),
 zn (.stl 6 t6 t39 4)] [6] [6])
 .ret)))),
 [.cell 6 4 true],false⟩
def ir122:IFn:=
⟨(zr [zg 2 (.bx t0 3 true),
 zg 3 (.bx t1 3 true),
 zg 4 (.al [zo,zo,zo] true)] [2,3,4] [2,3,4]
 (zr [zl 5 2 3,
 zl 6 3 3,
 zc 7 255 [t5,t6,(zi (-1073741824)),(.c (.p (.fn 256)))],
 zn (.st t4 t7 3)] [4] [4]
 .ret)),
 [.cell 4 3 true],false⟩
def q0er:IC:=
 (.loop [0,4,5,10,11,12] [4,5] (zr [zg 13 (.bin .lss t12 t11)] [0,4,5,10,11,12,13] [4,5]
 (.seq (.cond t13
 .skip
 (.exit 0))
 (.seq (.block 1 (zr [zg 14 (.ixs t10 t12 1),
 zk 15 14 1,
 zm 7 15] [0,4,5,7,10,11,12] [4,5]
 (zr [zm 17 0,
 zm 18 7,
 zc 19 201 [t17,t18],
 zm 16 19,
 zx 20 16 0,
 zx 21 16 1,
 zg 8 (.al [zo,zo,zo] true),
 zn (.st t8 t20 3),
 zm 9 21] [0,4,5,8,9,10,11,12] [4,5,8]
 (zr [zm 22 9,
 zm 23 22,
 zt 24 23 (.off t8 0),
 zt 25 23 (.ld t24 1 false),
 zt 26 23 (.bin .geq t25 (zi 0)),
 zg 27 (.pick t23 t26 zF),
 zm 28 27,
 zt 29 28 (.off t8 0),
 zt 30 28 (.ld t29 1 false),
 zt 31 28 (.bin .lss t30 (zi 3)),
 zg 32 (.pick t28 t31 zF)] [0,4,5,8,10,11,12,32] [4,5,8]
 (.cond t32
 (.reg false [zp 33 8 0,
 zk 34 33 1,
 zg 35 (.ixa t5 t34 1 3),
 zk 36 35 1,
 zg 37 (.bin .add t36 (zi 1)),
 zg 38 (.ixa t5 t34 1 3),
 zn (.st t38 t37 1)] [0,4,5,10,11,12] [4,5])
 .skip)))))
 (.reg false [zg 39 (.bin .add t12 (zi 1)),
 zm 12 39] [0,4,5,10,11,12] [4,5])))))
def ir123:IFn:=
⟨(zr [zg 4 (.al [zo,zo,zo] true)] [0,1,4] [4]
 (zr [zg 5 (.al [zo,zo,zo] true)] [0,1,4,5] [4,5]
 (.seq (zr [zm 10 1,
 zh 11 10,
 zg 12 (.mov (zi 0))] [0,4,5,10,11,12] [4,5]
 (.block 0 q0er))
 (zr [zl 40 5 3,
 zn (.st t4 t40 3)] [4] [4]
 .ret)))),
 [.cell 4 3 true],false⟩
def ir124:IFn:=
⟨(zr [zg 0 (.mov (.c (.p .nilm)))] [] []
 (zr [zg 1 (.mov (.c (.p (.fn 257))))] [1] []
 (zr [zg 2 (.mp .mkm []),
 zg 3 (.bld [zo,.p .nilf] [(0,1,(zi 19)),(1,1,(.c (.p (.fn 258))))]),
 zg 4 (.bld [zo,.p .nilf] [(0,1,(zi 18)),(1,1,(.c (.p (.fn 259))))]),
 zg 5 (.bld [zo,.p .nilf] [(0,1,(zi 14)),(1,1,(.c (.p (.fn 260))))]),
 zg 6 (.bld [zo,.p .nilf] [(0,1,(zi 15)),(1,1,(.c (.p (.fn 261))))]),
 zg 7 (.bld [zo,.p .nilf] [(0,1,(zi 16)),(1,1,(.c (.p (.fn 263))))]),
 zg 8 (.bsl 2 5 [zo,.p .nilf] [(0,t3),(1,t4),(2,t5),(3,t6),(4,t7)]),
 zn (.mp (.st none 1) [t2,(zi 1),t8]),
 zg 9 (.bld [zo,.p .nilf] [(0,1,(zi 19)),(1,1,(.c (.p (.fn 266))))]),
 zm 10 1,
 zg 11 (.bld [zo,.p .nilf] [(0,1,(zi 15)),(1,1,t10)]),
 zg 12 (.bld [zo,.p .nilf] [(0,1,(zi 16)),(1,1,(.c (.p (.fn 267))))]),
 zg 13 (.bsl 2 3 [zo,.p .nilf] [(0,t9),(1,t11),(2,t12)]),
 zn (.mp (.st none 1) [t2,(zi 2),t13]),
 zg 14 (.bld [zo,.p .nilf] [(0,1,(zi 19)),(1,1,(.c (.p (.fn 268))))]),
 zg 15 (.bld [zo,.p .nilf] [(0,1,(zi 15)),(1,1,(.c (.p (.fn 269))))]),
 zg 16 (.bld [zo,.p .nilf] [(0,1,(zi 16)),(1,1,(.c (.p (.fn 271))))]),
 zg 17 (.bsl 2 3 [zo,.p .nilf] [(0,t14),(1,t15),(2,t16)]),
 zn (.mp (.st none 1) [t2,(zi 3),t17]),
 zm 18 2,
 zm 0 18] [0] []
 .ret))),
 [.tmp 0],false⟩
def ir125:IFn:=
⟨(zr [zg 1 (.bx t0 36 true),
 zg 2 (.mov zF)] [1] [1]
 (zr [zp 3 1 0,
 zk 4 3 1,
 zp 5 1 1,
 zl 6 5 7,
 zp 7 1 8,
 zl 8 7 6,
 zc 9 39 [t4,t6,t8],
 zg 10 (.fldv t9 4 1 false),
 zm 2 10] [2] []
 .ret)),
 [.tmp 2],false⟩
def ir126:IFn:=
⟨(zr [zg 2 (.bx t0 6 true),
 zg 3 (.bx t1 6 true),
 zg 4 (.mov zF)] [2,3] [2,3]
 (zr [zp 5 2 0,
 zk 6 5 1,
 zp 7 3 0,
 zk 8 7 1,
 zg 9 (.bin .eql t6 t8),
 zm 10 9,
 zt 11 10 (.off t2 1),
 zt 12 10 (.ld t11 1 false),
 zt 13 10 (.off t3 1),
 zt 14 10 (.ld t13 1 false),
 zt 15 10 (.bin .eql t12 t14),
 zg 16 (.pick t10 t15 zF),
 zm 17 16,
 zt 18 17 (.off t2 2),
 zt 19 17 (.ld t18 1 false),
 zt 20 17 (.off t3 2),
 zt 21 17 (.ld t20 1 false),
 zt 22 17 (.bin .eql t19 t21),
 zg 23 (.pick t17 t22 zF),
 zm 24 23,
 zt 25 24 (.off t2 3),
 zt 26 24 (.ld t25 1 false),
 zt 27 24 (.off t3 3),
 zt 28 24 (.ld t27 1 false),
 zt 29 24 (.call 272 [t26,t28] false),
 zg 30 (.pick t24 t29 zF),
 zm 31 30,
 zt 32 31 (.off t2 4),
 zt 33 31 (.ld t32 1 false),
 zt 34 31 (.off t3 4),
 zt 35 31 (.ld t34 1 false),
 zt 36 31 (.call 273 [t33,t35] false),
 zg 37 (.pick t31 t36 zF),
 zm 38 37,
 zt 39 38 (.off t2 5),
 zt 40 38 (.ld t39 1 false),
 zt 41 38 (.off t3 5),
 zt 42 38 (.ld t41 1 false),
 zt 43 38 (.call 273 [t40,t42] false),
 zg 44 (.pick t38 t43 zF),
 zm 4 44] [4] []
 .ret)),
 [.tmp 4],false⟩
def ir132:IFn:=
⟨(zr [zg 3 (.bx t1 7 true),
 zg 4 (.mov zF)] [0,3] [3]
 (.seq (.reg true [zm 7 0,
 zg 8 (.nck t7),
 zp 9 8 0,
 zk 10 9 1,
 zg 11 (.nck t10),
 zp 12 11 2,
 zk 13 12 1,
 zp 14 3 0,
 zg 15 (.ldl 3 t14 1 false),
 zc 16 254 [t13,t15],
 zm 5 16] [0,3,5] [3])
 (.seq (zr [zp 17 3 3,
 zk 18 17 1,
 zg 19 (.bin .eql t18 (zi 0))] [0,3,5,19] [3]
 (.cond t19
 (zr [zp 20 3 2,
 zk 21 20 1,
 zm 22 5,
 zg 23 (.bin .eql t21 t22),
 zm 4 23] [4] []
 .ret)
 .skip))
 (.seq (zr [zp 24 3 2,
 zk 25 24 1,
 zm 26 5,
 zg 27 (.bin .sub t26 (zi 1)),
 zg 28 (.bin .neq t25 t27),
 zm 29 28,
 zf 30 29 (.off t3 2),
 zf 31 29 (.ld t30 1 false),
 zf 32 29 (.bin .lss t31 (zi 0)),
 zg 33 (.pick t29 zT t32),
 zm 34 33,
 zf 35 34 (.off t3 3),
 zf 36 34 (.ld t35 1 false),
 zf 37 34 (.bin .lss t36 (zi 1)),
 zg 38 (.pick t34 zT t37)] [0,3,38] [3]
 (.cond t38
 (zr [zg 4 (.mov zF)] [4] []
 .ret)
 .skip))
 (.seq (.prep [6] (.reg true [zm 39 0,
 zg 40 (.nck t39),
 zp 41 40 1,
 zp 42 41 20,
 zk 43 42 1,
 zp 44 3 2,
 zg 45 (.ldl 3 t44 1 false),
 zg 46 (.ixs t43 t45 2),
 zl 47 46 2,
 zg 6 (.alp [.nils,.nils]),
 zn (.stl 6 t6 t47 2)] [3,6] [3,6]))
 (zr [zp 48 3 3,
 zk 49 48 1,
 zp 50 6 0,
 zk 51 50 1,
 zh 52 51,
 zg 53 (.bin .lss t49 t52),
 zm 54 53,
 zt 55 54 (.ld t6 2 true),
 zt 56 54 (.off t3 3),
 zt 57 54 (.ld t56 1 false),
 zt 58 54 (.call 284 [t55,t57] false),
 zg 59 (.pick t54 t58 zF),
 zm 4 59] [4] []
 .ret)))))),
 [.tmp 4],false⟩
def q080:IC:=
 (.loop [3,7,8] [3] (zr [zg 9 (.bin .lss t8 (zi 3))] [3,7,8,9] [3]
 (.seq (.cond t9
 .skip
 (.exit 0))
 (.seq (.block 1 (zr [zm 10 8,
 zg 11 (.ixv t7 t8 1 3 false),
 zm 5 10,
 zm 6 11] [3,5,6,7,8] [3]
 (zr [zm 12 6,
 zm 13 5,
 zg 14 (.ixa t3 t13 1 3),
 zk 15 14 1,
 zg 16 (.bin .gtr t12 t15)] [3,7,8,16] [3]
 (.cond t16
 (zr [zg 4 (.mov zF)] [4] []
 .ret)
 .skip))))
 (.reg false [zg 17 (.bin .add t8 (zi 1)),
 zm 8 17] [3,7,8] [3])))))
def ir133:IFn:=
⟨(zr [zg 2 (.bx t0 3 true),
 zg 3 (.bx t1 3 true),
 zg 4 (.mov zF)] [2,3] [2,3]
 (.seq (zr [zl 7 2 3,
 zg 8 (.mov (zi 0))] [3,7,8] [3]
 (.block 0 q080))
 (zr [zg 4 (.mov zT)] [4] []
 .ret))),
 [.tmp 4],false⟩
def q0es:IC:=
 (.loop [0,7,16,17,18] [] (zr [zg 19 (.bin .lss t18 t17)] [0,7,16,17,18,19] []
 (.seq (.cond t19
 .skip
 (.exit 0))
 (.seq (.block 1 (zr [zg 20 (.ixs t16 t18 3),
 zl 21 20 3,
 zg 9 (.al [zo,zo,zo] true),
 zn (.st t9 t21 3)] [0,7,9,16,17,18] [9]
 (zr [zp 22 9 0,
 zk 23 22 1,
 zg 24 (.bin .geq t23 (zi 0)),
 zm 25 24,
 zt 26 25 (.off t9 0),
 zt 27 25 (.ld t26 1 false),
 zt 28 25 (.mov t0),
 zt 29 25 (.len t28),
 zt 30 25 (.bin .lss t27 t29),
 zg 31 (.pick t25 t30 zF)] [0,7,9,16,17,18,31] [9]
 (.cond t31
 (.reg true [zm 32 7,
 zm 33 0,
 zp 34 9 0,
 zg 35 (.ldl 9 t34 1 false),
 zg 36 (.ixs t33 t35 2),
 zl 37 36 2,
 zp 38 9 1,
 zg 39 (.ldl 9 t38 1 false),
 zp 40 9 2,
 zg 41 (.ldl 9 t40 1 false),
 zc 42 285 [t37,t39,t41],
 zg 43 (.bin .add t32 t42),
 zg 44 (.mnmx false t43 (zi 1125899906842624)),
 zm 7 44] [0,7,16,17,18] [])
 .skip))))
 (.reg false [zg 45 (.bin .add t18 (zi 1)),
 zm 18 45] [0,7,16,17,18] [])))))
def ir134:IFn:=
⟨(zr [zg 6 (.mov (zi 0))] [0,1,2] []
 (.seq (zr [zm 10 1,
 zh 11 10,
 zg 12 (.bin .eql t11 (zi 0))] [0,1,2,12] []
 (.cond t12
 (zr [zg 6 (.mov (zi 0))] [6] []
 .ret)
 .skip))
 (zr [zm 13 2,
 zg 14 (.mnmx true t13 (zi 0)),
 zg 15 (.mnmx false t14 (zi 1125899906842624)),
 zm 7 15] [0,1,7] []
 (.seq (zr [zm 16 1,
 zh 17 16,
 zg 18 (.mov (zi 0))] [0,7,16,17,18] []
 (.block 0 q0es))
 (zr [zm 46 7,
 zm 6 46] [6] []
 .ret))))),
 [.tmp 6],false⟩
def ir135:IFn:=
⟨(zr [zg 3 (.bx t0 19 true),
 zg 5 (.bx t2 2 true),
 zg 6 (.mov (zi 0))] [1,3,5] [3,5]
 (.seq (.reg true [zm 7 1,
 zp 8 5 0,
 zg 9 (.ldl 5 t8 1 false),
 zp 10 3 7,
 zg 11 (.ldl 3 t10 1 false),
 zc 12 107 [t7,t9,t11],
 zm 13 1,
 zp 14 5 1,
 zg 15 (.ldl 5 t14 1 false),
 zp 16 3 7,
 zg 17 (.ldl 3 t16 1 false),
 zc 18 107 [t13,t15,t17],
 zg 19 (.bin .add t12 t18),
 zm 6 19] [6] [])
 .ret)),
 [.tmp 6],false⟩
def ir136:IFn:=
⟨(zr [zg 3 (.bx t0 19 true),
 zg 6 (.mov (zi 0))] [1,2,3] [3]
 (zr [zm 8 1,
 zm 9 2,
 zp 10 3 7,
 zk 11 10 1,
 zc 12 107 [t8,t9,t11],
 zm 7 12] [3,7] [3]
 (.seq (zr [zm 13 7,
 zg 14 (.bin .eql t13 (zi 0))] [3,7,14] [3]
 (.cond t14
 (zr [zg 6 (.mov (zi 0))] [6] []
 .ret)
 .skip))
 (zr [zm 15 7,
 zp 16 3 7,
 zk 17 16 1,
 zg 18 (.mnmx true t17 (zi 0)),
 zg 19 (.mnmx false t18 (zi 1125899906842624)),
 zg 20 (.bin .sub t15 t19),
 zm 6 20] [6] []
 .ret)))),
 [.tmp 6],false⟩
def ir137:IFn:=
⟨(zr [zg 3 (.bx t1 6 true),
 zg 4 (.mov zF)] [0,3] [3]
 (.seq (zr [zp 7 3 0,
 zk 8 7 1,
 zg 9 (.bin .neq t8 (zi 1))] [0,3,9] [3]
 (.cond t9
 (zr [zg 4 (.mov zF)] [4] []
 .ret)
 .skip))
 (.seq (.prep [5] (.reg true [zm 11 0,
 zc 12 81 [t11],
 zp 13 3 2,
 zg 14 (.ldl 3 t13 1 false),
 zc 15 286 [t12,t14],
 zm 10 15,
 zx 16 10 0,
 zx 17 10 1,
 zg 5 (.alp [zo,zo,zo,zo,zo,zo,zo]),
 zn (.stl 5 t5 t16 7),
 zm 6 17] [0,3,5,6] [3,5]))
 (.seq (.reg true [zp 18 3 2,
 zg 19 (.ldl 3 t18 1 false),
 zm 20 0,
 zc 21 81 [t20],
 zc 22 82 [t21],
 zg 23 (.bin .eql t19 t22),
 zm 24 23,
 zf 25 24 (.mov t6),
 zf 26 24 (.mov t25),
 zt 27 26 (.off t3 2),
 zt 28 26 (.ldl 3 t27 1 false),
 zt 29 26 (.bin .gtr t28 (zi 0)),
 zf 30 24 (.pick t26 t29 zF),
 zf 31 24 (.mov t30),
 zt 32 31 (.ldl 5 t5 7 true),
 zt 33 31 (.call 287 [t32] false),
 zf 34 24 (.pick t31 t33 zF),
 zg 35 (.pick t24 zT t34),
 zm 4 35] [4] [])
 .ret)))),
 [.tmp 4],false⟩
def ir138:IFn:=
⟨(zr [zg 3 (.bx t0 6 true),
 zg 6 (.al [zo,zo,zo,zo,zo] true)] [1,2,3,6] [3,6]
 (.seq (zr [zl 9 3 6,
 zm 10 1,
 zc 11 288 [t9,t10],
 zj 12 11] [1,2,3,6,12] [3,6]
 (.cond t12
 (zr [zg 13 (.bld [zo,zo,zo,zo,zo] []),
 zn (.st t6 t13 5)] [6] [6]
 .ret)
 .skip))
 (.seq (.reg true [zm 14 1,
 zp 15 3 0,
 zg 16 (.ldl 3 t15 1 false),
 zg 17 (.bin .sub t14 t16),
 zg 18 (.ldl 3 t3 6 true),
 zc 19 289 [t18],
 zm 7 17,
 zm 8 19] [2,3,6,7,8] [3,6])
 (.seq (.block 0 (zr [zm 21 7,
 zg 22 (.bin .eql t21 (zi 0)),
 zm 20 22] [2,3,6,7,8,20] [3,6]
 (.cond t20
 (zr [zg 23 (.bld [zo,zo,zo,zo,zo] []),
 zn (.st t6 t23 5)] [6] [6]
 .ret)
 (zr [zm 25 7,
 zg 26 (.bin .gtr t25 (zi 0)),
 zm 27 26,
 zt 28 27 (.mov t8),
 zt 29 27 (.off t3 1),
 zt 30 27 (.ixa t29 t28 1 4),
 zt 31 27 (.ld t30 1 false),
 zt 32 27 (.bin .gtr t31 (zi 0)),
 zg 33 (.pick t27 t32 zF),
 zm 34 33,
 zt 35 34 (.mov t2),
 zt 36 34 (.mov t35),
 zt 37 36 (.mov t8),
 zt 38 36 (.bin .eql t37 (zi 0)),
 zt 39 34 (.pick t36 t38 zF),
 zt 40 34 (.un .not t39),
 zg 41 (.pick t34 t40 zF),
 zm 24 41] [3,6,7,8,24] [3,6]
 (.cond t24
 (zr [zm 42 8,
 zm 43 7,
 zm 44 8,
 zp 45 3 1,
 zg 46 (.ixa t45 t44 1 4),
 zk 47 46 1,
 zg 48 (.bld [zo,zo,zo,zo,zo] [(0,1,(zi 1)),(1,1,t42),(2,1,t43),(3,1,t47)]),
 zn (.st t6 t48 5)] [6] [6]
 .ret)
 (zr [zm 50 7,
 zg 51 (.bin .gtr t50 (zi 0)),
 zm 49 51] [3,6,7,49] [3,6]
 (.cond t49
 (zr [zm 52 7,
 zg 53 (.bld [zo,zo,zo,zo,zo] [(4,1,t52)]),
 zn (.st t6 t53 5)] [6] [6]
 .ret)
 (zr [zp 55 3 5,
 zk 56 55 1,
 zm 57 7,
 zg 58 (.bin .add t56 t57),
 zg 59 (.bin .geq t58 (zi 0)),
 zm 54 59] [3,6,7,54] [3,6]
 (.cond t54
 (zr [zm 60 7,
 zg 61 (.un .neg t60),
 zp 62 3 5,
 zk 63 62 1,
 zg 64 (.bld [zo,zo,zo,zo,zo] [(0,1,(zi 2)),(2,1,t61),(3,1,t63)]),
 zn (.st t6 t64 5)] [6] [6]
 .ret)
 .skip)))))))))
 (zr [zp 65 3 5,
 zk 66 65 1,
 zp 67 3 5,
 zk 68 67 1,
 zp 69 3 5,
 zk 70 69 1,
 zm 71 7,
 zg 72 (.bin .add t70 t71),
 zg 73 (.bld [zo,zo,zo,zo,zo] [(0,1,(zi 3)),(2,1,t66),(3,1,t68),(4,1,t72)]),
 zn (.st t6 t73 5)] [6] [6]
 .ret))))),
 [.cell 6 5 true],false⟩
def ir139:IFn:=
⟨(zr [zg 6 (.al [zo,zo,zo,zo,zo,zo] true)] [0,1,2,6] [6]
 (zr [zm 11 0,
 zm 12 1,
 zm 13 2,
 zc 14 236 [t11,t12,t13],
 zm 10 14,
 zx 15 10 0,
 zx 16 10 1,
 zx 17 10 2,
 zm 1 15,
 zm 2 16,
 zm 7 17] [0,1,2,6,7] [6]
 (.seq (zr [zm 18 7,
 zj 19 18] [0,1,2,6,19] [6]
 (.cond t19
 (zr [zg 20 (.bld [zo,zo,zo,zo,zo,zo] []),
 zn (.st t6 t20 6)] [6] [6]
 .ret)
 .skip))
 (.seq (.prep [8] (.reg true [zm 22 0,
 zg 23 (.nck t22),
 zp 24 23 1,
 zk 25 24 1,
 zm 26 2,
 zg 27 (.ixs t25 t26 6),
 zl 28 27 6,
 zm 29 0,
 zg 30 (.nck t29),
 zp 31 30 1,
 zk 32 31 1,
 zm 33 1,
 zg 34 (.ixs t32 t33 6),
 zl 35 34 6,
 zc 36 290 [t28,t35],
 zm 21 36,
 zx 37 21 0,
 zx 38 21 1,
 zg 8 (.alp [zo,zo,zo,zo,zo,zo]),
 zn (.stl 8 t8 t37 6),
 zm 9 38] [6,8] [6,8]))
 (zr [zl 39 8 6,
 zn (.st t6 t39 6)] [6] [6]
 .ret))))),
 [.cell 6 6 true],false⟩
def q0et:IC:=
 (.loop [0,1,5] [] (.seq (zr [zm 11 5,
 zm 12 0,
 zh 13 12,
 zg 14 (.bin .lss t11 t13)] [0,1,5,14] []
 (.cond t14
 .skip
 (.exit 0)))
 (.seq (.block 1 (.seq (.reg true [zm 17 0,
 zm 18 5,
 zg 19 (.ixs t17 t18 3),
 zl 20 19 3,
 zm 21 1,
 zm 22 5,
 zg 23 (.ixs t21 t22 3),
 zl 24 23 3,
 zg 25 (.eqa true [true,true,true] t20 t24)] [0,1,5,25] [])
 (.cond t25
 (zr [zg 4 (.mov zF)] [4] []
 .ret)
 .skip)))
 (.reg false [zm 15 5,
 zg 16 (.bin .add t15 (zi 1)),
 zm 5 16] [0,1,5] []))))
def ir140:IFn:=
⟨(zr [zg 4 (.mov zF)] [0,1] []
 (.seq (zr [zm 6 0,
 zh 7 6,
 zm 8 1,
 zh 9 8,
 zg 10 (.bin .neq t7 t9)] [0,1,10] []
 (.cond t10
 (zr [zg 4 (.mov zF)] [4] []
 .ret)
 .skip))
 (.seq (zr [zg 5 (.mov (zi 0))] [0,1,5] []
 (.block 0 q0et))
 (zr [zg 4 (.mov zT)] [4] []
 .ret)))),
 [.tmp 4],false⟩
def q04v:IC:=
 (.loop [0,1,5] [] (.seq (zr [zm 11 5,
 zm 12 0,
 zh 13 12,
 zg 14 (.bin .lss t11 t13)] [0,1,5,14] []
 (.cond t14
 .skip
 (.exit 0)))
 (.seq (.block 1 (.seq (.reg true [zm 17 0,
 zm 18 5,
 zg 19 (.ixs t17 t18 1),
 zk 20 19 1,
 zm 21 1,
 zm 22 5,
 zg 23 (.ixs t21 t22 1),
 zk 24 23 1,
 zg 25 (.bin .neq t20 t24)] [0,1,5,25] [])
 (.cond t25
 (zr [zg 4 (.mov zF)] [4] []
 .ret)
 .skip)))
 (.reg false [zm 15 5,
 zg 16 (.bin .add t15 (zi 1)),
 zm 5 16] [0,1,5] []))))
def ir141:IFn:=
⟨(zr [zg 4 (.mov zF)] [0,1] []
 (.seq (zr [zm 6 0,
 zh 7 6,
 zm 8 1,
 zh 9 8,
 zg 10 (.bin .neq t7 t9)] [0,1,10] []
 (.cond t10
 (zr [zg 4 (.mov zF)] [4] []
 .ret)
 .skip))
 (.seq (zr [zg 5 (.mov (zi 0))] [0,1,5] []
 (.block 0 q04v))
 (zr [zg 4 (.mov zT)] [4] []
 .ret)))),
 [.tmp 4],false⟩
def q0mf:IC:=
 (.loop [3,6,7] [] (zr [zg 8 (.bin .lss t7 (zi 3))] [3,6,7,8] []
 (.seq (.cond t8
 .skip
 (.exit 0))
 (.seq (.block 1 (zr [zg 9 (.ixv t6 t7 1 3 false),
 zm 5 9] [3,5,6,7] []
 (.reg false [zm 10 3,
 zm 11 5,
 zc 12 291 [t11,(zi (-1073741824)),(zi 1073741824)],
 zg 13 (.bin .add t10 t12),
 zm 3 13] [3,6,7] [])))
 (.reg false [zg 14 (.bin .add t7 (zi 1)),
 zm 7 14] [3,6,7] [])))))
def ir142:IFn:=
⟨(zr [zg 1 (.bx t0 3 true),
 zg 2 (.mov (zi 0))] [1] [1]
 (zr [zg 3 (.mov (zi 0))] [1,3] [1]
 (.seq (zr [zl 6 1 3,
 zg 7 (.mov (zi 0))] [3,6,7] []
 (.block 0 q0mf))
 (zr [zm 15 3,
 zm 2 15] [2] []
 .ret)))),
 [.tmp 2],false⟩
def ir175:IFn:=
⟨(zr [zg 3 (.bx t1 2 true)] [0,3] [3]
 (zr [zm 4 0,
 zg 5 (.eqn .ptr true t4)] [0,3,5] [3]
 (.cond t5
 (.reg true [zm 6 0,
 zm 7 0,
 zg 8 (.nck t7),
 zp 9 8 0,
 zl 10 9 2,
 zg 11 (.ldl 3 t3 2 true),
 zc 12 86 [t10,t11],
 zg 13 (.nck t6),
 zp 14 13 0,
 zn (.st t14 t12 2)] [] [])
 .skip))),
 [],false⟩
def q0eu:IC:=
 (.loop [1,7,8,9] [1] (zr [zg 10 (.bin .lss t9 t8)] [1,7,8,9,10] [1]
 (.seq (.cond t10
 .skip
 (.exit 0))
 (.seq (.block 1 (zr [zg 11 (.ixs t7 t9 2),
 zl 12 11 2,
 zg 5 (.al [zo,.p .nilf] true),
 zn (.st t5 t12 2)] [1,5,7,8,9] [1,5]
 (zr [zp 13 5 1,
 zk 14 13 1,
 zl 15 1 22,
 zg 16 (.callv t14 [t15] false),
 zm 6 16] [1,5,6,7,8,9] [1,5]
 (zr [zm 17 6,
 zg 18 (.bin .geq t17 (zi 0))] [1,5,6,7,8,9,18] [1,5]
 (.cond t18
 (zr [zp 19 5 0,
 zk 20 19 1,
 zm 21 6,
 zm 2 20,
 zm 3 21] [2,3] []
 .ret)
 .skip)))))
 (.reg false [zg 22 (.bin .add t9 (zi 1)),
 zm 9 22] [1,7,8,9] [1])))))
def ir188:IFn:=
⟨(zr [zg 1 (.bx t0 22 true),
 zg 2 (.mov (zi 0)),
 zg 3 (.mov (zi 0))] [1] [1]
 (.seq (zr [zc 7 329 [],
 zh 8 7,
 zg 9 (.mov (zi 0))] [1,7,8,9] [1]
 (.block 0 q0eu))
 (zr [zg 2 (.mov (zi 0)),
 zg 3 (.mov (zi 0))] [2,3] []
 .ret))),
 [.tmp 2,.tmp 3],false⟩
def ir189:IFn:=
⟨(zr [zg 2 (.mov (.c (.nils)))] [0] []
 (.seq (zr [zm 3 0,
 zg 4 (.eqn .sl false t3)] [0,4] []
 (.cond t4
 (zr [zg 2 (.mov (.c (.nils)))] [2] []
 .ret)
 .skip))
 (zr [zg 5 (.bsl 7 0 [zo,zo,zo,zo,zo,zo,zo] []),
 zm 6 0,
 zg 7 (.app t5 t6 7),
 zm 2 7] [2] []
 .ret))),
 [.tmp 2],true⟩
def ir190:IFn:=
⟨(zr [zg 2 (.mov (.c (.nils)))] [0] []
 (.seq (zr [zm 3 0,
 zg 4 (.eqn .sl false t3)] [0,4] []
 (.cond t4
 (zr [zg 2 (.mov (.c (.nils)))] [2] []
 .ret)
 .skip))
 (zr [zg 5 (.bsl 3 0 [zo,zo,zo] []),
 zm 6 0,
 zg 7 (.app t5 t6 3),
 zm 2 7] [2] []
 .ret))),
 [.tmp 2],true⟩
def ir191:IFn:=
⟨(zr [zg 2 (.mov (.c (.nils)))] [0] []
 (.seq (zr [zm 3 0,
 zg 4 (.eqn .sl false t3)] [0,4] []
 (.cond t4
 (zr [zg 2 (.mov (.c (.nils)))] [2] []
 .ret)
 .skip))
 (zr [zg 5 (.bsl 1 0 [zo] []),
 zm 6 0,
 zg 7 (.app t5 t6 1),
 zm 2 7] [2] []
 .ret))),
 [.tmp 2],true⟩
def ir192:IFn:=
⟨(zr [zg 2 (.mov (.c (.nils)))] [0] []
 (.seq (zr [zm 3 0,
 zg 4 (.eqn .sl false t3)] [0,4] []
 (.cond t4
 (zr [zg 2 (.mov (.c (.nils)))] [2] []
 .ret)
 .skip))
 (zr [zg 5 (.bsl 1 0 [zo] []),
 zm 6 0,
 zg 7 (.app t5 t6 1),
 zm 2 7] [2] []
 .ret))),
 [.tmp 2],true⟩
def q081:IC:=
 (.loop [2,5,11,12] [2] (zr [zg 13 (.bin .lss t12 t11)] [2,5,11,12,13] [2]
 (.seq (.cond t13
 .skip
 (.exit 0))
 (.seq (.block 1 (zr [zm 14 12,
 zm 6 14] [2,5,6,11,12] [2]
 (zr [zm 15 5,
 zm 16 6,
 zg 17 (.ixs t15 t16 7),
 zm 7 17] [2,5,7,11,12] [2]
 (zr [zm 18 7,
 zg 19 (.nck t18),
 zp 20 19 0,
 zk 21 20 1] [2,5,7,11,12,21] [2]
 (.block 2 (zr [zg 23 (.bin .eql t21 (zi 1)),
 zm 22 23] [2,5,7,11,12,21,22] [2]
 (.cond t22
 (.reg true [zg 24 (.ldl 2 t2 1 true),
 zm 25 7,
 zg 26 (.nck t25),
 zp 27 26 1,
 zg 28 (.bsl 1 1 [.p .nilp] [(0,t27)]),
 zc 29 195 [t24,(.c (.p (.fn 197))),t28]] [2,5,11,12] [2])
 (zr [zg 31 (.bin .eql t21 (zi 2)),
 zm 30 31] [2,5,7,11,12,30] [2]
 (.cond t30
 (.seq (.reg true [zg 32 (.ldl 2 t2 1 true),
 zm 33 7,
 zg 34 (.nck t33),
 zp 35 34 1,
 zg 36 (.bsl 1 1 [.p .nilp] [(0,t35)]),
 zc 37 195 [t32,(.c (.p (.fn 330))),t36]] [2,5,7,11,12] [2])
 (.reg false [zm 38 7,
 zm 39 7,
 zm 40 7,
 zg 41 (.nck t38),
 zp 42 41 3,
 zn (.st t42 (zi 0) 1),
 zg 43 (.nck t39),
 zp 44 43 4,
 zn (.st t44 (zi 0) 1),
 zg 45 (.nck t40),
 zp 46 45 5,
 zn (.st t46 (zi 0) 1)] [2,5,11,12] [2]))
 .skip)))))))))
 (.reg false [zg 47 (.bin .add t12 (zi 1)),
 zm 12 47] [2,5,11,12] [2])))))
def ir193:IFn:=
⟨(zr [zg 2 (.bx t0 1 true),
 zg 4 (.mov (.c (.nils)))] [1,2] [2]
 (zr [zm 8 1,
 zc 9 189 [t8],
 zm 5 9] [2,5] [2]
 (.seq (zr [zm 10 5,
 zh 11 10,
 zg 12 (.mov (zi 0))] [2,5,11,12] [2]
 (.block 0 q081))
 (zr [zm 48 5,
 zm 4 48] [4] []
 .ret)))),
 [.tmp 4],false⟩
def q082:IC:=
 (.loop [2,5,6,12,13,14,34,35] [2] (zr [zg 36 (.bin .lss t35 t34)] [2,5,6,12,13,14,34,35,36] [2]
 (.seq (.cond t36
 .skip
 (.exit 2))
 (.seq (.block 3 (zr [zm 37 35,
 zm 8 37] [2,5,6,8,12,13,14,34,35] [2]
 (.reg true [zg 38 (.ldl 2 t2 1 true),
 zm 39 5,
 zm 40 6,
 zg 41 (.ixs t39 t40 2),
 zp 42 41 0,
 zk 43 42 1,
 zm 44 8,
 zg 45 (.ixs t43 t44 1),
 zg 46 (.bsl 1 1 [.p .nilp] [(0,t45)]),
 zc 47 195 [t38,(.c (.p (.fn 197))),t46]] [2,5,6,12,13,14,34,35] [2])))
 (.reg false [zg 48 (.bin .add t35 (zi 1)),
 zm 35 48] [2,5,6,12,13,14,34,35] [2])))))
def q0ev:IC:=
 (.loop [2,5,12,13,14] [2] (zr [zg 15 (.bin .lss t14 t13)] [2,5,12,13,14,15] [2]
 (.seq (.cond t15
 .skip
 (.exit 0))
 (.seq (.block 1 (zr [zm 16 14,
 zg 17 (.ixs t12 t14 2),
 zl 18 17 2,
 zg 7 (.al [.nils,.nils] true),
 zm 6 16,
 zn (.st t7 t18 2)] [2,5,6,7,12,13,14] [2,7]
 (.seq (.reg true [zm 19 5,
 zm 20 6,
 zp 21 7 0,
 zg 22 (.ldl 7 t21 1 false),
 zc 23 191 [t22],
 zp 24 7 1,
 zg 25 (.ldl 7 t24 1 false),
 zc 26 192 [t25],
 zg 27 (.bld [.nils,.nils] [(0,1,t23),(1,1,t26)]),
 zg 28 (.ixs t19 t20 2),
 zn (.st t28 t27 2)] [2,5,6,12,13,14] [2])
 (zr [zm 29 5,
 zm 30 6,
 zg 31 (.ixs t29 t30 2),
 zp 32 31 0,
 zk 33 32 1,
 zh 34 33,
 zg 35 (.mov (zi 0))] [2,5,6,12,13,14,34,35] [2]
 (.block 2 q082)))))
 (.reg false [zg 49 (.bin .add t14 (zi 1)),
 zm 14 49] [2,5,12,13,14] [2])))))
def ir194:IFn:=
⟨(zr [zg 2 (.bx t0 1 true),
 zg 4 (.mov (.c (.nils)))] [1,2] [2]
 (zr [zm 9 1,
 zh 10 9,
 zg 11 (.mks 2 [.nils,.nils] t10),
 zm 5 11] [1,2,5] [2]
 (.seq (zr [zm 12 1,
 zh 13 12,
 zg 14 (.mov (zi 0))] [2,5,12,13,14] [2]
 (.block 0 q0ev))
 (zr [zm 50 5,
 zm 4 50] [4] []
 .ret)))),
 [.tmp 4],false⟩
def q083:IC:=
 (.loop [1,3,8,9,10] [3] (zr [zg 11 (.bin .lss t10 t9)] [1,3,8,9,10,11] [3]
 (.seq (.cond t11
 .skip
 (.exit 0))
 (.seq (.block 1 (zr [zg 12 (.ixs t8 t10 1),
 zk 13 12 1,
 zm 7 13] [1,3,7,8,9,10] [3]
 (.reg true [zm 14 7,
 zm 15 1,
 zm 16 7,
 zg 17 (.nck t16),
 zk 18 17 1,
 zp 19 3 0,
 zg 20 (.ldl 3 t19 1 false),
 zg 21 (.callv t15 [t18,t20] false),
 zg 22 (.nck t14),
 zn (.st t22 t21 1)] [1,3,8,9,10] [3])))
 (.reg false [zg 23 (.bin .add t10 (zi 1)),
 zm 10 23] [1,3,8,9,10] [3])))))
def ir195:IFn:=
⟨(zr [zg 3 (.bx t0 1 true)] [1,2,3] [3]
 (zr [zm 8 2,
 zh 9 8,
 zg 10 (.mov (zi 0))] [1,3,8,9,10] [3]
 (.block 0 q083))),
 [],false⟩
def ir196:IFn:=
⟨(zr [zg 4 (.mov (zi 0))] [0,1] []
 (zr [zm 5 0,
 zm 6 1,
 zc 7 331 [t5,t6,(.c (.p (.fn 332)))],
 zm 4 7] [4] []
 .ret)),
 [.tmp 4],false⟩
def ir197:IFn:=
⟨(zr [zg 4 (.mov (zi 0))] [0,1] []
 (zr [zm 5 0,
 zm 6 1,
 zc 7 331 [t5,t6,(.c (.p (.fn 333)))],
 zm 4 7] [4] []
 .ret)),
 [.tmp 4],false⟩
end Go.EnvOf
