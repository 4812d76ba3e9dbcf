/- The engine's instructions for the functions, part 0. -/
import Derived.Test.YtpibjnnbploadaaGreatIrT
import Derived.Test.YtpibjnnbploadaaGreatEngAll2
namespace Go.EnvOf
open Go Go.Eng
set_option maxRecDepth 100000
def ir3:IFn:=
⟨(zr [zg 3 (.bx t0 22 true),
 zg 6 (.mov zF)] [1,2,3] [3]
 (.seq (zr [zl 18 3 22,
 zc 19 15 [t18],
 zm 20 19,
 zf 21 20 (.off t3 19),
 zf 22 20 (.ld t21 1 false),
 zf 23 20 (.len t22),
 zf 24 20 (.bin .gtr t23 (zi 14)),
 zg 25 (.pick t20 zT t24)] [1,2,3,25] [3]
 (.cond t25
 (zr [zc 26 16 [],
 zm 6 26] [6] []
 .ret)
 .skip))
 (zr [zl 28 3 22,
 zg 29 (.callz 17 [t28]),
 zm 27 29,
 zx 30 27 0,
 zx 31 27 1,
 zm 7 30,
 zm 8 31] [1,2,3,7,8] [3]
 (zr [zl 32 3 22,
 zc 33 18 [t32],
 zg 9 (.al [zo,zo,zo,zo,zo,zo,zo,zo,zo,zo,zo,zo,zo,zo,zo,zo,zo,zo,.p (.bool false),.nils,.nils,.nils,.p (.bool false)] true),
 zn (.st t9 t33 23)] [1,2,7,8,9] [9]
 (.seq (zr [zm 34 8,
 zj 35 34] [1,2,7,9,35] [9]
 (.cond t35
 (zr [zc 37 19 [(.c (.p .nilp))],
 zm 38 1,
 zc 39 20 [t37,t38],
 zm 36 39,
 zx 40 36 0,
 zx 41 36 1,
 zg 10 (.al [zo,zo] true),
 zn (.st t10 t40 2),
 zm 11 41] [1,2,9,11] [9]
 (zr [zm 43 1,
 zm 44 2,
 zc 45 21 [(.c (.p .nilp)),t43,t44],
 zm 42 45,
 zx 46 42 0,
 zx 47 42 1,
 zg 12 (.al [zo,zo] true),
 zn (.st t12 t46 2),
 zm 13 47] [9,11,13] [9]
 (zr [zp 48 9 22,
 zk 49 48 1,
 zj 50 49,
 zm 51 50,
 zt 52 51 (.mov t11),
 zt 53 51 (.un .not t52),
 zg 54 (.pick t51 t53 zF),
 zm 55 54,
 zt 56 55 (.mov t13),
 zt 57 55 (.un .not t56),
 zg 58 (.pick t55 t57 zF),
 zm 59 58,
 zt 60 59 (.call 16 [] false),
 zg 61 (.pick t59 t60 zF),
 zm 6 61] [6] []
 .ret)))
 .skip))
 (zr [zm 63 7,
 zm 64 1,
 zm 65 2,
 zc 66 21 [t63,t64,t65],
 zm 62 66,
 zx 67 62 0,
 zx 68 62 1,
 zg 14 (.al [zo,zo] true),
 zn (.st t14 t67 2),
 zm 15 68] [1,2,7,9,14,15] [9,14]
 (zr [zm 70 7,
 zc 71 19 [t70],
 zm 72 1,
 zc 73 20 [t71,t72],
 zm 69 73,
 zx 74 69 0,
 zx 75 69 1,
 zg 16 (.al [zo,zo] true),
 zn (.st t16 t74 2),
 zm 17 75] [1,2,9,14,15,16,17] [9,14,16]
 (.seq (.reg true [zp 76 9 0,
 zg 77 (.ldl 9 t76 22 true),
 zm 78 1,
 zm 79 2,
 zc 80 22 [t77,t78,t79],
 zg 81 (.ldl 14 t14 2 true),
 zm 82 15,
 zg 83 (.bld [zo,zo,.p (.bool false)] [(0,2,t81),(2,1,t82)]),
 zg 84 (.eqa false [true,true,false] t80 t83),
 zm 85 84,
 zt 86 85 (.off t9 0),
 zt 87 85 (.ldl 9 t86 22 true),
 zt 88 85 (.mov t1),
 zt 89 85 (.call 23 [t87,t88] false),
 zt 90 85 (.ldl 16 t16 2 true),
 zt 91 85 (.mov t17),
 zt 92 85 (.bld [zo,zo,.p (.bool false)] [(0,2,t90),(2,1,t91)]),
 zt 93 85 (.eqa false [true,true,false] t89 t92),
 zg 94 (.pick t85 t93 zF),
 zm 95 94,
 zt 96 95 (.call 16 [] false),
 zg 97 (.pick t95 t96 zF),
 zm 6 97] [6] [])
 .ret)))))))),
 [.tmp 6],false⟩
def q0g5:IC:=
 (.loop [1,3] [1] (.seq (zr [zm 4 3,
 zp 5 1 20,
 zk 6 5 1,
 zh 7 6,
 zg 8 (.bin .lss t4 t7),
 zm 9 8,
 zt 10 9 (.mov t3),
 zt 11 9 (.bin .lss t10 (zi 100)),
 zg 12 (.pick t9 t11 zF)] [1,3,12] [1]
 (.cond t12
 .skip
 (.exit 0)))
 (.seq (.block 1 (zr [zp 15 1 20,
 zk 16 15 1,
 zm 17 3,
 zg 18 (.ixs t16 t17 2),
 zp 19 18 0,
 zk 20 19 1,
 zh 21 20,
 zg 22 (.bin .gtr t21 (zi 100)),
 zm 23 22,
 zf 24 23 (.off t1 20),
 zf 25 23 (.ld t24 1 false),
 zf 26 23 (.mov t3),
 zf 27 23 (.ixs t25 t26 2),
 zf 28 23 (.off t27 1),
 zf 29 23 (.ld t28 1 false),
 zf 30 23 (.len t29),
 zf 31 23 (.bin .gtr t30 (zi 100)),
 zg 32 (.pick t23 zT t31)] [1,3,32] [1]
 (.cond t32
 (zr [zg 2 (.mov zT)] [2] []
 .ret)
 .skip)))
 (.reg false [zm 13 3,
 zg 14 (.bin .add t13 (zi 1)),
 zm 3 14] [1,3] [1]))))
def ir15:IFn:=
⟨(zr [zg 1 (.bx t0 22 true),
 zg 2 (.mov zF)] [1] [1]
 (.seq (zr [zg 3 (.mov (zi 0))] [1,3] [1]
 (.block 0 q0g5))
 (zr [zp 33 1 19,
 zk 34 33 1,
 zh 35 34,
 zg 36 (.bin .gtr t35 (zi 100)),
 zm 37 36,
 zf 38 37 (.off t1 20),
 zf 39 37 (.ld t38 1 false),
 zf 40 37 (.len t39),
 zf 41 37 (.bin .gtr t40 (zi 100)),
 zg 42 (.pick t37 zT t41),
 zm 43 42,
 zf 44 43 (.off t1 21),
 zf 45 43 (.ld t44 1 false),
 zf 46 43 (.len t45),
 zf 47 43 (.bin .gtr t46 (zi 100)),
 zg 48 (.pick t43 zT t47),
 zm 2 48] [2] []
 .ret))),
 [.tmp 2],false⟩
def ir16:IFn:=
⟨(zr [zg 0 (.mov zF)] [] []
 (zr [zg 8 (.bld [zo,zo,zo,zo,zo,zo,zo,zo,zo,zo,zo,zo,zo,zo,zo,zo,zo,zo,.p (.bool false)] [(0,1,(zi 1)),(1,1,(zi 1)),(3,1,(zi 6)),(4,1,(zi 6))]),
 zg 9 (.bld [zo,zo,zo,zo,zo,zo,zo] [(0,1,(zi 1)),(1,1,(zi 9))]),
 zg 10 (.bld [zo,zo,zo,zo,zo,zo,zo] [(0,1,(zi 3)),(6,1,(zi 7))]),
 zg 11 (.bld [zo,zo,zo,zo,zo,zo,zo] [(0,1,(zi 1)),(1,1,(zi 3))]),
 zg 12 (.bld [zo,zo,zo,zo,zo,zo,zo] [(0,1,(zi 2))]),
 zg 13 (.bld [zo,zo,zo,zo,zo,zo,zo] [(0,1,(zi 1)),(1,1,(zi 3))]),
 zg 14 (.bsl 7 5 [zo,zo,zo,zo,zo,zo,zo] [(0,t9),(1,t10),(2,t11),(3,t12),(4,t13)]),
 zg 15 (.bld [zo,zo,zo,zo,zo,zo,zo,zo,zo,zo,zo,zo,zo,zo,zo,zo,zo,zo,.p (.bool false),.nils,.nils,.nils] [(0,19,t8),(19,1,t14)]),
 zg 16 (.callz 17 [t15]),
 zm 7 16,
 zx 17 7 0,
 zx 18 7 1,
 zm 1 17,
 zm 2 18] [1,2] []
 (zr [zm 20 1,
 zc 21 19 [t20],
 zc 22 20 [t21,(zi 0)],
 zm 19 22,
 zx 23 19 0,
 zx 24 19 1,
 zg 3 (.al [zo,zo] true),
 zn (.st t3 t23 2),
 zm 4 24] [1,2,3,4] [3]
 (zr [zm 26 1,
 zc 27 21 [t26,(zi 2),(zi 5)],
 zm 25 27,
 zx 28 25 0,
 zx 29 25 1,
 zg 5 (.al [zo,zo] true),
 zn (.st t5 t28 2),
 zm 6 29] [1,2,3,4,5,6] [3,5]
 (.seq (.reg true [zm 30 2,
 zm 31 30,
 zt 32 31 (.mov t4),
 zg 33 (.pick t31 t32 zF),
 zm 34 33,
 zt 35 34 (.mov t6),
 zg 36 (.pick t34 t35 zF),
 zm 37 36,
 zt 38 37 (.ldl 3 t3 2 true),
 zt 39 37 (.bld [zo,zo] [(0,1,(zi 1)),(1,1,(zi 7))]),
 zt 40 37 (.eqa false [true,true] t38 t39),
 zg 41 (.pick t37 t40 zF),
 zm 42 41,
 zt 43 42 (.ldl 5 t5 2 true),
 zt 44 42 (.bld [zo,zo] []),
 zt 45 42 (.eqa false [true,true] t43 t44),
 zg 46 (.pick t42 t45 zF),
 zm 47 46,
 zt 48 47 (.mov t1),
 zt 49 47 (.call 19 [t48] false),
 zt 50 47 (.mov t1),
 zt 51 47 (.call 30 [t50] false),
 zt 52 47 (.call 70 [t49,t51] false),
 zt 53 47 (.ldl 3 t3 2 true),
 zt 54 47 (.eqa false [true,true] t52 t53),
 zg 55 (.pick t47 t54 zF),
 zm 0 55] [0] [])
 .ret))))),
 [.tmp 0],false⟩
def q0g6:IC:=
 (.loop [1,6,53,54] [1,35] (zr [zg 55 (.bin .lss t54 t53)] [1,6,53,54,55] [1,35]
 (.seq (.cond t55
 .skip
 (.exit 0))
 (.seq (.block 1 (zr [zm 56 54,
 zm 7 56] [1,6,7,53,54] [1,35]
 (.reg true [zm 57 6,
 zm 58 6,
 zg 59 (.nck t58),
 zp 60 59 23,
 zg 61 (.ldl 35 t60 1 false),
 zp 62 1 20,
 zg 63 (.ldl 1 t62 1 false),
 zm 64 7,
 zg 65 (.slc t63 none (some t64) 2),
 zc 66 78 [t65],
 zg 67 (.bsl 1 1 [zo] [(0,t66)]),
 zg 68 (.app t61 t67 1),
 zg 69 (.nck t57),
 zp 70 69 23,
 zn (.stl 35 t70 t68 1)] [1,6,53,54] [1,35])))
 (.reg false [zg 71 (.bin .add t54 (zi 1)),
 zm 54 71] [1,6,53,54] [1,35])))))
def ir17:IFn:=
⟨(zr [zg 1 (.bx t0 22 true),
 zg 2 (.mov (.c (.p .nilp))),
 zg 3 (.mov zF)] [1] [1]
 (.seq (zr [zl 8 1 22,
 zc 9 71 [t8],
 zj 10 9] [1,10] [1]
 (.cond t10
 (zr [zg 2 (.mov (.c (.p .nilp))),
 zg 3 (.mov zF)] [2,3] [35]
 .ret)
 .skip))
 (zr [zl 11 1 22,
 zc 12 73 [t11],
 zc 13 72 [t12],
 zn (.st t1 t13 22)] [1] [1]
 (zr [zp 15 1 19,
 zk 16 15 1,
 zg 17 (.callz 74 [t16]),
 zm 14 17,
 zx 18 14 0,
 zx 19 14 1,
 zm 4 18,
 zm 5 19] [1,4,5] [1]
 (.seq (zr [zm 20 5,
 zj 21 20] [1,4,21] [1]
 (.cond t21
 (zr [zg 2 (.mov (.c (.p .nilp))),
 zg 3 (.mov zF)] [2,3] [35]
 .ret)
 .skip))
 (.seq (.prep [35] (.reg true [zp 22 1 19,
 zg 23 (.ldl 1 t22 1 false),
 zg 24 (.callz 75 [t23]),
 zm 25 4,
 zp 26 1 19,
 zg 27 (.ldl 1 t26 1 false),
 zp 28 1 21,
 zg 29 (.ldl 1 t28 1 false),
 zg 30 (.callz 76 [t27,t29]),
 zg 31 (.bld [.p .nilp,.p .nilp,.p .nilp] [(0,1,t24),(1,1,t25),(2,1,t30)]),
 zg 32 (.bx t31 3 false),
 zg 33 (.ldl 1 t1 22 true),
 zg 34 (.bld [.p .nilp,zo,zo,zo,zo,zo,zo,zo,zo,zo,zo,zo,zo,zo,zo,zo,zo,zo,zo,.p (.bool false),.nils,.nils,.nils,.nils,zo,zo,zo] [(0,1,t32),(1,22,t33)]),
 zg 35 (.bxp t34 27),
 zm 6 35] [1,6] [1,35]))
 (.seq (.reg true [zm 36 6,
 zm 37 6,
 zg 38 (.nck t37),
 zp 39 38 0,
 zg 40 (.ldl 35 t39 1 false),
 zg 41 (.nck t40),
 zp 42 41 2,
 zk 43 42 1,
 zp 44 1 19,
 zg 45 (.ldl 1 t44 1 false),
 zh 46 45,
 zc 47 77 [t43,t46],
 zg 48 (.nck t36),
 zp 49 48 24,
 zn (.stl 35 t49 t47 3)] [1,6] [1,35])
 (.seq (zr [zp 50 1 20,
 zk 51 50 1,
 zh 52 51,
 zg 53 (.bin .add t52 (zi 1)),
 zg 54 (.mov (zi 0))] [1,6,53,54] [1,35]
 (.block 0 q0g6))
 (.seq (.esc [35] (.reg false [zm 72 6,
 zm 2 72,
 zg 3 (.mov zT)] [2,3] [35]))
 .ret))))))))),
 [.tmp 2,.tmp 3],false⟩
def ir18:IFn:=
⟨(zr [zg 1 (.bx t0 22 true),
 zg 2 (.al [zo,zo,zo,zo,zo,zo,zo,zo,zo,zo,zo,zo,zo,zo,zo,zo,zo,zo,.p (.bool false),.nils,.nils,.nils,.p (.bool false)] true)] [1,2] [1,2]
 (.seq (zr [zl 3 1 22,
 zc 4 79 [t3],
 zg 5 (.fldv t4 0 1 false),
 zg 6 (.bin .neq t5 (zi 0))] [1,2,6] [1,2]
 (.cond t6
 (zr [zg 7 (.bld [zo,zo,zo,zo,zo,zo,zo,zo,zo,zo,zo,zo,zo,zo,zo,zo,zo,zo,.p (.bool false),.nils,.nils,.nils,.p (.bool false)] []),
 zn (.st t2 t7 23)] [2] [2]
 .ret)
 .skip))
 (zr [zl 8 1 22,
 zc 9 80 [t8],
 zg 10 (.bld [zo,zo,zo,zo,zo,zo,zo,zo,zo,zo,zo,zo,zo,zo,zo,zo,zo,zo,.p (.bool false),.nils,.nils,.nils] [(0,22,t9)]),
 zg 11 (.bld [zo,zo,zo,zo,zo,zo,zo,zo,zo,zo,zo,zo,zo,zo,zo,zo,zo,zo,.p (.bool false),.nils,.nils,.nils,.p (.bool false)] [(0,22,t10),(22,1,zT)]),
 zn (.st t2 t11 23)] [2] [2]
 .ret))),
 [.cell 2 23 true],false⟩
def q0g7:IC:=
 (.loop [0,3,4,6,7,29,30,44,45,46] [16] (zr [zg 47 (.bin .lss t46 t45)] [0,3,4,6,7,29,30,44,45,46,47] [16]
 (.seq (.cond t47
 .skip
 (.exit 2))
 (.seq (.block 3 (zr [zg 48 (.ixs t44 t46 1),
 zk 49 48 1,
 zm 9 49] [0,3,4,6,7,9,29,30,44,45,46] [16]
 (zr [zm 51 0,
 zm 52 6,
 zm 53 9,
 zc 54 85 [t51,t52,t53],
 zm 50 54,
 zx 55 50 0,
 zx 56 50 1,
 zg 10 (.al [zo,zo] true),
 zn (.st t10 t55 2),
 zm 11 56] [0,3,4,6,7,9,10,11,29,30,44,45,46] [10,16]
 (zr [zm 57 11] [0,3,4,6,7,9,10,29,30,44,45,46,57] [10,16]
 (.cond t57
 (.reg true [zm 58 7,
 zg 59 (.ldl 10 t10 2 true),
 zm 60 3,
 zg 61 (.nck t60),
 zp 62 61 1,
 zg 63 (.ldl 16 t62 1 false),
 zm 64 0,
 zc 65 81 [t64],
 zm 66 9,
 zc 67 87 [t65,t66],
 zg 68 (.mp (.lk none (.agg [zo,zo]) false) [t63,t67]),
 zc 69 86 [t59,t68],
 zg 70 (.bsl 2 1 [zo,zo] [(0,t69)]),
 zg 71 (.app t58 t70 2),
 zm 7 71] [0,3,4,6,7,29,30,44,45,46] [16])
 .skip)))))
 (.reg false [zg 72 (.bin .add t46 (zi 1)),
 zm 46 72] [0,3,4,6,7,29,30,44,45,46] [16])))))
def q0g8:IC:=
 (.loop [0,3,4,29,30] [16] (zr [zg 31 (.bin .lss t30 t29)] [0,3,4,29,30,31] [16]
 (.seq (.cond t31
 .skip
 (.exit 0))
 (.seq (.block 1 (zr [zm 32 30,
 zm 5 32] [0,3,4,5,29,30] [16]
 (zr [zm 33 4,
 zg 34 (.bin .sub t33 (zi 1)),
 zm 35 5,
 zg 36 (.bin .sub t34 t35),
 zm 6 36] [0,3,4,6,29,30] [16]
 (.seq (zr [zm 37 0,
 zm 38 6,
 zc 39 83 [t37,t38],
 zj 40 39] [0,3,4,6,29,30,40] [16]
 (.cond t40
 (.exit 1)
 .skip))
 (zr [zg 7 (.nrow 2)] [0,3,4,6,7,29,30] [16]
 (.seq (zr [zm 41 0,
 zc 42 81 [t41],
 zm 43 6,
 zc 44 84 [t42,t43],
 zh 45 44,
 zg 46 (.mov (zi 0))] [0,3,4,6,7,29,30,44,45,46] [16]
 (.block 2 q0g7))
 (zr [zm 73 7,
 zc 74 88 [t73],
 zm 12 74] [0,3,4,6,7,12,29,30] [16]
 (zr [zm 75 12,
 zg 76 (.bin .geq t75 (zi 0))] [0,3,4,6,7,12,29,30,76] [16]
 (.cond t76
 (.reg true [zm 77 3,
 zg 78 (.nck t77),
 zp 79 78 1,
 zg 80 (.ldl 16 t79 1 false),
 zm 81 6,
 zm 82 7,
 zm 83 12,
 zg 84 (.ixs t82 t83 2),
 zl 85 84 2,
 zn (.mp (.st none 2) [t80,t81,t85])] [0,3,4,29,30] [16])
 .skip)))))))))
 (.reg false [zg 86 (.bin .add t30 (zi 1)),
 zm 30 86] [0,3,4,29,30] [16])))))
def ir19:IFn:=
⟨(zr [zg 2 (.mov (.c (.p .nilp)))] [0] []
 (zr [zm 13 0,
 zg 14 (.mp .mkm []),
 zg 15 (.bld [.p .nilp,.p .nilm] [(0,1,t13),(1,1,t14)]),
 zg 16 (.bx t15 2 true),
 zm 3 16] [0,3] [16]
 (.seq (zr [zm 17 0,
 zg 18 (.eqn .ptr false t17)] [0,3,18] [16]
 (.cond t18
 (.seq (.esc [16] (.reg false [zm 19 3,
 zm 2 19] [2] [16]))
 .ret)
 .skip))
 (zr [zm 20 0,
 zc 21 81 [t20],
 zc 22 82 [t21],
 zm 4 22] [0,3,4] [16]
 (zr [zm 23 3,
 zg 24 (.nck t23),
 zp 25 24 1,
 zk 26 25 1,
 zm 27 4,
 zg 28 (.bld [zo,zo] []),
 zn (.mp (.st none 2) [t26,t27,t28])] [0,3,4] [16]
 (.seq (zr [zm 29 4,
 zg 30 (.mov (zi 0))] [0,3,4,29,30] [16]
 (.block 0 q0g8))
 (.seq (.esc [16] (.reg false [zm 87 3,
 zm 2 87] [2] [16]))
 .ret))))))),
 [.tmp 2],false⟩
def ir20:IFn:=
⟨(zr [zg 4 (.al [zo,zo] true),
 zg 5 (.mov zF)] [0,1,4] [4]
 (.seq (zr [zm 8 0,
 zg 9 (.eqn .ptr false t8)] [0,1,4,9] [4]
 (.cond t9
 (zr [zg 10 (.bld [zo,zo] []),
 zn (.st t4 t10 2),
 zg 5 (.mov zF)] [4,5] [4]
 .ret)
 .skip))
 (zr [zm 12 0,
 zg 13 (.nck t12),
 zp 14 13 1,
 zk 15 14 1,
 zm 16 1,
 zg 17 (.mp (.lk none (.agg [zo,zo]) true) [t15,t16]),
 zm 11 17,
 zx 18 11 0,
 zx 19 11 1,
 zg 6 (.al [zo,zo] true),
 zn (.st t6 t18 2),
 zm 7 19] [4,6,7] [4,6]
 (zr [zl 20 6 2,
 zm 21 7,
 zn (.st t4 t20 2),
 zm 5 21] [4,5] [4]
 .ret)))),
 [.cell 4 2 true,.tmp 5],false⟩
def ir21:IFn:=
⟨(zr [zg 6 (.al [zo,zo] true),
 zg 7 (.mov zF)] [0,1,2,6] [6]
 (.seq (zr [zm 8 0,
 zm 9 1,
 zc 10 83 [t8,t9],
 zj 11 10,
 zm 12 11,
 zf 13 12 (.mov t0),
 zf 14 12 (.call 81 [t13] false),
 zf 15 12 (.mov t1),
 zf 16 12 (.call 84 [t14,t15] false),
 zf 17 12 (.mov t2),
 zf 18 12 (.call 89 [t16,t17] false),
 zf 19 12 (.un .not t18),
 zg 20 (.pick t12 zT t19)] [0,1,2,6,20] [6]
 (.cond t20
 (zr [zg 21 (.bld [zo,zo] []),
 zn (.st t6 t21 2),
 zg 7 (.mov zF)] [6,7] [6]
 .ret)
 .skip))
 (zr [zm 22 0,
 zm 23 1,
 zm 24 2,
 zc 25 85 [t22,t23,t24],
 zx 26 25 0,
 zx 27 25 1,
 zn (.st t6 t26 2),
 zm 7 27] [6,7] [6]
 .ret))),
 [.cell 6 2 true,.tmp 7],false⟩
def q0g9:IC:=
 (.loop [1,2,3,6,7,8,9,10] [3,6] (.seq (zr [zm 34 10,
 zm 35 8,
 zh 36 35,
 zg 37 (.bin .lss t34 t36)] [1,2,3,6,7,8,9,10,37] [3,6]
 (.cond t37
 .skip
 (.exit 0)))
 (.seq (.block 1 (.reg false [zm 40 9,
 zm 41 40,
 zf 42 41 (.mov t8),
 zf 43 41 (.mov t10),
 zf 44 41 (.ixs t42 t43 1),
 zf 45 41 (.ld t44 1 false),
 zf 46 41 (.mov t2),
 zf 47 41 (.bin .eql t45 t46),
 zg 48 (.pick t41 zT t47),
 zm 9 48] [1,2,3,6,7,8,9,10] [3,6]))
 (.reg false [zm 38 10,
 zg 39 (.bin .add t38 (zi 1)),
 zm 10 39] [1,2,3,6,7,8,9,10] [3,6]))))
def ir22:IFn:=
⟨(zr [zg 3 (.bx t0 22 true),
 zg 6 (.al [zo,zo,.p (.bool false)] true)] [1,2,3,6] [3,6]
 (zr [zp 12 3 0,
 zp 13 12 19,
 zk 14 13 1,
 zm 7 14] [1,2,3,6,7] [3,6]
 (.seq (zr [zm 15 1,
 zg 16 (.bin .lss t15 (zi 0)),
 zm 17 16,
 zf 18 17 (.mov t1),
 zf 19 17 (.mov t7),
 zf 20 17 (.len t19),
 zf 21 17 (.bin .geq t18 t20),
 zg 22 (.pick t17 zT t21),
 zm 23 22,
 zf 24 23 (.mov t7),
 zf 25 23 (.mov t1),
 zf 26 23 (.call 90 [t24,t25] false),
 zf 27 23 (.mov t1),
 zf 28 23 (.bin .neq t26 t27),
 zg 29 (.pick t23 zT t28)] [1,2,3,6,7,29] [3,6]
 (.cond t29
 (zr [zg 30 (.bld [zo,zo,.p (.bool false)] []),
 zn (.st t6 t30 3)] [6] [6]
 .ret)
 .skip))
 (zr [zm 31 7,
 zm 32 1,
 zc 33 91 [t31,t32],
 zm 8 33] [1,2,3,6,7,8] [3,6]
 (zr [zg 9 (.mov zF)] [1,2,3,6,7,8,9] [3,6]
 (.seq (zr [zg 10 (.mov (zi 0))] [1,2,3,6,7,8,9,10] [3,6]
 (.block 0 q0g9))
 (.seq (zr [zm 49 9,
 zj 50 49] [1,2,3,6,7,50] [3,6]
 (.cond t50
 (zr [zg 51 (.bld [zo,zo,.p (.bool false)] []),
 zn (.st t6 t51 3)] [6] [6]
 .ret)
 .skip))
 (.seq (.reg true [zm 52 7,
 zm 53 1,
 zm 54 2,
 zc 55 93 [t52,t53,t54],
 zp 56 3 0,
 zp 57 56 0,
 zp 58 57 3,
 zg 59 (.ldl 3 t58 1 false),
 zc 60 92 [t55,t59,zF],
 zg 61 (.fldv t60 0 1 false),
 zg 62 (.bin .eql t61 (zi 3)),
 zm 11 62] [1,2,3,6,7,11] [3,6])
 (.seq (zr [zm 63 11,
 zm 64 63,
 zt 65 64 (.mov t2),
 zt 66 64 (.mov t7),
 zt 67 64 (.mov t1),
 zt 68 64 (.call 94 [t66,t67] false),
 zt 69 64 (.bin .neq t65 t68),
 zg 70 (.pick t64 t69 zF)] [2,3,6,7,11,70] [3,6]
 (.cond t70
 (zr [zg 71 (.bld [zo,zo,.p (.bool false)] []),
 zn (.st t6 t71 3)] [6] [6]
 .ret)
 .skip))
 (zr [zm 72 11,
 zp 73 3 0,
 zp 74 73 0,
 zl 75 74 19,
 zm 76 7,
 zm 77 2,
 zc 78 96 [t75,t76,t77],
 zg 79 (.bsl 1 1 [zo] [(0,t78)]),
 zc 80 95 [t72,t79],
 zg 81 (.bld [zo,zo,.p (.bool false)] [(0,2,t80),(2,1,zT)]),
 zn (.st t6 t81 3)] [6] [6]
 .ret)))))))))),
 [.cell 6 3 true],false⟩
def q0ga:IC:=
 (.loop [1,2,4,5,6,7] [2,4,6] (.seq (zr [zm 36 7,
 zm 37 5,
 zh 38 37,
 zg 39 (.bin .leq t36 t38)] [1,2,4,5,6,7,39] [2,4,6]
 (.cond t39
 .skip
 (.exit 0)))
 (.seq (.block 1 (zr [zl 42 2 22,
 zm 43 1,
 zm 44 7,
 zc 45 22 [t42,t43,t44],
 zg 8 (.al [zo,zo,.p (.bool false)] true),
 zn (.st t8 t45 3)] [1,2,4,5,6,7,8] [2,4,6,8]
 (zr [zp 46 8 2,
 zk 47 46 1] [1,2,4,5,6,7,8,47] [2,4,6,8]
 (.cond t47
 (.seq (.prep [9] (.reg true [zp 48 8 0,
 zg 49 (.ldl 8 t48 2 true),
 zg 50 (.ldl 2 t2 22 true),
 zm 51 5,
 zm 52 7,
 zc 53 90 [t51,t52],
 zc 54 23 [t50,t53],
 zg 55 (.fldv t54 0 2 true),
 zc 56 97 [t49,t55],
 zg 9 (.alp [zo,zo]),
 zn (.stl 9 t9 t56 2)] [1,2,4,5,6,7,9] [2,4,6,9]))
 (zr [zp 57 6 2,
 zk 58 57 1,
 zj 59 58,
 zm 60 59,
 zf 61 60 (.ld t9 2 true),
 zf 62 60 (.off t6 0),
 zf 63 60 (.ld t62 2 true),
 zf 64 60 (.call 69 [t61,t63] false),
 zf 65 60 (.bin .lss t64 (zi 0)),
 zg 66 (.pick t60 zT t65)] [1,2,4,5,6,7,9,66] [2,4,6,9]
 (.cond t66
 (.reg false [zl 67 9 2,
 zg 68 (.bld [zo,zo,.p (.bool false)] [(0,2,t67),(2,1,zT)]),
 zn (.st t6 t68 3)] [1,2,4,5,6,7] [2,4,6])
 .skip)))
 .skip))))
 (.reg false [zm 40 7,
 zg 41 (.bin .add t40 (zi 1)),
 zm 7 41] [1,2,4,5,6,7] [2,4,6]))))
def ir23:IFn:=
⟨(zr [zg 2 (.bx t0 22 true),
 zg 4 (.al [zo,zo,.p (.bool false)] true)] [1,2,4] [2,4]
 (zr [zp 10 2 0,
 zp 11 10 19,
 zk 12 11 1,
 zm 5 12] [1,2,4,5] [2,4]
 (.seq (zr [zm 13 1,
 zm 14 5,
 zh 15 14,
 zg 16 (.bin .eql t13 t15)] [1,2,4,5,16] [2,4]
 (.cond t16
 (zr [zg 17 (.bld [zo,zo,.p (.bool false)] [(2,1,zT)]),
 zn (.st t4 t17 3)] [4] [4]
 .ret)
 .skip))
 (.seq (zr [zm 18 1,
 zg 19 (.bin .lss t18 (zi 0)),
 zm 20 19,
 zf 21 20 (.mov t1),
 zf 22 20 (.mov t5),
 zf 23 20 (.len t22),
 zf 24 20 (.bin .gtr t21 t23),
 zg 25 (.pick t20 zT t24),
 zm 26 25,
 zf 27 26 (.mov t5),
 zf 28 26 (.mov t1),
 zf 29 26 (.call 90 [t27,t28] false),
 zf 30 26 (.mov t1),
 zf 31 26 (.bin .neq t29 t30),
 zg 32 (.pick t26 zT t31)] [1,2,4,5,32] [2,4]
 (.cond t32
 (zr [zg 33 (.bld [zo,zo,.p (.bool false)] []),
 zn (.st t4 t33 3)] [4] [4]
 .ret)
 .skip))
 (zr [zg 6 (.al [zo,zo,.p (.bool false)] true)] [1,2,4,5,6] [2,4,6]
 (.seq (zr [zm 34 1,
 zg 35 (.bin .add t34 (zi 1)),
 zm 7 35] [1,2,4,5,6,7] [2,4,6]
 (.block 0 q0ga))
 (zr [zl 69 6 3,
 zn (.st t4 t69 3)] [4] [4]
 .ret))))))),
 [.cell 4 3 true],false⟩
def ir30:IFn:=
⟨(zr [zg 2 (.al [zo,zo,zo,zo,zo,zo,zo] true)] [0,2] [2]
 (zr [zm 3 0,
 zc 4 81 [t3],
 zc 5 87 [t4,(zi 0)],
 zg 6 (.bld [zo,zo,zo,zo,zo,zo,zo] [(0,1,t5)]),
 zn (.st t2 t6 7)] [2] [2]
 .ret)),
 [.cell 2 7 true],false⟩
def ir38:IFn:=
⟨(zr [zg 3 (.bx t1 7 true),
 zg 4 (.mov zF)] [0,3] [3]
 (.seq (.seq (.reg true [zm 6 0,
 zg 7 (.eqn .ptr false t6),
 zm 8 7,
 zf 9 8 (.off t3 0),
 zf 10 8 (.ldl 3 t9 1 false),
 zf 11 8 (.bin .lss t10 (zi 0)),
 zg 12 (.pick t8 zT t11),
 zm 13 12,
 zf 14 13 (.off t3 0),
 zf 15 13 (.ldl 3 t14 1 false),
 zf 16 13 (.mov t0),
 zf 17 13 (.nck t16),
 zf 18 13 (.off t17 0),
 zf 19 13 (.ld t18 1 false),
 zf 20 13 (.nck t19),
 zf 21 13 (.off t20 0),
 zf 22 13 (.ld t21 1 false),
 zf 23 13 (.call 82 [t22] false),
 zf 24 13 (.bin .gtr t15 t23),
 zg 25 (.pick t13 zT t24),
 zm 26 25,
 zf 27 26 (.mov t0),
 zf 28 26 (.nck t27),
 zf 29 26 (.off t28 0),
 zf 30 26 (.ld t29 1 false),
 zf 31 26 (.nck t30),
 zf 32 26 (.off t31 0),
 zf 33 26 (.ld t32 1 false),
 zf 34 26 (.off t3 0),
 zf 35 26 (.ldl 3 t34 1 false),
 zf 36 26 (.call 87 [t33,t35] false),
 zf 37 26 (.off t3 0),
 zf 38 26 (.ldl 3 t37 1 false),
 zf 39 26 (.bin .neq t36 t38),
 zg 40 (.pick t26 zT t39),
 zm 41 40,
 zf 42 41 (.off t3 1),
 zf 43 41 (.ldl 3 t42 1 false),
 zf 44 41 (.bin .lss t43 (zi 0)),
 zg 45 (.pick t41 zT t44),
 zm 46 45,
 zf 47 46 (.off t3 1),
 zf 48 46 (.ldl 3 t47 1 false),
 zf 49 46 (.mov t0),
 zf 50 46 (.nck t49),
 zf 51 46 (.off t50 1),
 zf 52 46 (.off t51 0),
 zf 53 46 (.off t52 0),
 zf 54 46 (.ld t53 1 false),
 zf 55 46 (.bin .gtr t48 t54),
 zg 56 (.pick t46 zT t55)] [0,3,56] [3])
 (.cond t56
 (zr [zg 4 (.mov zF)] [4] []
 .ret)
 .skip))
 (zr [zp 57 3 4,
 zl 58 57 3,
 zg 5 (.al [zo,zo,zo] true),
 zn (.st t5 t58 3)] [0,3,5] [3,5]
 (.seq (.reg true [zm 59 0,
 zg 60 (.ldl 3 t3 7 true),
 zc 61 132 [t59,t60],
 zm 62 61,
 zt 63 62 (.bld [zo,zo,zo] []),
 zt 64 62 (.ldl 5 t5 3 true),
 zt 65 62 (.call 133 [t63,t64] false),
 zg 66 (.pick t62 t65 zF),
 zm 67 66,
 zt 68 67 (.ldl 5 t5 3 true),
 zt 69 67 (.mov t0),
 zt 70 67 (.nck t69),
 zt 71 67 (.off t70 0),
 zt 72 67 (.ld t71 1 false),
 zt 73 67 (.nck t72),
 zt 74 67 (.off t73 2),
 zt 75 67 (.ld t74 1 false),
 zt 76 67 (.off t3 0),
 zt 77 67 (.ldl 3 t76 1 false),
 zt 78 67 (.call 77 [t75,t77] false),
 zt 79 67 (.call 133 [t68,t78] false),
 zg 80 (.pick t67 t79 zF),
 zm 4 80] [4] [])
 .ret)))),
 [.tmp 4],false⟩
def ir69:IFn:=
⟨(zr [zg 2 (.bx t0 2 true),
 zg 3 (.bx t1 2 true),
 zg 4 (.mov (zi 0))] [2,3] [2,3]
 (.seq (zr [zp 5 2 0,
 zk 6 5 1,
 zp 7 3 0,
 zk 8 7 1,
 zg 9 (.bin .lss t6 t8),
 zm 10 9,
 zf 11 10 (.off t2 0),
 zf 12 10 (.ld t11 1 false),
 zf 13 10 (.off t3 0),
 zf 14 10 (.ld t13 1 false),
 zf 15 10 (.bin .eql t12 t14),
 zf 16 10 (.mov t15),
 zt 17 16 (.off t2 1),
 zt 18 16 (.ld t17 1 false),
 zt 19 16 (.off t3 1),
 zt 20 16 (.ld t19 1 false),
 zt 21 16 (.bin .lss t18 t20),
 zf 22 10 (.pick t16 t21 zF),
 zg 23 (.pick t10 zT t22)] [2,3,23] [2,3]
 (.cond t23
 (zr [zg 4 (.mov (zi (-1)))] [4] []
 .ret)
 .skip))
 (.seq (zr [zl 24 2 2,
 zl 25 3 2,
 zg 26 (.eqa false [true,true] t24 t25)] [26] []
 (.cond t26
 (zr [zg 4 (.mov (zi 0))] [4] []
 .ret)
 .skip))
 (zr [zg 4 (.mov (zi 1))] [4] []
 .ret)))),
 [.tmp 4],false⟩
def ir70:IFn:=
⟨(zr [zg 3 (.bx t1 7 true),
 zg 4 (.al [zo,zo] true)] [0,3,4] [3,4]
 (.seq (.seq (.reg true [zm 7 0,
 zg 8 (.eqn .ptr false t7),
 zm 9 8,
 zf 10 9 (.mov t0),
 zf 11 9 (.nck t10),
 zf 12 9 (.off t11 0),
 zf 13 9 (.ld t12 1 false),
 zf 14 9 (.ldl 3 t3 7 true),
 zf 15 9 (.call 38 [t13,t14] false),
 zf 16 9 (.un .not t15),
 zg 17 (.pick t9 zT t16)] [0,3,4,17] [3,4])
 (.cond t17
 (zr [zg 18 (.bld [zo,zo] []),
 zn (.st t4 t18 2)] [4] [4]
 .ret)
 .skip))
 (zr [zm 20 0,
 zp 21 3 0,
 zk 22 21 1,
 zc 23 20 [t20,t22],
 zm 19 23,
 zx 24 19 0,
 zx 25 19 1,
 zg 5 (.al [zo,zo] true),
 zn (.st t5 t24 2),
 zm 6 25] [4,5] [4,5]
 (zr [zl 26 5 2,
 zn (.st t4 t26 2)] [4] [4]
 .ret)))),
 [.cell 4 2 true],false⟩
def ir71:IFn:=
⟨(zr [zg 1 (.bx t0 22 true),
 zg 2 (.mov zF)] [1] [1]
 (zr [zl 6 1 22,
 zc 7 188 [t6],
 zm 5 7,
 zx 8 5 0,
 zx 9 5 1,
 zm 3 8,
 zm 4 9] [3] []
 (zr [zm 10 3,
 zg 11 (.bin .eql t10 (zi 0)),
 zm 2 11] [2] []
 .ret))),
 [.tmp 2],false⟩
def q0gb:IC:=
 (.loop [2,3,16,17,18] [2,3] (zr [zg 19 (.bin .lss t18 t17)] [2,3,16,17,18,19] [2,3]
 (.seq (.cond t19
 .skip
 (.exit 0))
 (.seq (.block 1 (zr [zg 20 (.ixs t16 t18 2),
 zl 21 20 2,
 zg 5 (.al [.nils,.nils] true),
 zn (.st t5 t21 2)] [2,3,5,16,17,18] [2,3,5]
 (.reg true [zp 22 3 20,
 zg 23 (.ldl 3 t22 1 false),
 zp 24 5 0,
 zg 25 (.ldl 5 t24 1 false),
 zg 26 (.callz 191 [t25]),
 zp 27 5 1,
 zg 28 (.ldl 5 t27 1 false),
 zg 29 (.callz 192 [t28]),
 zg 30 (.bld [.nils,.nils] [(0,1,t26),(1,1,t29)]),
 zg 31 (.bsl 2 1 [.nils,.nils] [(0,t30)]),
 zg 32 (.app t23 t31 2),
 zp 33 3 20,
 zn (.stl 3 t33 t32 1)] [2,3,16,17,18] [2,3])))
 (.reg false [zg 34 (.bin .add t18 (zi 1)),
 zm 18 34] [2,3,16,17,18] [2,3])))))
def ir72:IFn:=
⟨(zr [zg 1 (.bx t0 22 true),
 zg 2 (.al [zo,zo,zo,zo,zo,zo,zo,zo,zo,zo,zo,zo,zo,zo,zo,zo,zo,zo,.p (.bool false),.nils,.nils,.nils] true)] [1,2] [1,2]
 (.seq (.prep [3] (.reg true [zp 6 1 0,
 zg 7 (.ldl 1 t6 19 true),
 zp 8 1 19,
 zg 9 (.ldl 1 t8 1 false),
 zg 10 (.callz 189 [t9]),
 zp 11 1 21,
 zg 12 (.ldl 1 t11 1 false),
 zg 13 (.callz 190 [t12]),
 zg 14 (.bld [zo,zo,zo,zo,zo,zo,zo,zo,zo,zo,zo,zo,zo,zo,zo,zo,zo,zo,.p (.bool false),.nils,.nils,.nils] [(0,19,t7),(19,1,t10),(21,1,t13)]),
 zg 3 (.alp [zo,zo,zo,zo,zo,zo,zo,zo,zo,zo,zo,zo,zo,zo,zo,zo,zo,zo,.p (.bool false),.nils,.nils,.nils]),
 zn (.stl 3 t3 t14 22)] [1,2,3] [1,2,3]))
 (.seq (zr [zp 15 1 20,
 zk 16 15 1,
 zh 17 16,
 zg 18 (.mov (zi 0))] [2,3,16,17,18] [2,3]
 (.block 0 q0gb))
 (zr [zl 35 3 22,
 zn (.st t2 t35 22)] [2] [2]
 .ret)))),
 [.cell 2 22 true],false⟩
def q08o:IC:=
 (.loop [2,3,4,44,45] [2,3] (zr [zg 46 (.bin .lss t45 t44)] [2,3,4,44,45,46] [2,3]
 (.seq (.cond t46
 .skip
 (.exit 0))
 (.seq (.block 1 (zr [zm 47 45,
 zm 5 47] [2,3,4,5,44,45] [2,3]
 (.reg true [zg 48 (.ldl 3 t3 1 true),
 zp 49 4 21,
 zk 50 49 1,
 zm 51 5,
 zg 52 (.ixs t50 t51 3),
 zp 53 52 1,
 zg 54 (.bsl 1 1 [.p .nilp] [(0,t53)]),
 zc 55 195 [t48,(.c (.p (.fn 197))),t54]] [2,3,4,44,45] [2,3])))
 (.reg false [zg 56 (.bin .add t45 (zi 1)),
 zm 45 56] [2,3,4,44,45] [2,3])))))
def ir73:IFn:=
⟨(zr [zg 1 (.bx t0 22 true),
 zg 2 (.al [zo,zo,zo,zo,zo,zo,zo,zo,zo,zo,zo,zo,zo,zo,zo,zo,zo,zo,.p (.bool false),.nils,.nils,.nils] true)] [1,2] [1,2]
 (zr [zp 6 1 0,
 zp 7 6 5,
 zk 8 7 1,
 zg 9 (.bld [zo] [(0,1,t8)]),
 zg 3 (.al [zo] true),
 zn (.st t3 t9 1)] [1,2,3] [1,2,3]
 (.seq (zr [zp 10 3 0,
 zk 11 10 1,
 zg 12 (.bin .lss t11 (zi 1))] [1,2,3,12] [1,2,3]
 (.cond t12
 (zr [zl 13 1 22,
 zn (.st t2 t13 22)] [2] [2]
 .ret)
 .skip))
 (.seq (.prep [4] (.reg true [zp 14 1 0,
 zg 15 (.ldl 1 t14 19 true),
 zg 16 (.ldl 3 t3 1 true),
 zp 17 1 19,
 zg 18 (.ldl 1 t17 1 false),
 zc 19 193 [t16,t18],
 zg 20 (.ldl 3 t3 1 true),
 zp 21 1 20,
 zg 22 (.ldl 1 t21 1 false),
 zc 23 194 [t20,t22],
 zp 24 1 21,
 zg 25 (.ldl 1 t24 1 false),
 zc 26 190 [t25],
 zg 27 (.bld [zo,zo,zo,zo,zo,zo,zo,zo,zo,zo,zo,zo,zo,zo,zo,zo,zo,zo,.p (.bool false),.nils,.nils,.nils] [(0,19,t15),(19,1,t19),(20,1,t23),(21,1,t26)]),
 zg 4 (.alp [zo,zo,zo,zo,zo,zo,zo,zo,zo,zo,zo,zo,zo,zo,zo,zo,zo,zo,.p (.bool false),.nils,.nils,.nils]),
 zn (.stl 4 t4 t27 22)] [2,3,4] [2,3,4]))
 (.esc [4] (zr [zl 28 3 1,
 zp 29 4 0,
 zp 30 29 3,
 zp 31 4 0,
 zp 32 31 4,
 zg 33 (.bsl 1 2 [.p .nilp] [(0,t30),(1,t32)]),
 zc 34 195 [t28,(.c (.p (.fn 196))),t33]] [2,3,4] [2,3]
 (zr [zl 35 3 1,
 zp 36 4 0,
 zp 37 36 6,
 zp 38 4 0,
 zp 39 38 7,
 zg 40 (.bsl 1 2 [.p .nilp] [(0,t37),(1,t39)]),
 zc 41 195 [t35,(.c (.p (.fn 197))),t40]] [2,3,4] [2,3]
 (.seq (zr [zp 42 4 21,
 zk 43 42 1,
 zh 44 43,
 zg 45 (.mov (zi 0))] [2,3,4,44,45] [2,3]
 (.block 0 q08o))
 (zr [zl 57 4 22,
 zn (.st t2 t57 22)] [2] [2]
 .ret))))))))),
 [.cell 2 22 true],false⟩
def q08p:IC:=
 (.loop [0,4,23,24] [21] (zr [zg 25 (.bin .lss t24 t23)] [0,4,23,24,25] [21]
 (.seq (.cond t25
 .skip
 (.exit 0))
 (.seq (.block 1 (zr [zm 26 24,
 zm 5 26] [0,4,5,23,24] [21]
 (zr [zm 27 0,
 zm 28 5,
 zg 29 (.ixs t27 t28 7),
 zl 30 29 7,
 zc 31 198 [t30],
 zg 6 (.al [zo,zo,zo,zo,zo,zo] true),
 zn (.st t6 t31 6)] [0,4,5,6,23,24] [6,21]
 (.seq (zr [zl 32 6 6,
 zc 33 199 [t32],
 zj 34 33] [0,4,5,6,23,24,34] [6,21]
 (.cond t34
 (zr [zg 2 (.mov (.c (.p .nilp))),
 zg 3 (.mov zF)] [2,3] [21]
 .ret)
 .skip))
 (.seq (.reg true [zm 36 4,
 zg 37 (.nck t36),
 zp 38 37 1,
 zg 39 (.ldl 21 t38 1 false),
 zm 40 5,
 zg 41 (.bin .add t40 (zi 1)),
 zm 42 4,
 zg 43 (.nck t42),
 zp 44 43 1,
 zg 45 (.ldl 21 t44 1 false),
 zm 46 5,
 zg 47 (.ixs t45 t46 6),
 zl 48 47 6,
 zg 49 (.ldl 6 t6 6 true),
 zc 50 200 [t48,t49],
 zm 35 50,
 zx 51 35 0,
 zx 52 35 1,
 zg 53 (.ixs t39 t41 6),
 zn (.st t53 t51 6)] [0,4,5,23,24] [21])
 (.seq (.reg true [zm 54 4,
 zg 55 (.nck t54),
 zp 56 55 2,
 zg 57 (.ldl 21 t56 1 false),
 zm 58 5,
 zg 59 (.bin .add t58 (zi 1)),
 zm 60 4,
 zg 61 (.nck t60),
 zp 62 61 2,
 zg 63 (.ldl 21 t62 1 false),
 zm 64 5,
 zg 65 (.ixs t63 t64 1),
 zk 66 65 1,
 zg 67 (.ixs t57 t59 1),
 zn (.st t67 t66 1)] [0,4,5,23,24] [21])
 (zr [zm 68 0,
 zm 69 5,
 zg 70 (.ixs t68 t69 7),
 zp 71 70 0,
 zk 72 71 1,
 zg 73 (.bin .eql t72 (zi 1))] [0,4,5,23,24,73] [21]
 (.cond t73
 (.reg true [zm 74 4,
 zg 75 (.nck t74),
 zp 76 75 2,
 zg 77 (.ldl 21 t76 1 false),
 zm 78 5,
 zg 79 (.bin .add t78 (zi 1)),
 zg 80 (.ixs t77 t79 1),
 zk 81 80 1,
 zm 82 0,
 zm 83 5,
 zg 84 (.ixs t82 t83 7),
 zp 85 84 1,
 zk 86 85 1,
 zg 87 (.bin .add t81 t86),
 zg 88 (.ixs t77 t79 1),
 zn (.st t88 t87 1)] [0,4,23,24] [21])
 .skip))))))))
 (.reg false [zg 89 (.bin .add t24 (zi 1)),
 zm 24 89] [0,4,23,24] [21])))))
def ir74:IFn:=
⟨(zr [zg 2 (.mov (.c (.p .nilp))),
 zg 3 (.mov zF)] [0] []
 (.seq (zr [zm 7 0,
 zh 8 7,
 zg 9 (.bin .gtr t8 (zi 4096))] [0,9] []
 (.cond t9
 (zr [zg 2 (.mov (.c (.p .nilp))),
 zg 3 (.mov zF)] [2,3] [21]
 .ret)
 .skip))
 (.seq (.rsv [6,1] (.prep [21] (.reg true [zm 10 0,
 zg 11 (.callz 189 [t10]),
 zm 12 0,
 zh 13 12,
 zg 14 (.bin .add t13 (zi 1)),
 zg 15 (.mkh 2 6 [zo,zo,zo,zo,zo,zo] t14),
 zm 16 0,
 zh 17 16,
 zg 18 (.bin .add t17 (zi 1)),
 zg 19 (.mkh 1 1 [zo] t18),
 zg 20 (.bld [.nils,.nils,.nils] [(0,1,t11),(1,1,t15),(2,1,t19)]),
 zg 21 (.bxp t20 3),
 zm 4 21] [0,4] [21])))
 (.seq (zr [zm 22 0,
 zh 23 22,
 zg 24 (.mov (zi 0))] [0,4,23,24] [21]
 (.block 0 q08p))
 (.seq (.esc [21] (.reg false [zm 90 4,
 zm 2 90,
 zg 3 (.mov zT)] [2,3] [21]))
 .ret))))),
 [.tmp 2,.tmp 3],false⟩
def ir75:IFn:=
⟨(zr [zg 2 (.mov (.c (.p .nilp)))] [0] []
 (zr [zm 3 0,
 zg 4 (.callz 189 [t3]),
 zg 5 (.bld [.nils] [(0,1,t4)]),
 zg 6 (.bx t5 1 false),
 zm 2 6] [2] []
 .ret)),
 [.tmp 2],false⟩
def q08q:IC:=
 (.loop [1,5,22,23,24] [21] (zr [zg 25 (.bin .lss t24 t23)] [1,5,22,23,24,25] [21]
 (.seq (.cond t25
 .skip
 (.exit 0))
 (.seq (.block 1 (zr [zm 26 24,
 zg 27 (.ixs t22 t24 7),
 zl 28 27 7,
 zg 7 (.al [zo,zo,zo,zo,zo,zo,zo] true),
 zm 6 26,
 zn (.st t7 t28 7)] [1,5,6,7,22,23,24] [7,21]
 (.seq (.prep [9,10] (.reg true [zm 29 5,
 zg 30 (.nck t29),
 zp 31 30 1,
 zg 32 (.ldl 21 t31 1 false),
 zm 33 6,
 zg 34 (.ixs t32 t33 1),
 zg 35 (.ldh t34 1 false),
 zm 36 5,
 zg 37 (.nck t36),
 zp 38 37 2,
 zg 39 (.ldl 21 t38 1 false),
 zm 40 6,
 zg 41 (.ixs t39 t40 3),
 zg 42 (.ldh t41 3 true),
 zm 43 5,
 zg 44 (.nck t43),
 zp 45 44 3,
 zg 46 (.ldl 21 t45 1 false),
 zm 47 6,
 zg 48 (.ixs t46 t47 3),
 zg 49 (.ldh t48 3 true),
 zg 9 (.alp [zo,zo,zo]),
 zg 10 (.alp [zo,zo,zo]),
 zm 8 35,
 zn (.stl 9 t9 t42 3),
 zn (.stl 10 t10 t49 3)] [1,5,7,8,9,10,22,23,24] [7,9,10,21]))
 (.seq (zr [zp 50 7 0,
 zk 51 50 1] [1,5,7,8,9,10,22,23,24,51] [7,9,10,21]
 (.block 2 (zr [zg 53 (.bin .eql t51 (zi 5)),
 zm 52 53] [1,5,7,8,9,10,22,23,24,51,52] [7,9,10,21]
 (.cond t52
 (.reg false [zm 54 8,
 zg 55 (.bin .add t54 (zi 1)),
 zm 8 55] [1,5,8,9,10,22,23,24] [9,10,21])
 (zr [zg 57 (.bin .eql t51 (zi 6)),
 zm 56 57] [1,5,7,8,9,10,22,23,24,51,56] [7,9,10,21]
 (.cond t56
 (zr [zm 59 1,
 zp 60 7 6,
 zk 61 60 1,
 zc 62 201 [t59,t61],
 zm 58 62,
 zx 63 58 0,
 zx 64 58 1,
 zg 11 (.al [zo,zo,zo] true),
 zn (.st t11 t63 3),
 zm 12 64] [1,5,8,9,10,11,12,22,23,24] [9,10,11,21]
 (zr [zm 65 12,
 zm 66 65,
 zt 67 66 (.off t11 0),
 zt 68 66 (.ld t67 1 false),
 zt 69 66 (.bin .geq t68 (zi 0)),
 zg 70 (.pick t66 t69 zF),
 zm 71 70,
 zt 72 71 (.off t11 0),
 zt 73 71 (.ld t72 1 false),
 zt 74 71 (.bin .lss t73 (zi 3)),
 zg 75 (.pick t71 t74 zF)] [1,5,8,9,10,11,22,23,24,75] [9,10,11,21]
 (.cond t75
 (.reg false [zp 76 11 0,
 zk 77 76 1,
 zg 78 (.ixa t9 t77 1 3),
 zk 79 78 1,
 zg 80 (.bin .add t79 (zi 1)),
 zg 81 (.ixa t9 t77 1 3),
 zn (.st t81 t80 1)] [1,5,8,9,10,22,23,24] [9,10,21])
 .skip)))
 (zr [zg 83 (.bin .eql t51 (zi 7)),
 zm 82 83] [1,5,8,9,10,22,23,24,82] [9,10,21]
 (.cond t82
 (zr [zl 84 10 3,
 zl 85 9 3,
 zg 86 (.eqa true [true,true,true] t84 t85)] [1,5,8,9,10,22,23,24,86] [9,10,21]
 (.cond t86
 (.reg false [zl 87 9 3,
 zn (.st t10 t87 3)] [1,5,8,9,10,22,23,24] [9,10,21])
 .skip))
 .skip))))))))
 (.reg true [zm 88 5,
 zm 89 5,
 zm 90 5,
 zm 91 5,
 zg 92 (.nck t91),
 zp 93 92 1,
 zg 94 (.ldl 21 t93 1 false),
 zm 95 8,
 zg 96 (.bsl 1 1 [zo] [(0,t95)]),
 zg 97 (.apo t94 t96 1 t24 1),
 zm 98 5,
 zg 99 (.nck t98),
 zp 100 99 2,
 zg 101 (.ldl 21 t100 1 false),
 zg 102 (.ldl 9 t9 3 true),
 zg 103 (.bsl 3 1 [zo,zo,zo] [(0,t102)]),
 zg 104 (.apo t101 t103 3 t24 1),
 zm 105 5,
 zg 106 (.nck t105),
 zp 107 106 3,
 zg 108 (.ldl 21 t107 1 false),
 zg 109 (.ldl 10 t10 3 true),
 zg 110 (.bsl 3 1 [zo,zo,zo] [(0,t109)]),
 zg 111 (.apo t108 t110 3 t24 1),
 zg 112 (.nck t88),
 zp 113 112 1,
 zn (.stl 21 t113 t97 1),
 zg 114 (.nck t89),
 zp 115 114 2,
 zn (.stl 21 t115 t104 1),
 zg 116 (.nck t90),
 zp 117 116 3,
 zn (.stl 21 t117 t111 1)] [1,5,22,23,24] [21])))))
 (.reg false [zg 118 (.bin .add t24 (zi 1)),
 zm 24 118] [1,5,22,23,24] [21])))))
def ir76:IFn:=
⟨(zr [zg 4 (.mov (.c (.p .nilp)))] [0,1] []
 (zr [zm 13 0,
 zg 14 (.callz 189 [t13]),
 zg 15 (.bsr 1 1 [zo] [(0,(zi 0))]),
 zg 16 (.bld [zo,zo,zo] []),
 zg 17 (.bsr 3 1 [zo,zo,zo] [(0,t16)]),
 zg 18 (.bld [zo,zo,zo] []),
 zg 19 (.bsr 3 1 [zo,zo,zo] [(0,t18)]),
 zg 20 (.bld [.nils,.nils,.nils,.nils] [(0,1,t14),(1,1,t15),(2,1,t17),(3,1,t19)]),
 zg 21 (.bx t20 4 true),
 zm 5 21] [0,1,5] [21]
 (.seq (zr [zm 22 0,
 zh 23 22,
 zg 24 (.mov (zi 0))] [1,5,22,23,24] [21]
 (.block 0 q08q))
 (.seq (.esc [21] (.reg false [zm 119 5,
 zm 4 119] [4] [21]))
 .ret)))),
 [.tmp 4],false⟩
def ir77:IFn:=
⟨(zr [zg 4 (.al [zo,zo,zo] true)] [0,1,4] [4]
 (zr [zm 7 0,
 zm 8 1,
 zc 9 202 [t7,t8],
 zm 6 9,
 zx 10 6 0,
 zx 11 6 1,
 zm 1 10,
 zm 5 11] [0,1,4,5] [4]
 (.seq (zr [zm 12 5,
 zj 13 12] [0,1,4,13] [4]
 (.cond t13
 (zr [zg 14 (.bld [zo,zo,zo] []),
 zn (.st t4 t14 3)] [4] [4]
 .ret)
 .skip))
 (zr [zm 15 0,
 zg 16 (.nck t15),
 zp 17 16 2,
 zk 18 17 1,
 zm 19 1,
 zg 20 (.ixs t18 t19 3),
 zl 21 20 3,
 zn (.st t4 t21 3)] [4] [4]
 .ret)))),
 [.cell 4 3 true],false⟩
def q0c1:IC:=
 (.loop [3,6,7,8] [] (zr [zg 9 (.bin .lss t8 t7)] [3,6,7,8,9] []
 (.seq (.cond t9
 .skip
 (.exit 0))
 (.seq (.block 1 (zr [zg 10 (.ixs t6 t8 2),
 zl 11 10 2,
 zg 5 (.al [.nils,.nils] true),
 zn (.st t5 t11 2)] [3,5,6,7,8] [5]
 (.reg false [zm 12 3,
 zp 13 5 0,
 zk 14 13 1,
 zh 15 14,
 zg 16 (.bin .add t12 t15),
 zm 3 16] [3,6,7,8] [])))
 (.reg false [zg 17 (.bin .add t8 (zi 1)),
 zm 8 17] [3,6,7,8] [])))))
def ir78:IFn:=
⟨(zr [zg 2 (.mov (zi 0))] [0] []
 (zr [zg 3 (.mov (zi 0))] [0,3] []
 (.seq (zr [zm 6 0,
 zh 7 6,
 zg 8 (.mov (zi 0))] [3,6,7,8] []
 (.block 0 q0c1))
 (zr [zm 18 3,
 zm 2 18] [2] []
 .ret)))),
 [.tmp 2],false⟩
def q0gc:IC:=
 (.loop [1,2,4] [1,2] (.seq (zr [zm 33 4,
 zp 34 1 19,
 zk 35 34 1,
 zh 36 35,
 zg 37 (.bin .lss t33 t36)] [1,2,4,37] [1,2]
 (.cond t37
 .skip
 (.exit 0)))
 (.seq (.block 1 (zr [zp 40 1 19,
 zk 41 40 1,
 zm 42 4,
 zg 43 (.ixs t41 t42 7),
 zl 44 43 7,
 zc 45 204 [t44],
 zj 46 45] [1,2,4,46] [1,2]
 (.cond t46
 (zr [zm 47 4,
 zg 48 (.bld [zo,zo] [(0,1,(zi 8)),(1,1,t47)]),
 zn (.st t2 t48 2)] [2] [2]
 .ret)
 .skip)))
 (.reg false [zm 38 4,
 zg 39 (.bin .add t38 (zi 1)),
 zm 4 39] [1,2,4] [1,2]))))
def q0gd:IC:=
 (.loop [1,2,5] [1,2] (.seq (zr [zm 49 5,
 zp 50 1 20,
 zk 51 50 1,
 zh 52 51,
 zg 53 (.bin .lss t49 t52)] [1,2,5,53] [1,2]
 (.cond t53
 .skip
 (.exit 2)))
 (.seq (.block 3 (zr [zp 56 1 20,
 zk 57 56 1,
 zm 58 5,
 zg 59 (.ixs t57 t58 2),
 zl 60 59 2,
 zc 61 205 [t60],
 zj 62 61] [1,2,5,62] [1,2]
 (.cond t62
 (zr [zm 63 5,
 zg 64 (.bld [zo,zo] [(0,1,(zi 9)),(1,1,t63)]),
 zn (.st t2 t64 2)] [2] [2]
 .ret)
 .skip)))
 (.reg false [zm 54 5,
 zg 55 (.bin .add t54 (zi 1)),
 zm 5 55] [1,2,5] [1,2]))))
def q0ge:IC:=
 (.loop [1,2,6] [1,2] (.seq (zr [zm 65 6,
 zp 66 1 21,
 zk 67 66 1,
 zh 68 67,
 zg 69 (.bin .lss t65 t68)] [1,2,6,69] [1,2]
 (.cond t69
 .skip
 (.exit 4)))
 (.seq (.block 5 (zr [zp 72 1 21,
 zk 73 72 1,
 zm 74 6,
 zg 75 (.ixs t73 t74 3),
 zl 76 75 3,
 zc 77 206 [t76],
 zj 78 77] [1,2,6,78] [1,2]
 (.cond t78
 (zr [zm 79 6,
 zg 80 (.bld [zo,zo] [(0,1,(zi 10)),(1,1,t79)]),
 zn (.st t2 t80 2)] [2] [2]
 .ret)
 .skip)))
 (.reg false [zm 70 6,
 zg 71 (.bin .add t70 (zi 1)),
 zm 6 71] [1,2,6] [1,2]))))
def q0gf:IC:=
 (.loop [2,9,10] [2,9] (.seq (zr [zm 112 10,
 zp 113 9 21,
 zk 114 113 1,
 zh 115 114,
 zg 116 (.bin .lss t112 t115)] [2,9,10,116] [2,9]
 (.cond t116
 .skip
 (.exit 6)))
 (.seq (.block 7 (.seq (.reg true [zp 119 9 21,
 zg 120 (.ldl 9 t119 1 false),
 zm 121 10,
 zg 122 (.ixs t120 t121 3),
 zp 123 122 1,
 zk 124 123 1,
 zp 125 9 0,
 zp 126 125 4,
 zg 127 (.ldl 9 t126 1 false),
 zg 128 (.bin .gtr t124 t127)] [2,9,10,128] [2,9])
 (.cond t128
 (zr [zm 129 10,
 zg 130 (.bld [zo,zo] [(0,1,(zi 12)),(1,1,t129)]),
 zn (.st t2 t130 2)] [2] [2]
 .ret)
 .skip)))
 (.reg false [zm 117 10,
 zg 118 (.bin .add t117 (zi 1)),
 zm 10 118] [2,9,10] [2,9]))))
def ir79:IFn:=
⟨(zr [zg 1 (.bx t0 22 true),
 zg 2 (.al [zo,zo] true)] [1,2] [1,2]
 (.seq (zr [zp 11 1 19,
 zk 12 11 1,
 zh 13 12,
 zg 14 (.bin .gtr t13 (zi 4096))] [1,2,14] [1,2]
 (.cond t14
 (zr [zg 15 (.bld [zo,zo] [(0,1,(zi 3))]),
 zn (.st t2 t15 2)] [2] [2]
 .ret)
 .skip))
 (.seq (zr [zp 16 1 21,
 zk 17 16 1,
 zh 18 17,
 zg 19 (.bin .gtr t18 (zi 256))] [1,2,19] [1,2]
 (.cond t19
 (zr [zg 20 (.bld [zo,zo] [(0,1,(zi 4))]),
 zn (.st t2 t20 2)] [2] [2]
 .ret)
 .skip))
 (.seq (zr [zp 21 1 20,
 zk 22 21 1,
 zh 23 22,
 zg 24 (.bin .gtr t23 (zi 512))] [1,2,24] [1,2]
 (.cond t24
 (zr [zg 25 (.bld [zo,zo] [(0,1,(zi 5))]),
 zn (.st t2 t25 2)] [2] [2]
 .ret)
 .skip))
 (.seq (zr [zp 26 1 0,
 zl 27 26 19,
 zc 28 203 [t27],
 zm 3 28] [1,2,3] [1,2]
 (zr [zm 29 3,
 zg 30 (.bin .neq t29 (zi 0))] [1,2,3,30] [1,2]
 (.cond t30
 (zr [zm 31 3,
 zg 32 (.bld [zo,zo] [(0,1,t31)]),
 zn (.st t2 t32 2)] [2] [2]
 .ret)
 .skip)))
 (.seq (zr [zg 4 (.mov (zi 0))] [1,2,4] [1,2]
 (.block 0 q0gc))
 (.seq (zr [zg 5 (.mov (zi 0))] [1,2,5] [1,2]
 (.block 2 q0gd))
 (.seq (zr [zg 6 (.mov (zi 0))] [1,2,6] [1,2]
 (.block 4 q0ge))
 (.seq (.reg true [zp 81 1 19,
 zg 82 (.ldl 1 t81 1 false),
 zp 83 1 20,
 zg 84 (.ldl 1 t83 1 false),
 zh 85 84,
 zc 86 207 [t82,(zi 5),t85],
 zp 87 1 19,
 zg 88 (.ldl 1 t87 1 false),
 zp 89 1 21,
 zg 90 (.ldl 1 t89 1 false),
 zh 91 90,
 zc 92 207 [t88,(zi 6),t91],
 zm 7 86,
 zm 8 92] [1,2,7,8] [1,2])
 (.seq (zr [zm 93 7,
 zg 94 (.bin .geq t93 (zi 0)),
 zm 95 94,
 zt 96 95 (.mov t8),
 zt 97 95 (.bin .lss t96 (zi 0)),
 zt 98 95 (.mov t97),
 zf 99 98 (.mov t7),
 zf 100 98 (.mov t8),
 zf 101 98 (.bin .leq t99 t100),
 zt 102 95 (.pick t98 zT t101),
 zg 103 (.pick t95 t102 zF)] [1,2,7,8,103] [1,2]
 (.cond t103
 (zr [zm 104 7,
 zg 105 (.bld [zo,zo] [(0,1,(zi 11)),(1,1,t104)]),
 zn (.st t2 t105 2)] [2] [2]
 .ret)
 .skip))
 (.seq (zr [zm 106 8,
 zg 107 (.bin .geq t106 (zi 0))] [1,2,8,107] [1,2]
 (.cond t107
 (zr [zm 108 8,
 zg 109 (.bld [zo,zo] [(0,1,(zi 11)),(1,1,t108)]),
 zn (.st t2 t109 2)] [2] [2]
 .ret)
 .skip))
 (zr [zl 110 1 22,
 zc 111 80 [t110],
 zg 9 (.al [zo,zo,zo,zo,zo,zo,zo,zo,zo,zo,zo,zo,zo,zo,zo,zo,zo,zo,.p (.bool false),.nils,.nils,.nils] true),
 zn (.st t9 t111 22)] [2,9] [2,9]
 (.seq (zr [zg 10 (.mov (zi 0))] [2,9,10] [2,9]
 (.block 6 q0gf))
 (zr [zg 131 (.bld [zo,zo] []),
 zn (.st t2 t131 2)] [2] [2]
 .ret)))))))))))))),
 [.cell 2 2 true],false⟩
def q0gg:IC:=
 (.loop [1,2,3,4,5] [1,2,4] (.seq (zr [zm 48 5,
 zp 49 1 19,
 zk 50 49 1,
 zh 51 50,
 zg 52 (.bin .lss t48 t51)] [1,2,3,4,5,52] [1,2,4]
 (.cond t52
 .skip
 (.exit 0)))
 (.seq (.block 1 (.reg true [zp 55 4 19,
 zg 56 (.ldl 4 t55 1 false),
 zp 57 1 19,
 zg 58 (.ldl 1 t57 1 false),
 zm 59 5,
 zg 60 (.ixs t58 t59 7),
 zl 61 60 7,
 zm 62 3,
 zc 63 210 [t61,t62],
 zg 64 (.bsl 7 1 [zo,zo,zo,zo,zo,zo,zo] [(0,t63)]),
 zg 65 (.app t56 t64 7),
 zp 66 4 19,
 zn (.stl 4 t66 t65 1)] [1,2,3,4,5] [1,2,4]))
 (.reg false [zm 53 5,
 zg 54 (.bin .add t53 (zi 1)),
 zm 5 54] [1,2,3,4,5] [1,2,4]))))
def q0gh:IC:=
 (.loop [1,2,3,4,6,7,8] [1,2,4,7] (.seq (zr [zm 81 8,
 zp 82 1 20,
 zk 83 82 1,
 zm 84 6,
 zg 85 (.ixs t83 t84 2),
 zp 86 85 0,
 zk 87 86 1,
 zh 88 87,
 zg 89 (.bin .lss t81 t88)] [1,2,3,4,6,7,8,89] [1,2,4,7]
 (.cond t89
 .skip
 (.exit 4)))
 (.seq (.block 5 (.reg true [zp 92 7 0,
 zg 93 (.ldl 7 t92 1 false),
 zp 94 1 20,
 zg 95 (.ldl 1 t94 1 false),
 zm 96 6,
 zg 97 (.ixs t95 t96 2),
 zp 98 97 0,
 zk 99 98 1,
 zm 100 8,
 zg 101 (.ixs t99 t100 1),
 zk 102 101 1,
 zm 103 3,
 zc 104 209 [t102,t103],
 zg 105 (.bsl 1 1 [zo] [(0,t104)]),
 zg 106 (.app t93 t105 1),
 zp 107 7 0,
 zn (.stl 7 t107 t106 1)] [1,2,3,4,6,7,8] [1,2,4,7]))
 (.reg false [zm 90 8,
 zg 91 (.bin .add t90 (zi 1)),
 zm 8 91] [1,2,3,4,6,7,8] [1,2,4,7]))))
def q06n:IC:=
 (.loop [1,2,3,4,6] [1,2,4] (.seq (zr [zm 67 6,
 zp 68 1 20,
 zk 69 68 1,
 zh 70 69,
 zg 71 (.bin .lss t67 t70)] [1,2,3,4,6,71] [1,2,4]
 (.cond t71
 .skip
 (.exit 2)))
 (.seq (.block 3 (zr [zp 74 1 20,
 zk 75 74 1,
 zm 76 6,
 zg 77 (.ixs t75 t76 2),
 zp 78 77 1,
 zk 79 78 1,
 zg 80 (.bld [.nils,.nils] [(1,1,t79)]),
 zg 7 (.al [.nils,.nils] true),
 zn (.st t7 t80 2)] [1,2,3,4,6,7] [1,2,4,7]
 (.seq (zr [zg 8 (.mov (zi 0))] [1,2,3,4,6,7,8] [1,2,4,7]
 (.block 4 q0gh))
 (.reg false [zp 108 4 20,
 zk 109 108 1,
 zl 110 7 2,
 zg 111 (.bsl 2 1 [.nils,.nils] [(0,t110)]),
 zg 112 (.app t109 t111 2),
 zp 113 4 20,
 zn (.st t113 t112 1)] [1,2,3,4,6] [1,2,4]))))
 (.reg false [zm 72 6,
 zg 73 (.bin .add t72 (zi 1)),
 zm 6 73] [1,2,3,4,6] [1,2,4]))))
def q0gi:IC:=
 (.loop [1,2,3,4,9] [1,2,4] (.seq (zr [zm 114 9,
 zp 115 1 21,
 zk 116 115 1,
 zh 117 116,
 zg 118 (.bin .lss t114 t117)] [1,2,3,4,9,118] [1,2,4]
 (.cond t118
 .skip
 (.exit 6)))
 (.seq (.block 7 (zr [zp 121 1 21,
 zk 122 121 1,
 zm 123 9,
 zg 124 (.ixs t122 t123 3),
 zl 125 124 3,
 zg 10 (.al [zo,zo,zo] true),
 zn (.st t10 t125 3)] [1,2,3,4,9,10] [1,2,4,10]
 (zr [zp 126 10 1,
 zk 127 126 1,
 zm 128 3,
 zc 129 209 [t127,t128],
 zp 130 10 1,
 zn (.st t130 t129 1)] [1,2,3,4,9,10] [1,2,4,10]
 (.reg false [zp 131 4 21,
 zk 132 131 1,
 zl 133 10 3,
 zg 134 (.bsl 3 1 [zo,zo,zo] [(0,t133)]),
 zg 135 (.app t132 t134 3),
 zp 136 4 21,
 zn (.st t136 t135 1)] [1,2,3,4,9] [1,2,4]))))
 (.reg false [zm 119 9,
 zg 120 (.bin .add t119 (zi 1)),
 zm 9 120] [1,2,3,4,9] [1,2,4]))))
def ir80:IFn:=
⟨(zr [zg 1 (.bx t0 22 true),
 zg 2 (.al [zo,zo,zo,zo,zo,zo,zo,zo,zo,zo,zo,zo,zo,zo,zo,zo,zo,zo,.p (.bool false),.nils,.nils,.nils] true)] [1,2] [1,2]
 (zr [zp 11 1 0,
 zp 12 11 5,
 zk 13 12 1,
 zm 3 13] [1,2,3] [1,2]
 (.seq (zr [zm 14 3,
 zg 15 (.bin .lss t14 (zi 1))] [1,2,3,15] [1,2]
 (.cond t15
 (zr [zl 16 1 22,
 zn (.st t2 t16 22)] [2] [2]
 .ret)
 .skip))
 (zr [zp 17 1 0,
 zl 18 17 19,
 zg 19 (.bld [zo,zo,zo,zo,zo,zo,zo,zo,zo,zo,zo,zo,zo,zo,zo,zo,zo,zo,.p (.bool false),.nils,.nils,.nils] [(0,19,t18)]),
 zg 4 (.al [zo,zo,zo,zo,zo,zo,zo,zo,zo,zo,zo,zo,zo,zo,zo,zo,zo,zo,.p (.bool false),.nils,.nils,.nils] true),
 zn (.st t4 t19 22)] [1,2,3,4] [1,2,4]
 (zr [zp 20 1 0,
 zp 21 20 3,
 zk 22 21 1,
 zm 23 3,
 zc 24 208 [t22,t23],
 zp 25 4 0,
 zp 26 25 3,
 zn (.st t26 t24 1)] [1,2,3,4] [1,2,4]
 (zr [zp 27 1 0,
 zp 28 27 4,
 zk 29 28 1,
 zm 30 3,
 zc 31 208 [t29,t30],
 zp 32 4 0,
 zp 33 32 4,
 zn (.st t33 t31 1)] [1,2,3,4] [1,2,4]
 (zr [zp 34 1 0,
 zp 35 34 6,
 zk 36 35 1,
 zm 37 3,
 zc 38 209 [t36,t37],
 zp 39 4 0,
 zp 40 39 6,
 zn (.st t40 t38 1)] [1,2,3,4] [1,2,4]
 (zr [zp 41 1 0,
 zp 42 41 7,
 zk 43 42 1,
 zm 44 3,
 zc 45 209 [t43,t44],
 zp 46 4 0,
 zp 47 46 7,
 zn (.st t47 t45 1)] [1,2,3,4] [1,2,4]
 (.seq (zr [zg 5 (.mov (zi 0))] [1,2,3,4,5] [1,2,4]
 (.block 0 q0gg))
 (.seq (zr [zg 6 (.mov (zi 0))] [1,2,3,4,6] [1,2,4]
 (.block 2 q06n))
 (.seq (zr [zg 9 (.mov (zi 0))] [1,2,3,4,9] [1,2,4]
 (.block 6 q0gi))
 (zr [zl 137 4 22,
 zn (.st t2 t137 22)] [2] [2]
 .ret)))))))))))),
 [.cell 2 22 true],false⟩
def ir81:IFn:=
⟨(zr [zg 2 (.mov (.c (.p .nilp)))] [0] []
 (zr [zm 3 0,
 zc 4 211 [t3],
 zc 5 212 [t4],
 zm 2 5] [2] []
 .ret)),
 [.tmp 2],false⟩
def ir82:IFn:=
⟨(zr [zg 2 (.mov (zi 0))] [0] []
 (.seq (zr [zm 3 0,
 zg 4 (.eqn .ptr false t3)] [0,4] []
 (.cond t4
 (zr [zg 2 (.mov (zi 0))] [2] []
 .ret)
 .skip))
 (zr [zm 5 0,
 zg 6 (.nck t5),
 zp 7 6 0,
 zk 8 7 1,
 zh 9 8,
 zm 2 9] [2] []
 .ret))),
 [.tmp 2],false⟩
def ir83:IFn:=
⟨(zr [zg 4 (.mov zF)] [0,1] []
 (zr [zm 5 0,
 zg 6 (.eqn .ptr true t5),
 zm 7 6,
 zt 8 7 (.mov t1),
 zt 9 7 (.bin .geq t8 (zi 0)),
 zg 10 (.pick t7 t9 zF),
 zm 11 10,
 zt 12 11 (.mov t1),
 zt 13 11 (.mov t0),
 zt 14 11 (.call 81 [t13] false),
 zt 15 11 (.call 82 [t14] false),
 zt 16 11 (.bin .leq t12 t15),
 zg 17 (.pick t11 t16 zF),
 zm 18 17,
 zt 19 18 (.mov t0),
 zt 20 18 (.call 81 [t19] false),
 zt 21 18 (.mov t1),
 zt 22 18 (.call 87 [t20,t21] false),
 zt 23 18 (.mov t1),
 zt 24 18 (.bin .eql t22 t23),
 zg 25 (.pick t18 t24 zF),
 zm 4 25] [4] []
 .ret)),
 [.tmp 4],false⟩
def q08r:IC:=
 (.loop [0,5,6,7] [] (.seq (zr [zm 14 7,
 zg 15 (.bin .gtr t14 (zi 0)),
 zm 16 15,
 zt 17 16 (.mov t7),
 zt 18 16 (.mov t6),
 zt 19 16 (.bin .leq t17 t18),
 zg 20 (.pick t16 t19 zF)] [0,5,6,7,20] []
 (.cond t20
 .skip
 (.exit 0)))
 (.seq (.block 1 (.reg false [zm 24 5,
 zm 25 7,
 zg 26 (.bsl 1 1 [zo] [(0,t25)]),
 zg 27 (.app t24 t26 1),
 zm 5 27] [0,5,6,7] []))
 (.reg false [zm 21 0,
 zm 22 7,
 zc 23 214 [t21,t22],
 zm 7 23] [0,5,6,7] []))))
def ir84:IFn:=
⟨(zr [zg 4 (.mov (.c (.nils)))] [0,1] []
 (zr [zg 5 (.nrow 1)] [0,1,5] []
 (zr [zm 8 0,
 zm 9 1,
 zc 10 213 [t8,t9],
 zm 6 10] [0,1,5,6] []
 (.seq (zr [zm 11 0,
 zm 12 1,
 zc 13 214 [t11,t12],
 zm 7 13] [0,5,6,7] []
 (.block 0 q08r))
 (zr [zm 28 5,
 zm 4 28] [4] []
 .ret))))),
 [.tmp 4],false⟩
def ir85:IFn:=
⟨(zr [zg 6 (.al [zo,zo] true),
 zg 7 (.mov zF)] [0,1,2,6] [6]
 (zr [zm 10 0,
 zc 11 100 [t10],
 zg 12 (.fldv t11 0 19 true),
 zg 8 (.al [zo,zo,zo,zo,zo,zo,zo,zo,zo,zo,zo,zo,zo,zo,zo,zo,zo,zo,.p (.bool false)] true),
 zn (.st t8 t12 19)] [0,1,2,6,8] [6,8]
 (.seq (.reg true [zm 13 0,
 zc 14 105 [t13],
 zm 15 1,
 zm 16 2,
 zc 17 139 [t14,t15,t16],
 zp 18 8 3,
 zg 19 (.ldl 8 t18 1 false),
 zc 20 138 [t17,t19,zF],
 zg 21 (.fldv t20 0 1 false),
 zg 22 (.bin .eql t21 (zi 3)),
 zm 9 22] [0,1,2,6,8,9] [6,8])
 (.seq (zr [zm 23 9,
 zm 24 23,
 zt 25 24 (.mov t2),
 zt 26 24 (.mov t0),
 zt 27 24 (.call 81 [t26] false),
 zt 28 24 (.mov t1),
 zt 29 24 (.call 214 [t27,t28] false),
 zt 30 24 (.bin .neq t25 t29),
 zg 31 (.pick t24 t30 zF)] [0,2,6,8,9,31] [6,8]
 (.cond t31
 (zr [zg 32 (.bld [zo,zo] []),
 zn (.st t6 t32 2),
 zg 7 (.mov zF)] [6,7] [6]
 .ret)
 .skip))
 (.seq (.reg true [zm 33 9,
 zg 34 (.ldl 8 t8 19 true),
 zm 35 0,
 zc 36 81 [t35],
 zm 37 2,
 zc 38 180 [t34,t36,t37],
 zg 39 (.bsl 1 1 [zo] [(0,t38)]),
 zc 40 185 [t33,t39],
 zn (.stl 6 t6 t40 2),
 zg 7 (.mov zT)] [6,7] [6])
 .ret))))),
 [.cell 6 2 true,.tmp 7],false⟩
def ir86:IFn:=
⟨(zr [zg 2 (.bx t0 2 true),
 zg 3 (.bx t1 2 true),
 zg 4 (.al [zo,zo] true)] [2,3,4] [2,3,4]
 (.seq (.reg true [zp 5 2 0,
 zg 6 (.ldl 2 t5 1 false),
 zp 7 3 0,
 zg 8 (.ldl 3 t7 1 false),
 zc 9 215 [t6,t8],
 zp 10 2 1,
 zg 11 (.ldl 2 t10 1 false),
 zp 12 3 1,
 zg 13 (.ldl 3 t12 1 false),
 zc 14 216 [t11,t13],
 zg 15 (.bld [zo,zo] [(0,1,t9),(1,1,t14)]),
 zn (.stl 4 t4 t15 2)] [4] [4])
 .ret)),
 [.cell 4 2 true],false⟩
def ir87:IFn:=
⟨(zr [zg 4 (.mov (zi 0))] [0,1] []
 (.seq (zr [zm 5 0,
 zg 6 (.eqn .ptr false t5)] [0,1,6] []
 (.cond t6
 (zr [zg 4 (.mov (zi 0))] [4] []
 .ret)
 .skip))
 (zr [zm 7 0,
 zm 8 1,
 zg 9 (.mnmx true t8 (zi 0)),
 zm 10 0,
 zc 11 82 [t10],
 zg 12 (.mnmx false t9 t11),
 zm 13 0,
 zg 14 (.mkf (.func 218) [t13] []),
 zc 15 217 [t7,t12,t14],
 zm 4 15] [4] []
 .ret))),
 [.tmp 4],false⟩
def ir88:IFn:=
⟨(zr [zg 2 (.mov (zi 0))] [0] []
 (zr [zm 3 0,
 zc 4 219 [t3,(.c (.p (.fn 220)))],
 zm 2 4] [2] []
 .ret)),
 [.tmp 2],false⟩
def ir89:IFn:=
⟨(zr [zg 4 (.mov zF)] [0,1] []
 (zr [zm 5 0,
 zm 6 1,
 zc 7 221 [t5,t6],
 zg 8 (.bin .geq t7 (zi 0)),
 zm 4 8] [4] []
 .ret)),
 [.tmp 4],false⟩
def q08s:IC:=
 (.loop [0,5] [] (.seq (zr [zm 11 5,
 zm 12 0,
 zh 13 12,
 zg 14 (.bin .lss t11 t13),
 zm 15 14,
 zt 16 15 (.mov t0),
 zt 17 15 (.mov t5),
 zt 18 15 (.ixs t16 t17 7),
 zt 19 15 (.ld t18 7 true),
 zt 20 15 (.call 222 [t19] false),
 zg 21 (.pick t15 t20 zF)] [0,5,21] []
 (.cond t21
 .skip
 (.exit 0)))
 (.block 1 (.reg false [zm 22 5,
 zg 23 (.bin .add t22 (zi 1)),
 zm 5 23] [0,5] []))))
def ir90:IFn:=
⟨(zr [zg 4 (.mov (zi 0))] [0,1] []
 (zr [zm 6 1,
 zm 7 0,
 zh 8 7,
 zg 9 (.mnmx false t6 t8),
 zg 10 (.mnmx true (zi 0) t9),
 zm 5 10] [0,5] []
 (.seq (.block 0 q08s)
 (zr [zm 24 5,
 zm 4 24] [4] []
 .ret)))),
 [.tmp 4],false⟩
def q08t:IC:=
 (.loop [0,1,5,6] [] (.seq (zr [zm 7 6,
 zm 8 0,
 zm 9 1,
 zc 10 223 [t8,t9],
 zg 11 (.bin .leq t7 t10)] [0,1,5,6,11] []
 (.cond t11
 .skip
 (.exit 0)))
 (.seq (.block 1 (zr [zm 14 6,
 zm 15 1,
 zg 16 (.mnmx true t15 (zi 0)),
 zg 17 (.bin .gtr t14 t16),
 zm 18 17,
 zt 19 18 (.mov t0),
 zt 20 18 (.mov t6),
 zt 21 18 (.call 170 [t19,t20] false),
 zg 22 (.pick t18 t21 zF)] [0,1,5,6,22] []
 (.cond t22
 (.reg false [zm 23 5,
 zm 24 6,
 zg 25 (.bsl 1 1 [zo] [(0,t24)]),
 zg 26 (.app t23 t25 1),
 zm 5 26] [0,1,5,6] [])
 .skip)))
 (.reg false [zm 12 6,
 zg 13 (.bin .add t12 (zi 1)),
 zm 6 13] [0,1,5,6] []))))
def ir91:IFn:=
⟨(zr [zg 4 (.mov (.c (.nils)))] [0,1] []
 (zr [zg 5 (.nrow 1)] [0,1,5] []
 (.seq (zr [zg 6 (.mov (zi 1))] [0,1,5,6] []
 (.block 0 q08t))
 (zr [zm 27 5,
 zm 4 27] [4] []
 .ret)))),
 [.tmp 4],false⟩
def ir92:IFn:=
⟨(zr [zg 3 (.bx t0 6 true),
 zg 6 (.al [zo,zo,zo,zo,zo] true)] [1,2,3,6] [3,6]
 (.seq (zr [zl 9 3 6,
 zm 10 1,
 zc 11 224 [t9,t10],
 zj 12 11] [1,2,3,6,12] [3,6]
 (.cond t12
 (zr [zg 13 (.bld [zo,zo,zo,zo,zo] []),
 zn (.st t6 t13 5)] [6] [6]
 .ret)
 .skip))
 (zr [zm 14 1,
 zp 15 3 0,
 zk 16 15 1,
 zg 17 (.bin .sub t14 t16),
 zm 7 17] [2,3,6,7] [3,6]
 (zr [zl 18 3 6,
 zc 19 225 [t18],
 zm 8 19] [2,3,6,7,8] [3,6]
 (.seq (zr [zm 20 7,
 zg 21 (.bin .eql t20 (zi 0))] [2,3,6,7,8,21] [3,6]
 (.cond t21
 (zr [zg 22 (.bld [zo,zo,zo,zo,zo] []),
 zn (.st t6 t22 5)] [6] [6]
 .ret)
 .skip))
 (.seq (zr [zm 23 7,
 zg 24 (.bin .gtr t23 (zi 0)),
 zm 25 24,
 zt 26 25 (.mov t8),
 zt 27 25 (.bin .gtr t26 (zi 0)),
 zt 28 25 (.mov t27),
 zf 29 28 (.off t3 1),
 zf 30 28 (.ixa t29 (zi 0) 1 4),
 zf 31 28 (.ld t30 1 false),
 zf 32 28 (.bin .gtr t31 (zi 0)),
 zf 33 28 (.mov t32),
 zt 34 33 (.mov t2),
 zt 35 33 (.un .not t34),
 zf 36 28 (.pick t33 t35 zF),
 zt 37 25 (.pick t28 zT t36),
 zg 38 (.pick t25 t37 zF)] [3,6,7,8,38] [3,6]
 (.cond t38
 (zr [zm 39 8,
 zm 40 7,
 zm 41 8,
 zp 42 3 1,
 zg 43 (.ixa t42 t41 1 4),
 zk 44 43 1,
 zg 45 (.bld [zo,zo,zo,zo,zo] [(0,1,(zi 1)),(1,1,t39),(2,1,t40),(3,1,t44)]),
 zn (.st t6 t45 5)] [6] [6]
 .ret)
 .skip))
 (.seq (zr [zm 46 7,
 zg 47 (.bin .gtr t46 (zi 0))] [3,6,7,47] [3,6]
 (.cond t47
 (zr [zm 48 7,
 zg 49 (.bld [zo,zo,zo,zo,zo] [(4,1,t48)]),
 zn (.st t6 t49 5)] [6] [6]
 .ret)
 .skip))
 (.seq (zr [zp 50 3 5,
 zk 51 50 1,
 zm 52 7,
 zg 53 (.un .neg t52),
 zg 54 (.bin .geq t51 t53)] [3,6,7,54] [3,6]
 (.cond t54
 (zr [zm 55 7,
 zg 56 (.un .neg t55),
 zp 57 3 5,
 zk 58 57 1,
 zg 59 (.bld [zo,zo,zo,zo,zo] [(0,1,(zi 2)),(2,1,t56),(3,1,t58)]),
 zn (.st t6 t59 5)] [6] [6]
 .ret)
 .skip))
 (zr [zp 60 3 5,
 zk 61 60 1,
 zp 62 3 5,
 zk 63 62 1,
 zm 64 7,
 zp 65 3 5,
 zk 66 65 1,
 zg 67 (.bin .add t64 t66),
 zg 68 (.bld [zo,zo,zo,zo,zo] [(0,1,(zi 3)),(2,1,t61),(3,1,t63),(4,1,t67)]),
 zn (.st t6 t68 5)] [6] [6]
 .ret))))))))),
 [.cell 6 5 true],false⟩
def q0gj:IC:=
 (.loop [0,1,2,6,7,8] [6,7] (.seq (zr [zm 9 8,
 zm 10 0,
 zh 11 10,
 zg 12 (.bin .lss t9 t11)] [0,1,2,6,7,8,12] [6,7]
 (.cond t12
 .skip
 (.exit 0)))
 (.seq (.block 1 (zr [zm 15 8,
 zm 16 1,
 zg 17 (.bin .geq t15 t16),
 zm 18 17,
 zt 19 18 (.mov t8),
 zt 20 18 (.mov t2),
 zt 21 18 (.bin .lss t19 t20),
 zg 22 (.pick t18 t21 zF)] [0,1,2,6,7,8,22] [6,7]
 (.cond t22
 (.reg true [zg 23 (.ldl 7 t7 6 true),
 zm 24 0,
 zm 25 8,
 zg 26 (.ixs t24 t25 7),
 zl 27 26 7,
 zc 28 227 [t27],
 zc 29 226 [t23,t28],
 zg 30 (.fldv t29 0 6 true),
 zn (.stl 7 t7 t30 6)] [0,1,2,6,7,8] [6,7])
 .skip)))
 (.reg false [zm 13 8,
 zg 14 (.bin .add t13 (zi 1)),
 zm 8 14] [0,1,2,6,7,8] [6,7]))))
def ir93:IFn:=
⟨(zr [zg 6 (.al [zo,zo,zo,zo,zo,zo] true)] [0,1,2,6] [6]
 (zr [zg 7 (.al [zo,zo,zo,zo,zo,zo] true)] [0,1,2,6,7] [6,7]
 (.seq (zr [zg 8 (.mov (zi 0))] [0,1,2,6,7,8] [6,7]
 (.block 0 q0gj))
 (zr [zl 31 7 6,
 zn (.st t6 t31 6)] [6] [6]
 .ret)))),
 [.cell 6 6 true],false⟩
def q08u:IC:=
 (.loop [0,1,5] [] (.seq (zr [zm 6 5,
 zm 7 0,
 zh 8 7,
 zg 9 (.bin .leq t6 t8)] [0,1,5,9] []
 (.cond t9
 .skip
 (.exit 0)))
 (.seq (.block 1 (zr [zm 12 5,
 zm 13 1,
 zg 14 (.mnmx true t13 (zi 0)),
 zg 15 (.bin .gtr t12 t14),
 zm 16 15,
 zt 17 16 (.mov t0),
 zt 18 16 (.mov t5),
 zt 19 16 (.call 170 [t17,t18] false),
 zg 20 (.pick t16 t19 zF)] [0,1,5,20] []
 (.cond t20
 (zr [zm 21 5,
 zm 4 21] [4] []
 .ret)
 .skip)))
 (.reg false [zm 10 5,
 zg 11 (.bin .add t10 (zi 1)),
 zm 5 11] [0,1,5] []))))
def ir94:IFn:=
⟨(zr [zg 4 (.mov (zi 0))] [0,1] []
 (.seq (zr [zg 5 (.mov (zi 1))] [0,1,5] []
 (.block 0 q08u))
 (zr [zg 4 (.mov (zi (-1)))] [4] []
 .ret))),
 [.tmp 4],false⟩
def q0gk:IC:=
 (.loop [1,4,5,6] [4,5] (.seq (zr [zm 9 6,
 zm 10 1,
 zh 11 10,
 zg 12 (.bin .lss t9 t11)] [1,4,5,6,12] [4,5]
 (.cond t12
 .skip
 (.exit 0)))
 (.seq (.block 1 (.reg true [zg 15 (.ldl 5 t5 2 true),
 zm 16 1,
 zm 17 6,
 zg 18 (.ixs t16 t17 1),
 zk 19 18 1,
 zg 20 (.bld [zo,zo] [(1,1,t19)]),
 zc 21 97 [t15,t20],
 zn (.stl 5 t5 t21 2)] [1,4,5,6] [4,5]))
 (.reg false [zm 13 6,
 zg 14 (.bin .add t13 (zi 1)),
 zm 6 14] [1,4,5,6] [4,5]))))
def ir95:IFn:=
⟨(zr [zg 4 (.al [zo,zo] true)] [0,1,4] [4]
 (zr [zg 5 (.al [zo,zo] true)] [0,1,4,5] [4,5]
 (.seq (zr [zm 7 0] [1,4,5,7] [4,5]
 (.cond t7
 (.reg false [zp 8 5 0,
 zn (.st t8 (zi 1) 1)] [1,4,5] [4,5])
 .skip))
 (.seq (zr [zg 6 (.mov (zi 0))] [1,4,5,6] [4,5]
 (.block 0 q0gk))
 (zr [zl 22 5 2,
 zn (.st t4 t22 2)] [4] [4]
 .ret))))),
 [.cell 4 2 true],false⟩
def ir96:IFn:=
⟨(zr [zg 3 (.bx t0 19 true),
 zg 6 (.mov (zi 0))] [1,2,3] [3]
 (.seq (zr [zm 8 1,
 zm 9 2,
 zc 10 170 [t8,t9],
 zj 11 10,
 zm 12 11,
 zf 13 12 (.mov t2),
 zf 14 12 (.mov t1),
 zf 15 12 (.len t14),
 zf 16 12 (.bin .eql t13 t15),
 zg 17 (.pick t12 zT t16),
 zm 18 17,
 zf 19 18 (.mov t1),
 zf 20 18 (.mov t2),
 zf 21 18 (.call 171 [t19,t20] false),
 zg 22 (.pick t18 zT t21)] [1,2,3,22] [3]
 (.cond t22
 (zr [zg 6 (.mov (zi 0))] [6] []
 .ret)
 .skip))
 (zr [zg 7 (.mov (zi 0))] [1,2,3,7] [3]
 (.seq (zr [zm 23 1,
 zm 24 2,
 zg 25 (.ixs t23 t24 7),
 zp 26 25 0,
 zk 27 26 1,
 zg 28 (.bin .eql t27 (zi 3)),
 zm 29 28,
 zt 30 29 (.mov t1),
 zt 31 29 (.mov t2),
 zt 32 29 (.ixs t30 t31 7),
 zt 33 29 (.off t32 6),
 zt 34 29 (.ld t33 1 false),
 zt 35 29 (.bin .gtr t34 (zi 0)),
 zg 36 (.pick t29 t35 zF)] [1,2,3,7,36] [3]
 (.cond t36
 (.reg false [zm 37 1,
 zm 38 2,
 zg 39 (.ixs t37 t38 7),
 zp 40 39 6,
 zk 41 40 1,
 zm 7 41] [1,2,3,7] [3])
 .skip))
 (.seq (zr [zm 42 1,
 zm 43 2,
 zc 44 172 [t42,t43]] [1,2,3,7,44] [3]
 (.cond t44
 (.reg false [zm 45 7,
 zp 46 3 13,
 zk 47 46 1,
 zg 48 (.mnmx true (zi 0) t47),
 zg 49 (.bin .add t45 t48),
 zm 7 49] [1,2,3,7] [3])
 .skip))
 (.seq (zr [zm 50 1,
 zm 51 2,
 zc 52 173 [t50,t51]] [3,7,52] [3]
 (.cond t52
 (.reg false [zm 53 7,
 zp 54 3 14,
 zk 55 54 1,
 zg 56 (.mnmx true (zi 0) t55),
 zg 57 (.bin .add t53 t56),
 zm 7 57] [7] [])
 .skip))
 (zr [zm 58 7,
 zm 6 58] [6] []
 .ret))))))),
 [.tmp 6],false⟩
def ir97:IFn:=
⟨(zr [zg 2 (.bx t0 2 true),
 zg 3 (.bx t1 2 true),
 zg 4 (.al [zo,zo] true)] [2,3,4] [2,3,4]
 (.seq (.reg true [zp 5 2 0,
 zg 6 (.ldl 2 t5 1 false),
 zc 7 228 [t6],
 zp 8 3 0,
 zg 9 (.ldl 3 t8 1 false),
 zc 10 228 [t9],
 zg 11 (.bin .add t7 t10),
 zc 12 228 [t11],
 zp 13 2 1,
 zg 14 (.ldl 2 t13 1 false),
 zc 15 228 [t14],
 zp 16 3 1,
 zg 17 (.ldl 3 t16 1 false),
 zc 18 228 [t17],
 zg 19 (.bin .add t15 t18),
 zc 20 228 [t19],
 zg 21 (.bld [zo,zo] [(0,1,t12),(1,1,t20)]),
 zn (.stl 4 t4 t21 2)] [4] [4])
 .ret)),
 [.cell 4 2 true],false⟩
def ir100:IFn:=
⟨(zr [zg 2 (.al [zo,zo,zo,zo,zo,zo,zo,zo,zo,zo,zo,zo,zo,zo,zo,zo,zo,zo,.p (.bool false),.nils,.nils,.nils] true)] [0,2] [2]
 (.seq (zr [zm 3 0,
 zg 4 (.eqn .ptr false t3)] [0,2,4] [2]
 (.cond t4
 (zr [zg 5 (.bld [zo,zo,zo,zo,zo,zo,zo,zo,zo,zo,zo,zo,zo,zo,zo,zo,zo,zo,.p (.bool false),.nils,.nils,.nils] []),
 zn (.st t2 t5 22)] [2] [2]
 .ret)
 .skip))
 (zr [zm 6 0,
 zg 7 (.nck t6),
 zp 8 7 1,
 zl 9 8 22,
 zn (.st t2 t9 22)] [2] [2]
 .ret))),
 [.cell 2 22 true],false⟩
def ir105:IFn:=
⟨(zr [zg 2 (.mov (.c (.p .nilp)))] [0] []
 (zr [zm 3 0,
 zc 4 211 [t3],
 zc 5 235 [t4],
 zm 2 5] [2] []
 .ret)),
 [.tmp 2],false⟩
def ir132:IFn:=
⟨(zr [zg 3 (.bx t1 7 true),
 zg 4 (.mov zF)] [0,3] [3]
 (.seq (.reg true [zm 7 0,
 zg 8 (.nck t7),
 zp 9 8 0,
 zk 10 9 1,
 zg 11 (.nck t10),
 zp 12 11 2,
 zk 13 12 1,
 zp 14 3 0,
 zg 15 (.ldl 3 t14 1 false),
 zc 16 254 [t13,t15],
 zm 5 16] [0,3,5] [3])
 (.seq (zr [zp 17 3 3,
 zk 18 17 1,
 zg 19 (.bin .eql t18 (zi 0))] [0,3,5,19] [3]
 (.cond t19
 (zr [zp 20 3 2,
 zk 21 20 1,
 zm 22 5,
 zg 23 (.bin .eql t21 t22),
 zm 4 23] [4] []
 .ret)
 .skip))
 (.seq (zr [zp 24 3 2,
 zk 25 24 1,
 zm 26 5,
 zg 27 (.bin .sub t26 (zi 1)),
 zg 28 (.bin .neq t25 t27),
 zm 29 28,
 zf 30 29 (.off t3 2),
 zf 31 29 (.ld t30 1 false),
 zf 32 29 (.bin .lss t31 (zi 0)),
 zg 33 (.pick t29 zT t32),
 zm 34 33,
 zf 35 34 (.off t3 3),
 zf 36 34 (.ld t35 1 false),
 zf 37 34 (.bin .lss t36 (zi 1)),
 zg 38 (.pick t34 zT t37)] [0,3,38] [3]
 (.cond t38
 (zr [zg 4 (.mov zF)] [4] []
 .ret)
 .skip))
 (.seq (.prep [6] (.reg true [zm 39 0,
 zg 40 (.nck t39),
 zp 41 40 1,
 zp 42 41 20,
 zk 43 42 1,
 zp 44 3 2,
 zg 45 (.ldl 3 t44 1 false),
 zg 46 (.ixs t43 t45 2),
 zl 47 46 2,
 zg 6 (.alp [.nils,.nils]),
 zn (.stl 6 t6 t47 2)] [3,6] [3,6]))
 (zr [zp 48 3 3,
 zk 49 48 1,
 zp 50 6 0,
 zk 51 50 1,
 zh 52 51,
 zg 53 (.bin .lss t49 t52),
 zm 54 53,
 zt 55 54 (.ld t6 2 true),
 zt 56 54 (.off t3 3),
 zt 57 54 (.ld t56 1 false),
 zt 58 54 (.call 284 [t55,t57] false),
 zg 59 (.pick t54 t58 zF),
 zm 4 59] [4] []
 .ret)))))),
 [.tmp 4],false⟩
def q0uf:IC:=
 (.loop [3,7,8] [3] (zr [zg 9 (.bin .lss t8 (zi 3))] [3,7,8,9] [3]
 (.seq (.cond t9
 .skip
 (.exit 0))
 (.seq (.block 1 (zr [zm 10 8,
 zg 11 (.ixv t7 t8 1 3 false),
 zm 5 10,
 zm 6 11] [3,5,6,7,8] [3]
 (zr [zm 12 6,
 zm 13 5,
 zg 14 (.ixa t3 t13 1 3),
 zk 15 14 1,
 zg 16 (.bin .gtr t12 t15)] [3,7,8,16] [3]
 (.cond t16
 (zr [zg 4 (.mov zF)] [4] []
 .ret)
 .skip))))
 (.reg false [zg 17 (.bin .add t8 (zi 1)),
 zm 8 17] [3,7,8] [3])))))
def ir133:IFn:=
⟨(zr [zg 2 (.bx t0 3 true),
 zg 3 (.bx t1 3 true),
 zg 4 (.mov zF)] [2,3] [2,3]
 (.seq (zr [zl 7 2 3,
 zg 8 (.mov (zi 0))] [3,7,8] [3]
 (.block 0 q0uf))
 (zr [zg 4 (.mov zT)] [4] []
 .ret))),
 [.tmp 4],false⟩
def ir138:IFn:=
⟨(zr [zg 3 (.bx t0 6 true),
 zg 6 (.al [zo,zo,zo,zo,zo] true)] [1,2,3,6] [3,6]
 (.seq (zr [zl 9 3 6,
 zm 10 1,
 zc 11 288 [t9,t10],
 zj 12 11] [1,2,3,6,12] [3,6]
 (.cond t12
 (zr [zg 13 (.bld [zo,zo,zo,zo,zo] []),
 zn (.st t6 t13 5)] [6] [6]
 .ret)
 .skip))
 (.seq (.reg true [zm 14 1,
 zp 15 3 0,
 zg 16 (.ldl 3 t15 1 false),
 zg 17 (.bin .sub t14 t16),
 zg 18 (.ldl 3 t3 6 true),
 zc 19 289 [t18],
 zm 7 17,
 zm 8 19] [2,3,6,7,8] [3,6])
 (.seq (.block 0 (zr [zm 21 7,
 zg 22 (.bin .eql t21 (zi 0)),
 zm 20 22] [2,3,6,7,8,20] [3,6]
 (.cond t20
 (zr [zg 23 (.bld [zo,zo,zo,zo,zo] []),
 zn (.st t6 t23 5)] [6] [6]
 .ret)
 (zr [zm 25 7,
 zg 26 (.bin .gtr t25 (zi 0)),
 zm 27 26,
 zt 28 27 (.mov t8),
 zt 29 27 (.off t3 1),
 zt 30 27 (.ixa t29 t28 1 4),
 zt 31 27 (.ld t30 1 false),
 zt 32 27 (.bin .gtr t31 (zi 0)),
 zg 33 (.pick t27 t32 zF),
 zm 34 33,
 zt 35 34 (.mov t2),
 zt 36 34 (.mov t35),
 zt 37 36 (.mov t8),
 zt 38 36 (.bin .eql t37 (zi 0)),
 zt 39 34 (.pick t36 t38 zF),
 zt 40 34 (.un .not t39),
 zg 41 (.pick t34 t40 zF),
 zm 24 41] [3,6,7,8,24] [3,6]
 (.cond t24
 (zr [zm 42 8,
 zm 43 7,
 zm 44 8,
 zp 45 3 1,
 zg 46 (.ixa t45 t44 1 4),
 zk 47 46 1,
 zg 48 (.bld [zo,zo,zo,zo,zo] [(0,1,(zi 1)),(1,1,t42),(2,1,t43),(3,1,t47)]),
 zn (.st t6 t48 5)] [6] [6]
 .ret)
 (zr [zm 50 7,
 zg 51 (.bin .gtr t50 (zi 0)),
 zm 49 51] [3,6,7,49] [3,6]
 (.cond t49
 (zr [zm 52 7,
 zg 53 (.bld [zo,zo,zo,zo,zo] [(4,1,t52)]),
 zn (.st t6 t53 5)] [6] [6]
 .ret)
 (zr [zp 55 3 5,
 zk 56 55 1,
 zm 57 7,
 zg 58 (.bin .add t56 t57),
 zg 59 (.bin .geq t58 (zi 0)),
 zm 54 59] [3,6,7,54] [3,6]
 (.cond t54
 (zr [zm 60 7,
 zg 61 (.un .neg t60),
 zp 62 3 5,
 zk 63 62 1,
 zg 64 (.bld [zo,zo,zo,zo,zo] [(0,1,(zi 2)),(2,1,t61),(3,1,t63)]),
 zn (.st t6 t64 5)] [6] [6]
 .ret)
 .skip)))))))))
 (zr [zp 65 3 5,
 zk 66 65 1,
 zp 67 3 5,
 zk 68 67 1,
 zp 69 3 5,
 zk 70 69 1,
 zm 71 7,
 zg 72 (.bin .add t70 t71),
 zg 73 (.bld [zo,zo,zo,zo,zo] [(0,1,(zi 3)),(2,1,t66),(3,1,t68),(4,1,t72)]),
 zn (.st t6 t73 5)] [6] [6]
 .ret))))),
 [.cell 6 5 true],false⟩
def ir139:IFn:=
⟨(zr [zg 6 (.al [zo,zo,zo,zo,zo,zo] true)] [0,1,2,6] [6]
 (zr [zm 11 0,
 zm 12 1,
 zm 13 2,
 zc 14 236 [t11,t12,t13],
 zm 10 14,
 zx 15 10 0,
 zx 16 10 1,
 zx 17 10 2,
 zm 1 15,
 zm 2 16,
 zm 7 17] [0,1,2,6,7] [6]
 (.seq (zr [zm 18 7,
 zj 19 18] [0,1,2,6,19] [6]
 (.cond t19
 (zr [zg 20 (.bld [zo,zo,zo,zo,zo,zo] []),
 zn (.st t6 t20 6)] [6] [6]
 .ret)
 .skip))
 (.seq (.prep [8] (.reg true [zm 22 0,
 zg 23 (.nck t22),
 zp 24 23 1,
 zk 25 24 1,
 zm 26 2,
 zg 27 (.ixs t25 t26 6),
 zl 28 27 6,
 zm 29 0,
 zg 30 (.nck t29),
 zp 31 30 1,
 zk 32 31 1,
 zm 33 1,
 zg 34 (.ixs t32 t33 6),
 zl 35 34 6,
 zc 36 290 [t28,t35],
 zm 21 36,
 zx 37 21 0,
 zx 38 21 1,
 zg 8 (.alp [zo,zo,zo,zo,zo,zo]),
 zn (.stl 8 t8 t37 6),
 zm 9 38] [6,8] [6,8]))
 (zr [zl 39 8 6,
 zn (.st t6 t39 6)] [6] [6]
 .ret))))),
 [.cell 6 6 true],false⟩
def ir170:IFn:=
⟨(zr [zg 4 (.mov zF)] [0,1] []
 (.seq (zr [zm 5 1,
 zg 6 (.bin .lss t5 (zi 1)),
 zm 7 6,
 zf 8 7 (.mov t1),
 zf 9 7 (.mov t0),
 zf 10 7 (.len t9),
 zf 11 7 (.bin .gtr t8 t10),
 zg 12 (.pick t7 zT t11)] [0,1,12] []
 (.cond t12
 (zr [zg 4 (.mov zF)] [4] []
 .ret)
 .skip))
 (.seq (zr [zm 13 1,
 zm 14 0,
 zh 15 14,
 zg 16 (.bin .eql t13 t15)] [0,1,16] []
 (.cond t16
 (zr [zg 4 (.mov zT)] [4] []
 .ret)
 .skip))
 (.seq (zr [zm 17 0,
 zm 18 1,
 zg 19 (.ixs t17 t18 7),
 zp 20 19 0,
 zk 21 20 1,
 zg 22 (.bin .eql t21 (zi 2))] [0,1,22] []
 (.cond t22
 (zr [zm 23 0,
 zm 24 1,
 zg 25 (.bin .sub t24 (zi 1)),
 zg 26 (.ixs t23 t25 7),
 zl 27 26 7,
 zc 28 222 [t27],
 zj 29 28,
 zm 4 29] [4] []
 .ret)
 .skip))
 (zr [zm 30 0,
 zm 31 1,
 zg 32 (.ixs t30 t31 7),
 zp 33 32 0,
 zk 34 33 1,
 zg 35 (.bin .eql t34 (zi 3)),
 zm 36 35,
 zt 37 36 (.mov t0),
 zt 38 36 (.mov t1),
 zt 39 36 (.ixs t37 t38 7),
 zt 40 36 (.off t39 6),
 zt 41 36 (.ld t40 1 false),
 zt 42 36 (.bin .lss t41 (zi 10000)),
 zg 43 (.pick t36 t42 zF),
 zm 4 43] [4] []
 .ret))))),
 [.tmp 4],false⟩
def ir171:IFn:=
⟨(zr [zg 4 (.mov zF)] [0,1] []
 (zr [zm 5 1,
 zg 6 (.bin .geq t5 (zi 1)),
 zm 7 6,
 zt 8 7 (.mov t1),
 zt 9 7 (.mov t0),
 zt 10 7 (.len t9),
 zt 11 7 (.bin .lss t8 t10),
 zg 12 (.pick t7 t11 zF),
 zm 13 12,
 zt 14 13 (.mov t0),
 zt 15 13 (.mov t1),
 zt 16 13 (.ixs t14 t15 7),
 zt 17 13 (.off t16 0),
 zt 18 13 (.ld t17 1 false),
 zt 19 13 (.bin .eql t18 (zi 3)),
 zg 20 (.pick t13 t19 zF),
 zm 21 20,
 zt 22 21 (.mov t0),
 zt 23 21 (.mov t1),
 zt 24 21 (.ixs t22 t23 7),
 zt 25 21 (.off t24 6),
 zt 26 21 (.ld t25 1 false),
 zt 27 21 (.bin .leq t26 (zi (-10000))),
 zg 28 (.pick t21 t27 zF),
 zm 4 28] [4] []
 .ret)),
 [.tmp 4],false⟩
def ir172:IFn:=
⟨(zr [zg 4 (.mov zF)] [0,1] []
 (zr [zm 6 0,
 zm 7 1,
 zc 8 325 [t6,t7],
 zm 5 8] [0,5] []
 (zr [zm 9 5,
 zg 10 (.bin .geq t9 (zi 0)),
 zm 11 10,
 zt 12 11 (.mov t0),
 zt 13 11 (.mov t5),
 zt 14 11 (.ixs t12 t13 7),
 zt 15 11 (.off t14 2),
 zt 16 11 (.ld t15 1 false),
 zt 17 11 (.bin .eql t16 (zi 1)),
 zg 18 (.pick t11 t17 zF),
 zm 4 18] [4] []
 .ret))),
 [.tmp 4],false⟩
def ir173:IFn:=
⟨(zr [zg 4 (.mov zF)] [0,1] []
 (zr [zm 6 0,
 zm 7 1,
 zc 8 326 [t6,t7],
 zm 5 8] [0,5] []
 (zr [zm 9 5,
 zg 10 (.bin .geq t9 (zi 0)),
 zm 11 10,
 zt 12 11 (.mov t0),
 zt 13 11 (.mov t5),
 zt 14 11 (.ixs t12 t13 7),
 zt 15 11 (.off t14 2),
 zt 16 11 (.ld t15 1 false),
 zt 17 11 (.bin .eql t16 (zi 2)),
 zg 18 (.pick t11 t17 zF),
 zm 4 18] [4] []
 .ret))),
 [.tmp 4],false⟩
def ir175:IFn:=
⟨(zr [zg 3 (.bx t1 2 true)] [0,3] [3]
 (zr [zm 4 0,
 zg 5 (.eqn .ptr true t4)] [0,3,5] [3]
 (.cond t5
 (.reg true [zm 6 0,
 zm 7 0,
 zg 8 (.nck t7),
 zp 9 8 0,
 zl 10 9 2,
 zg 11 (.ldl 3 t3 2 true),
 zc 12 86 [t10,t11],
 zg 13 (.nck t6),
 zp 14 13 0,
 zn (.st t14 t12 2)] [] [])
 .skip))),
 [],false⟩
def ir177:IFn:=
⟨(zr [zg 2 (.al [zo,zo] true)] [0,2] [2]
 (.seq (zr [zm 3 0,
 zg 4 (.eqn .ptr false t3)] [0,2,4] [2]
 (.cond t4
 (zr [zg 5 (.bld [zo,zo] []),
 zn (.st t2 t5 2)] [2] [2]
 .ret)
 .skip))
 (zr [zm 6 0,
 zg 7 (.nck t6),
 zp 8 7 0,
 zl 9 8 2,
 zn (.st t2 t9 2)] [2] [2]
 .ret))),
 [.cell 2 2 true],false⟩
def ir180:IFn:=
⟨(zr [zg 3 (.bx t0 19 true),
 zg 6 (.mov (zi 0))] [1,2,3] [3]
 (zr [zm 11 1,
 zm 12 2,
 zc 13 286 [t11,t12],
 zm 10 13,
 zx 14 10 0,
 zx 15 10 1,
 zg 7 (.al [zo,zo,zo,zo,zo,zo,zo] true),
 zn (.st t7 t14 7),
 zm 8 15] [1,2,3,7,8] [3,7]
 (.seq (zr [zm 16 8,
 zj 17 16,
 zm 18 17,
 zf 19 18 (.mov t1),
 zf 20 18 (.mov t2),
 zf 21 18 (.call 316 [t19,t20] false),
 zf 22 18 (.un .not t21),
 zg 23 (.pick t18 zT t22),
 zm 24 23,
 zf 25 24 (.ld t7 7 true),
 zf 26 24 (.call 287 [t25] false),
 zg 27 (.pick t24 zT t26)] [1,2,3,7,27] [3,7]
 (.cond t27
 (zr [zg 6 (.mov (zi 0))] [6] []
 .ret)
 .skip))
 (zr [zg 9 (.mov (zi 0))] [1,2,3,7,9] [3,7]
 (.seq (zr [zp 28 7 0,
 zk 29 28 1,
 zg 30 (.bin .eql t29 (zi 3))] [1,2,3,7,9,30] [3,7]
 (.cond t30
 (.reg false [zp 31 7 6,
 zk 32 31 1,
 zg 33 (.mnmx true t32 (zi 0)),
 zm 9 33] [1,2,3,9] [3])
 .skip))
 (.seq (zr [zm 34 1,
 zm 35 2,
 zc 36 317 [t34,t35]] [1,2,3,9,36] [3]
 (.cond t36
 (.reg false [zm 37 9,
 zp 38 3 13,
 zk 39 38 1,
 zg 40 (.mnmx true t39 (zi 0)),
 zg 41 (.bin .add t37 t40),
 zm 9 41] [1,2,3,9] [3])
 .skip))
 (.seq (zr [zm 42 1,
 zm 43 2,
 zc 44 318 [t42,t43]] [3,9,44] [3]
 (.cond t44
 (.reg false [zm 45 9,
 zp 46 3 14,
 zk 47 46 1,
 zg 48 (.mnmx true t47 (zi 0)),
 zg 49 (.bin .add t45 t48),
 zm 9 49] [9] [])
 .skip))
 (zr [zm 50 9,
 zm 6 50] [6] []
 .ret)))))))),
 [.tmp 6],false⟩
end Go.EnvOf
