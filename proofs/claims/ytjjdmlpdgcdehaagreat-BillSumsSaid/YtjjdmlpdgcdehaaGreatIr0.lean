/- The engine's instructions for the functions, part 0. -/
import Derived.Test.YtjjdmlpdgcdehaaGreatIrT
import Derived.Test.YtjjdmlpdgcdehaaGreatEngAll2
namespace Go.EnvOf
open Go Go.Eng
set_option maxRecDepth 100000
def q16j:IC:=
 (.loop [0,3,4] [] (.seq (zr [zm 10 4,
 zm 11 0,
 zh 12 11,
 zg 13 (.bin .lss t10 t12)] [0,3,4,13] []
 (.cond t13
 .skip
 (.exit 0)))
 (.seq (.block 1 (.reg false [zm 16 3,
 zm 17 0,
 zm 18 4,
 zg 19 (.ixs t17 t18 9),
 zl 20 19 9,
 zc 21 43 [t20],
 zg 22 (.bsl 9 1 [.p (.bool false),zo,zo,zo,zo,zo,zo,zo,zo] [(0,t21)]),
 zg 23 (.app t16 t22 9),
 zm 3 23] [0,3,4] []))
 (.reg false [zm 14 4,
 zg 15 (.bin .add t14 (zi 1)),
 zm 4 15] [0,3,4] []))))
def ir10:IFn:=
⟨(zr [zg 2 (.mov zF)] [0] []
 (.seq (zr [zm 6 0,
 zh 7 6,
 zg 8 (.bin .gtr t7 (zi 60))] [0,8] []
 (.cond t8
 (zr [zc 9 40 [],
 zm 2 9] [2] []
 .ret)
 .skip))
 (zr [zg 3 (.nrow 9)] [0,3] []
 (.seq (zr [zg 4 (.mov (zi 0))] [0,3,4] []
 (.block 0 q16j))
 (zr [zm 24 0,
 zc 25 47 [t24],
 zm 5 25] [0,3,5] []
 (.seq (zr [zm 26 5,
 zm 27 3,
 zc 28 48 [t27],
 zg 29 (.bin .neq t26 t28),
 zm 30 29,
 zf 31 30 (.mov t0),
 zf 32 30 (.call 45 [t31] false),
 zf 33 30 (.mov t3),
 zf 34 30 (.call 49 [t33] false),
 zf 35 30 (.eqa true [true,true] t32 t34),
 zg 36 (.pick t30 zT t35)] [0,5,36] []
 (.cond t36
 (zr [zg 2 (.mov zF)] [2] []
 .ret)
 .skip))
 (.seq (.reg true [zm 37 5,
 zg 38 (.bin .lss t37 (zi 0)),
 zm 39 38,
 zf 40 39 (.mov t0),
 zf 41 39 (.mov t5),
 zf 42 39 (.mov t5),
 zf 43 39 (.bin .add t42 (zi 1)),
 zf 44 39 (.slc t40 (some t41) (some t43) 9),
 zf 45 39 (.call 45 [t44] true),
 zf 46 39 (.mov t0),
 zf 47 39 (.slc t46 none (some (zi 1)) 9),
 zf 48 39 (.call 45 [t47] false),
 zf 49 39 (.call 50 [t45,t48] false),
 zf 50 39 (.bin .geq t49 (zi 0)),
 zg 51 (.pick t39 zT t50),
 zm 52 51,
 zt 53 52 (.call 40 [] false),
 zg 54 (.pick t52 t53 zF),
 zm 2 54] [2] [])
 .ret))))))),
 [.tmp 2],false⟩
def q0U8:IC:=
 (.loop [1,6,53,54] [1,35] (zr [zg 55 (.bin .lss t54 t53)] [1,6,53,54,55] [1,35]
 (.seq (.cond t55
 .skip
 (.exit 0))
 (.seq (.block 1 (zr [zm 56 54,
 zm 7 56] [1,6,7,53,54] [1,35]
 (.reg true [zm 57 6,
 zm 58 6,
 zg 59 (.nck t58),
 zp 60 59 23,
 zg 61 (.ldl 35 t60 1 false),
 zp 62 1 20,
 zg 63 (.ldl 1 t62 1 false),
 zm 64 7,
 zg 65 (.slc t63 none (some t64) 2),
 zc 66 59 [t65],
 zg 67 (.bsl 1 1 [zo] [(0,t66)]),
 zg 68 (.app t61 t67 1),
 zg 69 (.nck t57),
 zp 70 69 23,
 zn (.stl 35 t70 t68 1)] [1,6,53,54] [1,35])))
 (.reg false [zg 71 (.bin .add t54 (zi 1)),
 zm 54 71] [1,6,53,54] [1,35])))))
def ir14:IFn:=
⟨(zr [zg 1 (.bx t0 22 true),
 zg 2 (.mov (.c (.p .nilp))),
 zg 3 (.mov zF)] [1] [1]
 (.seq (zr [zl 8 1 22,
 zc 9 52 [t8],
 zj 10 9] [1,10] [1]
 (.cond t10
 (zr [zg 2 (.mov (.c (.p .nilp))),
 zg 3 (.mov zF)] [2,3] [35]
 .ret)
 .skip))
 (zr [zl 11 1 22,
 zc 12 54 [t11],
 zc 13 53 [t12],
 zn (.st t1 t13 22)] [1] [1]
 (zr [zp 15 1 19,
 zk 16 15 1,
 zg 17 (.callz 55 [t16]),
 zm 14 17,
 zx 18 14 0,
 zx 19 14 1,
 zm 4 18,
 zm 5 19] [1,4,5] [1]
 (.seq (zr [zm 20 5,
 zj 21 20] [1,4,21] [1]
 (.cond t21
 (zr [zg 2 (.mov (.c (.p .nilp))),
 zg 3 (.mov zF)] [2,3] [35]
 .ret)
 .skip))
 (.seq (.prep [35] (.reg true [zp 22 1 19,
 zg 23 (.ldl 1 t22 1 false),
 zg 24 (.callz 56 [t23]),
 zm 25 4,
 zp 26 1 19,
 zg 27 (.ldl 1 t26 1 false),
 zp 28 1 21,
 zg 29 (.ldl 1 t28 1 false),
 zg 30 (.callz 57 [t27,t29]),
 zg 31 (.bld [.p .nilp,.p .nilp,.p .nilp] [(0,1,t24),(1,1,t25),(2,1,t30)]),
 zg 32 (.bx t31 3 false),
 zg 33 (.ldl 1 t1 22 true),
 zg 34 (.bld [.p .nilp,zo,zo,zo,zo,zo,zo,zo,zo,zo,zo,zo,zo,zo,zo,zo,zo,zo,zo,.p (.bool false),.nils,.nils,.nils,.nils,zo,zo,zo] [(0,1,t32),(1,22,t33)]),
 zg 35 (.bxp t34 27),
 zm 6 35] [1,6] [1,35]))
 (.seq (.reg true [zm 36 6,
 zm 37 6,
 zg 38 (.nck t37),
 zp 39 38 0,
 zg 40 (.ldl 35 t39 1 false),
 zg 41 (.nck t40),
 zp 42 41 2,
 zk 43 42 1,
 zp 44 1 19,
 zg 45 (.ldl 1 t44 1 false),
 zh 46 45,
 zc 47 58 [t43,t46],
 zg 48 (.nck t36),
 zp 49 48 24,
 zn (.stl 35 t49 t47 3)] [1,6] [1,35])
 (.seq (zr [zp 50 1 20,
 zk 51 50 1,
 zh 52 51,
 zg 53 (.bin .add t52 (zi 1)),
 zg 54 (.mov (zi 0))] [1,6,53,54] [1,35]
 (.block 0 q0U8))
 (.seq (.esc [35] (.reg false [zm 72 6,
 zm 2 72,
 zg 3 (.mov zT)] [2,3] [35]))
 .ret))))))))),
 [.tmp 2,.tmp 3],false⟩
def ir20:IFn:=
⟨(zr [zg 2 (.bx t0 2 true),
 zg 3 (.bx t1 2 true),
 zg 4 (.al [zo,zo] true)] [2,3,4] [2,3,4]
 (.seq (.reg true [zp 5 2 0,
 zg 6 (.ldl 2 t5 1 false),
 zc 7 67 [t6],
 zp 8 3 0,
 zg 9 (.ldl 3 t8 1 false),
 zc 10 67 [t9],
 zg 11 (.bin .add t7 t10),
 zc 12 67 [t11],
 zp 13 2 1,
 zg 14 (.ldl 2 t13 1 false),
 zc 15 67 [t14],
 zp 16 3 1,
 zg 17 (.ldl 3 t16 1 false),
 zc 18 67 [t17],
 zg 19 (.bin .add t15 t18),
 zc 20 67 [t19],
 zg 21 (.bld [zo,zo] [(0,1,t12),(1,1,t20)]),
 zn (.stl 4 t4 t21 2)] [4] [4])
 .ret)),
 [.cell 4 2 true],false⟩
def q0Vi:IC:=
 (.loop [0,4,5,9,47,48,49] [4,5,9] (zr [zg 50 (.bin .lss t49 t48)] [0,4,5,9,47,48,49,50] [4,5,9]
 (.seq (.cond t50
 .skip
 (.exit 0))
 (.seq (.block 1 (zr [zg 51 (.ixs t47 t49 2),
 zl 52 51 2,
 zg 11 (.al [zo,.p .nilf] true),
 zn (.st t11 t52 2)] [0,4,5,9,11,47,48,49] [4,5,9,11]
 (zr [zp 53 11 1,
 zk 54 53 1,
 zl 55 9 36,
 zg 56 (.callv t54 [t55] false)] [0,4,5,9,11,47,48,49,56] [4,5,9,11]
 (.cond t56
 (zr [zp 57 11 0,
 zk 58 57 1,
 zm 6 58] [6] []
 .ret)
 .skip))))
 (.reg false [zg 59 (.bin .add t49 (zi 1)),
 zm 49 59] [0,4,5,9,47,48,49] [4,5,9])))))
def ir33:IFn:=
⟨(zr [zg 4 (.bx t1 7 true),
 zg 5 (.bx t2 6 true),
 zg 6 (.mov (zi 0))] [0,4,5] [4,5]
 (.seq (.reg true [zc 15 88 [],
 zp 16 5 0,
 zg 17 (.ldl 5 t16 1 false),
 zg 18 (.mp (.lk none (.nils) true) [t15,t17]),
 zm 14 18,
 zx 19 14 0,
 zx 20 14 1,
 zm 7 19,
 zm 8 20] [0,4,5,7,8] [4,5])
 (.seq (zr [zm 21 8,
 zj 22 21,
 zm 23 22,
 zf 24 23 (.mov t0),
 zf 25 23 (.ld t4 7 true),
 zf 26 23 (.call 89 [t24,t25] false),
 zf 27 23 (.un .not t26),
 zg 28 (.pick t23 zT t27),
 zm 29 28,
 zf 30 29 (.mov t0),
 zf 31 29 (.ld t4 7 true),
 zf 32 29 (.call 64 [t30,t31] false),
 zg 33 (.pick t29 zT t32),
 zm 34 33,
 zf 35 34 (.off t5 1),
 zf 36 34 (.ld t35 1 false),
 zf 37 34 (.off t4 0),
 zf 38 34 (.ld t37 1 false),
 zf 39 34 (.bin .neq t36 t38),
 zg 40 (.pick t34 zT t39)] [0,4,5,7,40] [4,5]
 (.cond t40
 (zr [zg 6 (.mov (zi 19))] [6] []
 .ret)
 .skip))
 (.seq (.prep [9] (.reg true [zm 41 0,
 zg 42 (.ldl 4 t4 7 true),
 zg 43 (.ldl 5 t5 6 true),
 zm 44 0,
 zc 45 84 [t44],
 zg 46 (.bld [.p .nilp,zo,zo,zo,zo,zo,zo,zo,zo,zo,zo,.nils,.nils,.nils,zo,zo,zo,zo,zo,zo,zo,zo,zo,zo,zo,zo,zo,zo,zo,zo,zo,zo,.p (.bool false),.nils,.nils,.nils] [(0,1,t41),(1,7,t42),(8,6,t43),(14,22,t45)]),
 zg 9 (.alp [.p .nilp,zo,zo,zo,zo,zo,zo,zo,zo,zo,zo,.nils,.nils,.nils,zo,zo,zo,zo,zo,zo,zo,zo,zo,zo,zo,zo,zo,zo,zo,zo,zo,zo,.p (.bool false),.nils,.nils,.nils]),
 zn (.stl 9 t9 t46 36)] [0,4,5,7,9] [4,5,9]))
 (.seq (zr [zm 47 7,
 zh 48 47,
 zg 49 (.mov (zi 0))] [0,4,5,9,47,48,49] [4,5,9]
 (.block 0 q0Vi))
 (.seq (zr [zl 60 9 36,
 zc 61 90 [t60]] [0,4,5,61] [4,5]
 (.cond t61
 (zr [zm 63 0,
 zl 64 4 7,
 zc 65 82 [t63,t64],
 zm 62 65,
 zx 66 62 0,
 zx 67 62 1,
 zg 12 (.al [zo,zo,zo,.nils,.nils,.nils] true),
 zn (.st t12 t66 6),
 zm 13 67] [5,12] [5,12]
 (zr [zl 68 5 6,
 zl 69 12 6,
 zc 70 91 [t68,t69],
 zj 71 70] [71] []
 (.cond t71
 (zr [zg 6 (.mov (zi 17))] [6] []
 .ret)
 .skip)))
 .skip))
 (zr [zg 6 (.mov (zi 0))] [6] []
 .ret))))))),
 [.tmp 6],false⟩
def ir40:IFn:=
⟨(zr [zg 0 (.mov zF)] [] []
 (zr [zg 5 (.bld [zo,zo,zo,zo,zo,zo,zo,zo,zo,zo,zo,zo,zo,zo,zo,zo,zo,zo,.p (.bool false)] [(0,1,(zi 1)),(1,1,(zi 1)),(3,1,(zi 6)),(4,1,(zi 6))]),
 zg 6 (.bld [zo,zo,zo,zo,zo,zo,zo] [(0,1,(zi 1)),(1,1,(zi 6))]),
 zg 7 (.bld [zo,zo,zo,zo,zo,zo,zo] [(0,1,(zi 3)),(6,1,(zi 5))]),
 zg 8 (.bld [zo,zo,zo,zo,zo,zo,zo] [(0,1,(zi 1)),(1,1,(zi 3))]),
 zg 9 (.bsl 7 3 [zo,zo,zo,zo,zo,zo,zo] [(0,t6),(1,t7),(2,t8)]),
 zg 10 (.bld [zo,zo,zo,zo,zo,zo,zo,zo,zo,zo,zo,zo,zo,zo,zo,zo,zo,zo,.p (.bool false),.nils,.nils,.nils] [(0,19,t5),(19,1,t9)]),
 zg 11 (.callz 14 [t10]),
 zm 4 11,
 zx 12 4 0,
 zx 13 4 1,
 zm 1 12,
 zm 2 13] [1,2] []
 (zr [zm 14 1,
 zg 15 (.bld [zo,zo,zo,.nils,.nils,.nils] [(0,1,(zi 1)),(2,1,(zi 1))]),
 zg 16 (.bld [zo,zo,zo,.nils,.nils,.nils] [(0,1,(zi 1)),(1,1,(zi 2)),(2,1,(zi 3))]),
 zg 17 (.bsl 6 2 [zo,zo,zo,.nils,.nils,.nils] [(0,t15),(1,t16)]),
 zc 18 42 [t14,t17],
 zm 3 18] [2,3] []
 (zr [zm 19 2,
 zm 20 19,
 zt 21 20 (.mov t3),
 zt 22 20 (.len t21),
 zt 23 20 (.bin .eql t22 (zi 2)),
 zg 24 (.pick t20 t23 zF),
 zm 25 24,
 zt 26 25 (.mov t3),
 zt 27 25 (.ixs t26 (zi 0) 9),
 zt 28 25 (.ld t27 9 true),
 zt 29 25 (.bld [.p (.bool false),zo,zo,zo,zo,zo,zo,zo,zo] [(2,1,(zi 5))]),
 zt 30 25 (.eqa false [false,true,true,true,true,true,true,true,true] t28 t29),
 zg 31 (.pick t25 t30 zF),
 zm 32 31,
 zt 33 32 (.mov t3),
 zt 34 32 (.ixs t33 (zi 1) 9),
 zt 35 32 (.ld t34 9 true),
 zt 36 32 (.bld [.p (.bool false),zo,zo,zo,zo,zo,zo,zo,zo] []),
 zt 37 32 (.eqa false [false,true,true,true,true,true,true,true,true] t35 t36),
 zg 38 (.pick t32 t37 zF),
 zm 39 38,
 zt 40 39 (.mov t3),
 zt 41 39 (.call 45 [t40] false),
 zt 42 39 (.bld [zo,zo] [(1,1,(zi 5))]),
 zt 43 39 (.eqa false [true,true] t41 t42),
 zg 44 (.pick t39 t43 zF),
 zm 45 44,
 zt 46 45 (.mov t3),
 zt 47 45 (.call 47 [t46] false),
 zt 48 45 (.bin .eql t47 (zi 0)),
 zg 49 (.pick t45 t48 zF),
 zm 0 49] [0] []
 .ret)))),
 [.tmp 0],false⟩
def ir41:IFn:=
⟨(zr [zg 4 (.bx t1 7 true),
 zg 5 (.bx t2 6 true),
 zg 6 (.al [.p (.bool false),zo,zo,zo,zo,zo,zo,zo,zo] true)] [0,4,5,6] [4,5,6]
 (zr [zg 7 (.al [.p (.bool false),zo,zo,zo,zo,zo,zo,zo,zo] false)] [0,4,5,6,7] [4,5,6]
 (.seq (zr [zm 11 0,
 zl 12 4 7,
 zc 13 89 [t11,t12],
 zj 14 13] [0,4,5,6,7,14] [4,5,6]
 (.cond t14
 (zr [zl 15 7 9,
 zn (.st t6 t15 9)] [6] [6]
 .ret)
 .skip))
 (.seq (.prep [8,9,10] (.reg true [zm 16 0,
 zg 17 (.ldl 4 t4 7 true),
 zg 18 (.ldl 5 t5 6 true),
 zc 19 100 [t16,t17,t18],
 zm 20 0,
 zg 21 (.ldl 4 t4 7 true),
 zg 22 (.ldl 5 t5 6 true),
 zc 23 83 [t20,t21,t22],
 zm 24 0,
 zc 25 84 [t24],
 zg 8 (.alp [zo,zo,zo,.p (.bool false),.p (.bool false),zo,zo,zo,zo,zo]),
 zg 9 (.alp [zo,zo,zo,zo,zo,zo,zo]),
 zg 10 (.alp [zo,zo,zo,zo,zo,zo,zo,zo,zo,zo,zo,zo,zo,zo,zo,zo,zo,zo,.p (.bool false),.nils,.nils,.nils]),
 zn (.stl 8 t8 t19 10),
 zn (.stl 9 t9 t23 7),
 zn (.stl 10 t10 t25 22)] [0,5,6,7,8,9,10] [5,6,8,9,10]))
 (zr [zp 26 8 4,
 zk 27 26 1,
 zp 28 7 0,
 zn (.st t28 t27 1)] [0,5,6,7,8,9,10] [5,6,8,9,10]
 (.seq (zr [zp 29 5 0,
 zk 30 29 1,
 zg 31 (.bin .eql t30 (zi 1))] [0,5,6,7,8,9,10,31] [5,6,8,9,10]
 (.cond t31
 (.seq (zr [zp 32 8 4,
 zk 33 32 1,
 zj 34 33] [0,5,6,7,8,9,10,34] [5,6,8,9,10]
 (.cond t34
 (.reg false [zp 35 8 5,
 zl 36 35 5,
 zp 37 10 0,
 zp 38 37 5,
 zk 39 38 1,
 zp 40 8 3,
 zk 41 40 1,
 zc 42 101 [t36,t39,t41],
 zp 43 7 1,
 zn (.st t43 t42 1)] [0,5,6,7,9,10] [5,6,9,10])
 .skip))
 (.reg false [zm 44 0,
 zp 45 5 2,
 zk 46 45 1,
 zc 47 102 [t7,t44,t46]] [0,5,6,7,9,10] [5,6,9,10]))
 (.reg false [zp 48 10 0,
 zp 49 48 17,
 zk 50 49 1,
 zp 51 7 8,
 zn (.st t51 t50 1)] [0,5,6,7,9,10] [5,6,9,10])))
 (.seq (zr [zp 52 5 3,
 zk 53 52 1,
 zh 54 53,
 zg 55 (.bin .gtr t54 (zi 0)),
 zm 56 55,
 zt 57 56 (.off t9 3),
 zt 58 56 (.ld t57 1 false),
 zt 59 56 (.bin .gtr t58 (zi 0)),
 zg 60 (.pick t56 t59 zF)] [0,5,6,7,9,10,60] [5,6,9,10]
 (.cond t60
 (.reg false [zl 61 10 22,
 zp 62 5 3,
 zk 63 62 1,
 zc 64 103 [t7,t61,t63]] [0,6,7,9,10] [6,9,10])
 .skip))
 (.seq (.reg true [zp 65 10 0,
 zp 66 65 16,
 zg 67 (.ldl 10 t66 1 false),
 zm 68 0,
 zg 69 (.ldl 9 t9 7 true),
 zc 70 104 [t68,t69],
 zc 71 105 [t70],
 zg 72 (.bin .mul t67 t71),
 zp 73 7 7,
 zn (.st t73 t72 1)] [6,7] [6])
 (zr [zl 74 7 9,
 zn (.st t6 t74 9)] [6] [6]
 .ret))))))))),
 [.cell 6 9 true],false⟩
def q16p:IC:=
 (.loop [0,5,6,17,18,19] [] (zr [zg 20 (.bin .lss t19 t18)] [0,5,6,17,18,19,20] []
 (.seq (.cond t20
 .skip
 (.exit 0))
 (.seq (.block 1 (zr [zm 21 19,
 zg 22 (.ixs t17 t19 6),
 zl 23 22 6,
 zg 8 (.al [zo,zo,zo,.nils,.nils,.nils] true),
 zm 7 21,
 zn (.st t8 t23 6)] [0,5,6,7,8,17,18,19] [8]
 (.reg true [zm 24 5,
 zm 25 0,
 zm 26 6,
 zm 27 7,
 zg 28 (.ixs t26 t27 7),
 zl 29 28 7,
 zg 30 (.ldl 8 t8 6 true),
 zc 31 41 [t25,t29,t30],
 zg 32 (.bsl 9 1 [.p (.bool false),zo,zo,zo,zo,zo,zo,zo,zo] [(0,t31)]),
 zg 33 (.app t24 t32 9),
 zm 5 33] [0,5,6,17,18,19] [])))
 (.reg false [zg 34 (.bin .add t19 (zi 1)),
 zm 19 34] [0,5,6,17,18,19] [])))))
def ir42:IFn:=
⟨(zr [zg 4 (.mov (.c (.nils)))] [0,1] []
 (zr [zg 5 (.nrow 9)] [0,1,5] []
 (zr [zm 9 0,
 zm 10 1,
 zc 11 51 [t9,t10],
 zm 6 11] [0,1,5,6] []
 (.seq (zr [zm 12 1,
 zm 13 6,
 zh 14 13,
 zg 15 (.bin .sub t14 (zi 1)),
 zg 16 (.mnmx true t15 (zi 0)),
 zg 17 (.slc t12 none (some t16) 6),
 zh 18 17,
 zg 19 (.mov (zi 0))] [0,5,6,17,18,19] []
 (.block 0 q16p))
 (zr [zm 35 5,
 zm 4 35] [4] []
 .ret))))),
 [.tmp 4],false⟩
def ir43:IFn:=
⟨(zr [zg 1 (.bx t0 9 true),
 zg 2 (.al [.p (.bool false),zo,zo,zo,zo,zo,zo,zo,zo] true)] [1,2] [1,2]
 (zr [zp 3 1 0,
 zk 4 3 1,
 zp 5 1 1,
 zk 6 5 1,
 zp 7 1 2,
 zk 8 7 1,
 zp 9 1 3,
 zk 10 9 1,
 zp 11 1 4,
 zk 12 11 1,
 zp 13 1 5,
 zk 14 13 1,
 zp 15 1 6,
 zk 16 15 1,
 zp 17 1 7,
 zk 18 17 1,
 zp 19 1 8,
 zk 20 19 1,
 zg 21 (.bld [.p (.bool false),zo,zo,zo,zo,zo,zo,zo,zo] [(0,1,t4),(1,1,t6),(2,1,t8),(3,1,t10),(4,1,t12),(5,1,t14),(6,1,t16),(7,1,t18),(8,1,t20)]),
 zn (.st t2 t21 9)] [2] [2]
 .ret)),
 [.cell 2 9 true],false⟩
def q16k:IC:=
 (.loop [2,3,4,8,9,10] [2] (zr [zg 11 (.bin .lss t10 t9)] [2,3,4,8,9,10,11] [2]
 (.seq (.cond t11
 .skip
 (.exit 0))
 (.seq (.block 1 (zr [zg 12 (.ixs t8 t10 9),
 zl 13 12 9,
 zg 6 (.al [.p (.bool false),zo,zo,zo,zo,zo,zo,zo,zo] true),
 zn (.st t6 t13 9)] [2,3,4,6,8,9,10] [2,6]
 (.reg false [zm 14 4,
 zl 15 6 9,
 zc 16 111 [t15],
 zg 17 (.callv t14 [t16] false)] [2,3,4,8,9,10] [2])))
 (.reg false [zg 18 (.bin .add t10 (zi 1)),
 zm 10 18] [2,3,4,8,9,10] [2])))))
def ir45:IFn:=
⟨(zr [zg 2 (.al [zo,zo] true)] [0,2] [2]
 (zr [zg 3 (.al [zo,zo] false)] [0,2,3] [2]
 (zr [zg 7 (.mkf (.func 110) [t3] []),
 zm 4 7] [0,2,3,4] [2]
 (.seq (zr [zm 8 0,
 zh 9 8,
 zg 10 (.mov (zi 0))] [2,3,4,8,9,10] [2]
 (.block 0 q16k))
 (zr [zc 19 63 [t3],
 zn (.st t2 t19 2)] [2] [2]
 .ret))))),
 [.cell 2 2 true],false⟩
def q11a:IC:=
 (.loop [6,7,12,62,63,64] [6] (zr [zg 65 (.bin .lss t64 t63)] [6,7,12,62,63,64,65] [6]
 (.seq (.cond t65
 .skip
 (.exit 0))
 (.seq (.block 1 (zr [zg 66 (.ixs t62 t64 2),
 zl 67 66 2,
 zg 14 (.al [.p (.bool false),.p .nilf] true),
 zn (.st t14 t67 2)] [6,7,12,14,62,63,64] [6,14]
 (zr [zp 68 14 0,
 zk 69 68 1] [6,7,12,14,62,63,64,69] [6,14]
 (.cond t69
 (.reg false [zm 70 12,
 zp 71 14 1,
 zk 72 71 1,
 zg 73 (.callv t72 [] false),
 zg 74 (.bsl 1 1 [zo] [(0,t73)]),
 zg 75 (.app t70 t74 1),
 zm 12 75] [6,7,12,62,63,64] [6])
 .skip))))
 (.reg false [zg 76 (.bin .add t64 (zi 1)),
 zm 64 76] [6,7,12,62,63,64] [6])))))
def ir46:IFn:=
⟨(zr [zg 3 (.bx t0 1 false),
 zg 4 (.bx t1 7 true),
 zg 5 (.bx t2 6 false),
 zg 6 (.al [zo,zo] true)] [3,4,5,6] [4,6]
 (.seq (zr [zk 15 3 1,
 zl 16 4 7,
 zc 17 89 [t15,t16],
 zj 18 17] [3,4,5,6,18] [4,6]
 (.cond t18
 (zr [zg 19 (.bld [zo,zo] []),
 zn (.st t6 t19 2)] [6] [6]
 .ret)
 .skip))
 (.seq (.prep [7,8,9] (.reg true [zk 20 3 1,
 zg 21 (.ldl 4 t4 7 true),
 zl 22 5 6,
 zg 23 (.call 100 [t20,t21,t22] true),
 zk 24 3 1,
 zg 25 (.call 84 [t24] true),
 zk 26 3 1,
 zg 27 (.ldl 4 t4 7 true),
 zl 28 5 6,
 zc 29 83 [t26,t27,t28],
 zg 7 (.alp [zo,zo,zo,.p (.bool false),.p (.bool false),zo,zo,zo,zo,zo]),
 zg 8 (.alp [zo,zo,zo,zo,zo,zo,zo,zo,zo,zo,zo,zo,zo,zo,zo,zo,zo,zo,.p (.bool false),.nils,.nils,.nils]),
 zg 9 (.alp [zo,zo,zo,zo,zo,zo,zo]),
 zn (.stl 7 t7 t23 10),
 zn (.stl 8 t8 t25 22),
 zn (.stl 9 t9 t29 7)] [3,5,6,7,8,9] [6,7,8,9]))
 (.esc [7,8,9] (zr [zp 30 5 0,
 zk 31 30 1,
 zg 32 (.bin .eql t31 (zi 1)),
 zm 10 32] [3,5,6,7,8,9,10] [6]
 (zr [zm 33 10,
 zm 34 33,
 zt 35 34 (.off t7 4),
 zt 36 34 (.ld t35 1 false),
 zt 37 34 (.un .not t36),
 zg 38 (.pick t34 t37 zF),
 zg 39 (.mkf (.func 112) [] [t7,t8]),
 zg 40 (.bld [.p (.bool false),.p .nilf] [(0,1,t38),(1,1,t39)]),
 zm 41 10,
 zg 42 (.mkf (.func 113) [] [t8,t3,t5]),
 zg 43 (.bld [.p (.bool false),.p .nilf] [(0,1,t41),(1,1,t42)]),
 zm 44 10,
 zj 45 44,
 zg 46 (.mkf (.func 116) [] [t8]),
 zg 47 (.bld [.p (.bool false),.p .nilf] [(0,1,t45),(1,1,t46)]),
 zp 48 5 3,
 zk 49 48 1,
 zh 50 49,
 zg 51 (.bin .gtr t50 (zi 0)),
 zm 52 51,
 zt 53 52 (.off t9 3),
 zt 54 52 (.ld t53 1 false),
 zt 55 52 (.bin .gtr t54 (zi 0)),
 zg 56 (.pick t52 t55 zF),
 zg 57 (.mkf (.func 117) [] [t8,t5]),
 zg 58 (.bld [.p (.bool false),.p .nilf] [(0,1,t56),(1,1,t57)]),
 zg 59 (.mkf (.func 119) [] [t8,t3,t9]),
 zg 60 (.bld [.p (.bool false),.p .nilf] [(0,1,zT),(1,1,t59)]),
 zg 61 (.bsl 2 5 [.p (.bool false),.p .nilf] [(0,t40),(1,t43),(2,t47),(3,t58),(4,t60)]),
 zm 11 61] [6,7,11] [6]
 (zr [zg 12 (.nrow 1)] [6,7,11,12] [6]
 (.seq (zr [zm 62 11,
 zh 63 62,
 zg 64 (.mov (zi 0))] [6,7,12,62,63,64] [6]
 (.block 0 q11a))
 (zr [zp 77 7 4,
 zk 78 77 1,
 zm 79 12,
 zc 80 120 [t78,t79],
 zn (.st t6 t80 2)] [6] [6]
 .ret))))))))),
 [.cell 6 2 true],false⟩
def q16l:IC:=
 (.loop [0,3,6,7,8] [] (zr [zg 9 (.bin .lss t8 t7)] [0,3,6,7,8,9] []
 (.seq (.cond t9
 .skip
 (.exit 0))
 (.seq (.block 1 (zr [zm 10 8,
 zg 11 (.ixs t6 t8 9),
 zl 12 11 9,
 zg 5 (.al [.p (.bool false),zo,zo,zo,zo,zo,zo,zo,zo] true),
 zm 4 10,
 zn (.st t5 t12 9)] [0,3,4,5,6,7,8] [5]
 (.seq (.reg true [zm 13 3,
 zg 14 (.bin .lss t13 (zi 0)),
 zm 15 14,
 zf 16 15 (.mov t0),
 zf 17 15 (.mov t3),
 zf 18 15 (.ixs t16 t17 9),
 zf 19 15 (.ld t18 9 true),
 zf 20 15 (.call 111 [t19] false),
 zf 21 15 (.ldl 5 t5 9 true),
 zf 22 15 (.call 111 [t21] false),
 zf 23 15 (.call 121 [t20,t22] false),
 zg 24 (.pick t15 zT t23)] [0,3,4,6,7,8,24] [])
 (.cond t24
 (.reg false [zm 25 4,
 zm 3 25] [0,3,6,7,8] [])
 .skip))))
 (.reg false [zg 26 (.bin .add t8 (zi 1)),
 zm 8 26] [0,3,6,7,8] [])))))
def ir47:IFn:=
⟨(zr [zg 2 (.mov (zi 0))] [0] []
 (zr [zg 3 (.mov (zi (-1)))] [0,3] []
 (.seq (zr [zm 6 0,
 zh 7 6,
 zg 8 (.mov (zi 0))] [0,3,6,7,8] []
 (.block 0 q16l))
 (zr [zm 27 3,
 zm 2 27] [2] []
 .ret)))),
 [.tmp 2],false⟩
def q16m:IC:=
 (.loop [0,3,4] [] (.seq (zr [zm 5 4,
 zm 6 0,
 zh 7 6,
 zg 8 (.bin .lss t5 t7)] [0,3,4,8] []
 (.cond t8
 .skip
 (.exit 0)))
 (.seq (.block 1 (.seq (.reg true [zm 11 3,
 zg 12 (.bin .lss t11 (zi 0)),
 zm 13 12,
 zf 14 13 (.mov t0),
 zf 15 13 (.mov t4),
 zf 16 13 (.ixs t14 t15 9),
 zf 17 13 (.ld t16 9 true),
 zf 18 13 (.call 122 [t17] true),
 zf 19 13 (.mov t0),
 zf 20 13 (.mov t3),
 zf 21 13 (.ixs t19 t20 9),
 zf 22 13 (.ld t21 9 true),
 zf 23 13 (.call 122 [t22] false),
 zf 24 13 (.call 50 [t18,t23] false),
 zf 25 13 (.bin .gtr t24 (zi 0)),
 zg 26 (.pick t13 zT t25)] [0,3,4,26] [])
 (.cond t26
 (.reg false [zm 27 4,
 zm 3 27] [0,3,4] [])
 .skip)))
 (.reg false [zm 9 4,
 zg 10 (.bin .add t9 (zi 1)),
 zm 4 10] [0,3,4] []))))
def ir48:IFn:=
⟨(zr [zg 2 (.mov (zi 0))] [0] []
 (zr [zg 3 (.mov (zi (-1)))] [0,3] []
 (.seq (zr [zg 4 (.mov (zi 0))] [0,3,4] []
 (.block 0 q16m))
 (zr [zm 28 3,
 zm 2 28] [2] []
 .ret)))),
 [.tmp 2],false⟩
def q16n:IC:=
 (.loop [0,2,3,4] [2,3] (.seq (zr [zm 5 4,
 zm 6 0,
 zh 7 6,
 zg 8 (.bin .lss t5 t7)] [0,2,3,4,8] [2,3]
 (.cond t8
 .skip
 (.exit 0)))
 (.seq (.block 1 (.reg true [zg 11 (.ldl 3 t3 2 true),
 zm 12 0,
 zm 13 4,
 zg 14 (.ixs t12 t13 9),
 zl 15 14 9,
 zc 16 122 [t15],
 zc 17 20 [t11,t16],
 zn (.stl 3 t3 t17 2)] [0,2,3,4] [2,3]))
 (.reg false [zm 9 4,
 zg 10 (.bin .add t9 (zi 1)),
 zm 4 10] [0,2,3,4] [2,3]))))
def ir49:IFn:=
⟨(zr [zg 2 (.al [zo,zo] true)] [0,2] [2]
 (zr [zg 3 (.al [zo,zo] true)] [0,2,3] [2,3]
 (.seq (zr [zg 4 (.mov (zi 0))] [0,2,3,4] [2,3]
 (.block 0 q16n))
 (zr [zl 18 3 2,
 zn (.st t2 t18 2)] [2] [2]
 .ret)))),
 [.cell 2 2 true],false⟩
def ir50:IFn:=
⟨(zr [zg 2 (.bx t0 2 true),
 zg 3 (.bx t1 2 true),
 zg 4 (.mov (zi 0))] [2,3] [2,3]
 (.seq (zr [zp 5 2 0,
 zk 6 5 1,
 zp 7 3 0,
 zk 8 7 1,
 zg 9 (.bin .lss t6 t8),
 zm 10 9,
 zf 11 10 (.off t2 0),
 zf 12 10 (.ld t11 1 false),
 zf 13 10 (.off t3 0),
 zf 14 10 (.ld t13 1 false),
 zf 15 10 (.bin .eql t12 t14),
 zf 16 10 (.mov t15),
 zt 17 16 (.off t2 1),
 zt 18 16 (.ld t17 1 false),
 zt 19 16 (.off t3 1),
 zt 20 16 (.ld t19 1 false),
 zt 21 16 (.bin .lss t18 t20),
 zf 22 10 (.pick t16 t21 zF),
 zg 23 (.pick t10 zT t22)] [2,3,23] [2,3]
 (.cond t23
 (zr [zg 4 (.mov (zi (-1)))] [4] []
 .ret)
 .skip))
 (.seq (zr [zl 24 2 2,
 zl 25 3 2,
 zg 26 (.eqa false [true,true] t24 t25)] [26] []
 (.cond t26
 (zr [zg 4 (.mov (zi 0))] [4] []
 .ret)
 .skip))
 (zr [zg 4 (.mov (zi 1))] [4] []
 .ret)))),
 [.tmp 4],false⟩
def ir51:IFn:=
⟨(zr [zg 4 (.mov (.c (.nils)))] [0,1] []
 (.seq (zr [zm 6 0,
 zg 7 (.eqn .ptr false t6)] [0,1,7] []
 (.cond t7
 (zr [zg 4 (.mov (.c (.nils)))] [4] []
 .ret)
 .skip))
 (zr [zm 8 0,
 zc 9 60 [t8],
 zm 5 9] [1,5] []
 (zr [zm 10 1,
 zm 11 5,
 zg 12 (.mkf (.func 62) [t11] []),
 zc 13 61 [t10,t12]] [5] []
 (zr [zm 14 5,
 zg 15 (.nck t14),
 zp 16 15 10,
 zk 17 16 1,
 zm 4 17] [4] []
 .ret))))),
 [.tmp 4],false⟩
def ir52:IFn:=
⟨(zr [zg 1 (.bx t0 22 true),
 zg 2 (.mov zF)] [1] [1]
 (zr [zl 6 1 22,
 zc 7 123 [t6],
 zm 5 7,
 zx 8 5 0,
 zx 9 5 1,
 zm 3 8,
 zm 4 9] [3] []
 (zr [zm 10 3,
 zg 11 (.bin .eql t10 (zi 0)),
 zm 2 11] [2] []
 .ret))),
 [.tmp 2],false⟩
def q0Xe:IC:=
 (.loop [2,3,16,17,18] [2,3] (zr [zg 19 (.bin .lss t18 t17)] [2,3,16,17,18,19] [2,3]
 (.seq (.cond t19
 .skip
 (.exit 0))
 (.seq (.block 1 (zr [zg 20 (.ixs t16 t18 2),
 zl 21 20 2,
 zg 5 (.al [.nils,.nils] true),
 zn (.st t5 t21 2)] [2,3,5,16,17,18] [2,3,5]
 (.reg true [zp 22 3 20,
 zg 23 (.ldl 3 t22 1 false),
 zp 24 5 0,
 zg 25 (.ldl 5 t24 1 false),
 zg 26 (.callz 126 [t25]),
 zp 27 5 1,
 zg 28 (.ldl 5 t27 1 false),
 zg 29 (.callz 127 [t28]),
 zg 30 (.bld [.nils,.nils] [(0,1,t26),(1,1,t29)]),
 zg 31 (.bsl 2 1 [.nils,.nils] [(0,t30)]),
 zg 32 (.app t23 t31 2),
 zp 33 3 20,
 zn (.stl 3 t33 t32 1)] [2,3,16,17,18] [2,3])))
 (.reg false [zg 34 (.bin .add t18 (zi 1)),
 zm 18 34] [2,3,16,17,18] [2,3])))))
def ir53:IFn:=
⟨(zr [zg 1 (.bx t0 22 true),
 zg 2 (.al [zo,zo,zo,zo,zo,zo,zo,zo,zo,zo,zo,zo,zo,zo,zo,zo,zo,zo,.p (.bool false),.nils,.nils,.nils] true)] [1,2] [1,2]
 (.seq (.prep [3] (.reg true [zp 6 1 0,
 zg 7 (.ldl 1 t6 19 true),
 zp 8 1 19,
 zg 9 (.ldl 1 t8 1 false),
 zg 10 (.callz 124 [t9]),
 zp 11 1 21,
 zg 12 (.ldl 1 t11 1 false),
 zg 13 (.callz 125 [t12]),
 zg 14 (.bld [zo,zo,zo,zo,zo,zo,zo,zo,zo,zo,zo,zo,zo,zo,zo,zo,zo,zo,.p (.bool false),.nils,.nils,.nils] [(0,19,t7),(19,1,t10),(21,1,t13)]),
 zg 3 (.alp [zo,zo,zo,zo,zo,zo,zo,zo,zo,zo,zo,zo,zo,zo,zo,zo,zo,zo,.p (.bool false),.nils,.nils,.nils]),
 zn (.stl 3 t3 t14 22)] [1,2,3] [1,2,3]))
 (.seq (zr [zp 15 1 20,
 zk 16 15 1,
 zh 17 16,
 zg 18 (.mov (zi 0))] [2,3,16,17,18] [2,3]
 (.block 0 q0Xe))
 (zr [zl 35 3 22,
 zn (.st t2 t35 22)] [2] [2]
 .ret)))),
 [.cell 2 22 true],false⟩
def q0Wc:IC:=
 (.loop [2,3,4,44,45] [2,3] (zr [zg 46 (.bin .lss t45 t44)] [2,3,4,44,45,46] [2,3]
 (.seq (.cond t46
 .skip
 (.exit 0))
 (.seq (.block 1 (zr [zm 47 45,
 zm 5 47] [2,3,4,5,44,45] [2,3]
 (.reg true [zg 48 (.ldl 3 t3 1 true),
 zp 49 4 21,
 zk 50 49 1,
 zm 51 5,
 zg 52 (.ixs t50 t51 3),
 zp 53 52 1,
 zg 54 (.bsl 1 1 [.p .nilp] [(0,t53)]),
 zc 55 130 [t48,(.c (.p (.fn 132))),t54]] [2,3,4,44,45] [2,3])))
 (.reg false [zg 56 (.bin .add t45 (zi 1)),
 zm 45 56] [2,3,4,44,45] [2,3])))))
def ir54:IFn:=
⟨(zr [zg 1 (.bx t0 22 true),
 zg 2 (.al [zo,zo,zo,zo,zo,zo,zo,zo,zo,zo,zo,zo,zo,zo,zo,zo,zo,zo,.p (.bool false),.nils,.nils,.nils] true)] [1,2] [1,2]
 (zr [zp 6 1 0,
 zp 7 6 5,
 zk 8 7 1,
 zg 9 (.bld [zo] [(0,1,t8)]),
 zg 3 (.al [zo] true),
 zn (.st t3 t9 1)] [1,2,3] [1,2,3]
 (.seq (zr [zp 10 3 0,
 zk 11 10 1,
 zg 12 (.bin .lss t11 (zi 1))] [1,2,3,12] [1,2,3]
 (.cond t12
 (zr [zl 13 1 22,
 zn (.st t2 t13 22)] [2] [2]
 .ret)
 .skip))
 (.seq (.prep [4] (.reg true [zp 14 1 0,
 zg 15 (.ldl 1 t14 19 true),
 zg 16 (.ldl 3 t3 1 true),
 zp 17 1 19,
 zg 18 (.ldl 1 t17 1 false),
 zc 19 128 [t16,t18],
 zg 20 (.ldl 3 t3 1 true),
 zp 21 1 20,
 zg 22 (.ldl 1 t21 1 false),
 zc 23 129 [t20,t22],
 zp 24 1 21,
 zg 25 (.ldl 1 t24 1 false),
 zc 26 125 [t25],
 zg 27 (.bld [zo,zo,zo,zo,zo,zo,zo,zo,zo,zo,zo,zo,zo,zo,zo,zo,zo,zo,.p (.bool false),.nils,.nils,.nils] [(0,19,t15),(19,1,t19),(20,1,t23),(21,1,t26)]),
 zg 4 (.alp [zo,zo,zo,zo,zo,zo,zo,zo,zo,zo,zo,zo,zo,zo,zo,zo,zo,zo,.p (.bool false),.nils,.nils,.nils]),
 zn (.stl 4 t4 t27 22)] [2,3,4] [2,3,4]))
 (.esc [4] (zr [zl 28 3 1,
 zp 29 4 0,
 zp 30 29 3,
 zp 31 4 0,
 zp 32 31 4,
 zg 33 (.bsl 1 2 [.p .nilp] [(0,t30),(1,t32)]),
 zc 34 130 [t28,(.c (.p (.fn 131))),t33]] [2,3,4] [2,3]
 (zr [zl 35 3 1,
 zp 36 4 0,
 zp 37 36 6,
 zp 38 4 0,
 zp 39 38 7,
 zg 40 (.bsl 1 2 [.p .nilp] [(0,t37),(1,t39)]),
 zc 41 130 [t35,(.c (.p (.fn 132))),t40]] [2,3,4] [2,3]
 (.seq (zr [zp 42 4 21,
 zk 43 42 1,
 zh 44 43,
 zg 45 (.mov (zi 0))] [2,3,4,44,45] [2,3]
 (.block 0 q0Wc))
 (zr [zl 57 4 22,
 zn (.st t2 t57 22)] [2] [2]
 .ret))))))))),
 [.cell 2 22 true],false⟩
def q0Wd:IC:=
 (.loop [0,4,23,24] [21] (zr [zg 25 (.bin .lss t24 t23)] [0,4,23,24,25] [21]
 (.seq (.cond t25
 .skip
 (.exit 0))
 (.seq (.block 1 (zr [zm 26 24,
 zm 5 26] [0,4,5,23,24] [21]
 (zr [zm 27 0,
 zm 28 5,
 zg 29 (.ixs t27 t28 7),
 zl 30 29 7,
 zc 31 133 [t30],
 zg 6 (.al [zo,zo,zo,zo,zo,zo] true),
 zn (.st t6 t31 6)] [0,4,5,6,23,24] [6,21]
 (.seq (zr [zl 32 6 6,
 zc 33 134 [t32],
 zj 34 33] [0,4,5,6,23,24,34] [6,21]
 (.cond t34
 (zr [zg 2 (.mov (.c (.p .nilp))),
 zg 3 (.mov zF)] [2,3] [21]
 .ret)
 .skip))
 (.seq (.reg true [zm 36 4,
 zg 37 (.nck t36),
 zp 38 37 1,
 zg 39 (.ldl 21 t38 1 false),
 zm 40 5,
 zg 41 (.bin .add t40 (zi 1)),
 zm 42 4,
 zg 43 (.nck t42),
 zp 44 43 1,
 zg 45 (.ldl 21 t44 1 false),
 zm 46 5,
 zg 47 (.ixs t45 t46 6),
 zl 48 47 6,
 zg 49 (.ldl 6 t6 6 true),
 zc 50 135 [t48,t49],
 zm 35 50,
 zx 51 35 0,
 zx 52 35 1,
 zg 53 (.ixs t39 t41 6),
 zn (.st t53 t51 6)] [0,4,5,23,24] [21])
 (.seq (.reg true [zm 54 4,
 zg 55 (.nck t54),
 zp 56 55 2,
 zg 57 (.ldl 21 t56 1 false),
 zm 58 5,
 zg 59 (.bin .add t58 (zi 1)),
 zm 60 4,
 zg 61 (.nck t60),
 zp 62 61 2,
 zg 63 (.ldl 21 t62 1 false),
 zm 64 5,
 zg 65 (.ixs t63 t64 1),
 zk 66 65 1,
 zg 67 (.ixs t57 t59 1),
 zn (.st t67 t66 1)] [0,4,5,23,24] [21])
 (zr [zm 68 0,
 zm 69 5,
 zg 70 (.ixs t68 t69 7),
 zp 71 70 0,
 zk 72 71 1,
 zg 73 (.bin .eql t72 (zi 1))] [0,4,5,23,24,73] [21]
 (.cond t73
 (.reg true [zm 74 4,
 zg 75 (.nck t74),
 zp 76 75 2,
 zg 77 (.ldl 21 t76 1 false),
 zm 78 5,
 zg 79 (.bin .add t78 (zi 1)),
 zg 80 (.ixs t77 t79 1),
 zk 81 80 1,
 zm 82 0,
 zm 83 5,
 zg 84 (.ixs t82 t83 7),
 zp 85 84 1,
 zk 86 85 1,
 zg 87 (.bin .add t81 t86),
 zg 88 (.ixs t77 t79 1),
 zn (.st t88 t87 1)] [0,4,23,24] [21])
 .skip))))))))
 (.reg false [zg 89 (.bin .add t24 (zi 1)),
 zm 24 89] [0,4,23,24] [21])))))
def ir55:IFn:=
⟨(zr [zg 2 (.mov (.c (.p .nilp))),
 zg 3 (.mov zF)] [0] []
 (.seq (zr [zm 7 0,
 zh 8 7,
 zg 9 (.bin .gtr t8 (zi 4096))] [0,9] []
 (.cond t9
 (zr [zg 2 (.mov (.c (.p .nilp))),
 zg 3 (.mov zF)] [2,3] [21]
 .ret)
 .skip))
 (.seq (.rsv [6,1] (.prep [21] (.reg true [zm 10 0,
 zg 11 (.callz 124 [t10]),
 zm 12 0,
 zh 13 12,
 zg 14 (.bin .add t13 (zi 1)),
 zg 15 (.mkh 2 6 [zo,zo,zo,zo,zo,zo] t14),
 zm 16 0,
 zh 17 16,
 zg 18 (.bin .add t17 (zi 1)),
 zg 19 (.mkh 1 1 [zo] t18),
 zg 20 (.bld [.nils,.nils,.nils] [(0,1,t11),(1,1,t15),(2,1,t19)]),
 zg 21 (.bxp t20 3),
 zm 4 21] [0,4] [21])))
 (.seq (zr [zm 22 0,
 zh 23 22,
 zg 24 (.mov (zi 0))] [0,4,23,24] [21]
 (.block 0 q0Wd))
 (.seq (.esc [21] (.reg false [zm 90 4,
 zm 2 90,
 zg 3 (.mov zT)] [2,3] [21]))
 .ret))))),
 [.tmp 2,.tmp 3],false⟩
def ir56:IFn:=
⟨(zr [zg 2 (.mov (.c (.p .nilp)))] [0] []
 (zr [zm 3 0,
 zg 4 (.callz 124 [t3]),
 zg 5 (.bld [.nils] [(0,1,t4)]),
 zg 6 (.bx t5 1 false),
 zm 2 6] [2] []
 .ret)),
 [.tmp 2],false⟩
def q0We:IC:=
 (.loop [1,5,22,23,24] [21] (zr [zg 25 (.bin .lss t24 t23)] [1,5,22,23,24,25] [21]
 (.seq (.cond t25
 .skip
 (.exit 0))
 (.seq (.block 1 (zr [zm 26 24,
 zg 27 (.ixs t22 t24 7),
 zl 28 27 7,
 zg 7 (.al [zo,zo,zo,zo,zo,zo,zo] true),
 zm 6 26,
 zn (.st t7 t28 7)] [1,5,6,7,22,23,24] [7,21]
 (.seq (.prep [9,10] (.reg true [zm 29 5,
 zg 30 (.nck t29),
 zp 31 30 1,
 zg 32 (.ldl 21 t31 1 false),
 zm 33 6,
 zg 34 (.ixs t32 t33 1),
 zg 35 (.ldh t34 1 false),
 zm 36 5,
 zg 37 (.nck t36),
 zp 38 37 2,
 zg 39 (.ldl 21 t38 1 false),
 zm 40 6,
 zg 41 (.ixs t39 t40 3),
 zg 42 (.ldh t41 3 true),
 zm 43 5,
 zg 44 (.nck t43),
 zp 45 44 3,
 zg 46 (.ldl 21 t45 1 false),
 zm 47 6,
 zg 48 (.ixs t46 t47 3),
 zg 49 (.ldh t48 3 true),
 zg 9 (.alp [zo,zo,zo]),
 zg 10 (.alp [zo,zo,zo]),
 zm 8 35,
 zn (.stl 9 t9 t42 3),
 zn (.stl 10 t10 t49 3)] [1,5,7,8,9,10,22,23,24] [7,9,10,21]))
 (.seq (zr [zp 50 7 0,
 zk 51 50 1] [1,5,7,8,9,10,22,23,24,51] [7,9,10,21]
 (.block 2 (zr [zg 53 (.bin .eql t51 (zi 5)),
 zm 52 53] [1,5,7,8,9,10,22,23,24,51,52] [7,9,10,21]
 (.cond t52
 (.reg false [zm 54 8,
 zg 55 (.bin .add t54 (zi 1)),
 zm 8 55] [1,5,8,9,10,22,23,24] [9,10,21])
 (zr [zg 57 (.bin .eql t51 (zi 6)),
 zm 56 57] [1,5,7,8,9,10,22,23,24,51,56] [7,9,10,21]
 (.cond t56
 (zr [zm 59 1,
 zp 60 7 6,
 zk 61 60 1,
 zc 62 136 [t59,t61],
 zm 58 62,
 zx 63 58 0,
 zx 64 58 1,
 zg 11 (.al [zo,zo,zo] true),
 zn (.st t11 t63 3),
 zm 12 64] [1,5,8,9,10,11,12,22,23,24] [9,10,11,21]
 (zr [zm 65 12,
 zm 66 65,
 zt 67 66 (.off t11 0),
 zt 68 66 (.ld t67 1 false),
 zt 69 66 (.bin .geq t68 (zi 0)),
 zg 70 (.pick t66 t69 zF),
 zm 71 70,
 zt 72 71 (.off t11 0),
 zt 73 71 (.ld t72 1 false),
 zt 74 71 (.bin .lss t73 (zi 3)),
 zg 75 (.pick t71 t74 zF)] [1,5,8,9,10,11,22,23,24,75] [9,10,11,21]
 (.cond t75
 (.reg false [zp 76 11 0,
 zk 77 76 1,
 zg 78 (.ixa t9 t77 1 3),
 zk 79 78 1,
 zg 80 (.bin .add t79 (zi 1)),
 zg 81 (.ixa t9 t77 1 3),
 zn (.st t81 t80 1)] [1,5,8,9,10,22,23,24] [9,10,21])
 .skip)))
 (zr [zg 83 (.bin .eql t51 (zi 7)),
 zm 82 83] [1,5,8,9,10,22,23,24,82] [9,10,21]
 (.cond t82
 (zr [zl 84 10 3,
 zl 85 9 3,
 zg 86 (.eqa true [true,true,true] t84 t85)] [1,5,8,9,10,22,23,24,86] [9,10,21]
 (.cond t86
 (.reg false [zl 87 9 3,
 zn (.st t10 t87 3)] [1,5,8,9,10,22,23,24] [9,10,21])
 .skip))
 .skip))))))))
 (.reg true [zm 88 5,
 zm 89 5,
 zm 90 5,
 zm 91 5,
 zg 92 (.nck t91),
 zp 93 92 1,
 zg 94 (.ldl 21 t93 1 false),
 zm 95 8,
 zg 96 (.bsl 1 1 [zo] [(0,t95)]),
 zg 97 (.apo t94 t96 1 t24 1),
 zm 98 5,
 zg 99 (.nck t98),
 zp 100 99 2,
 zg 101 (.ldl 21 t100 1 false),
 zg 102 (.ldl 9 t9 3 true),
 zg 103 (.bsl 3 1 [zo,zo,zo] [(0,t102)]),
 zg 104 (.apo t101 t103 3 t24 1),
 zm 105 5,
 zg 106 (.nck t105),
 zp 107 106 3,
 zg 108 (.ldl 21 t107 1 false),
 zg 109 (.ldl 10 t10 3 true),
 zg 110 (.bsl 3 1 [zo,zo,zo] [(0,t109)]),
 zg 111 (.apo t108 t110 3 t24 1),
 zg 112 (.nck t88),
 zp 113 112 1,
 zn (.stl 21 t113 t97 1),
 zg 114 (.nck t89),
 zp 115 114 2,
 zn (.stl 21 t115 t104 1),
 zg 116 (.nck t90),
 zp 117 116 3,
 zn (.stl 21 t117 t111 1)] [1,5,22,23,24] [21])))))
 (.reg false [zg 118 (.bin .add t24 (zi 1)),
 zm 24 118] [1,5,22,23,24] [21])))))
def ir57:IFn:=
⟨(zr [zg 4 (.mov (.c (.p .nilp)))] [0,1] []
 (zr [zm 13 0,
 zg 14 (.callz 124 [t13]),
 zg 15 (.bsr 1 1 [zo] [(0,(zi 0))]),
 zg 16 (.bld [zo,zo,zo] []),
 zg 17 (.bsr 3 1 [zo,zo,zo] [(0,t16)]),
 zg 18 (.bld [zo,zo,zo] []),
 zg 19 (.bsr 3 1 [zo,zo,zo] [(0,t18)]),
 zg 20 (.bld [.nils,.nils,.nils,.nils] [(0,1,t14),(1,1,t15),(2,1,t17),(3,1,t19)]),
 zg 21 (.bx t20 4 true),
 zm 5 21] [0,1,5] [21]
 (.seq (zr [zm 22 0,
 zh 23 22,
 zg 24 (.mov (zi 0))] [1,5,22,23,24] [21]
 (.block 0 q0We))
 (.seq (.esc [21] (.reg false [zm 119 5,
 zm 4 119] [4] [21]))
 .ret)))),
 [.tmp 4],false⟩
def ir58:IFn:=
⟨(zr [zg 4 (.al [zo,zo,zo] true)] [0,1,4] [4]
 (zr [zm 7 0,
 zm 8 1,
 zc 9 137 [t7,t8],
 zm 6 9,
 zx 10 6 0,
 zx 11 6 1,
 zm 1 10,
 zm 5 11] [0,1,4,5] [4]
 (.seq (zr [zm 12 5,
 zj 13 12] [0,1,4,13] [4]
 (.cond t13
 (zr [zg 14 (.bld [zo,zo,zo] []),
 zn (.st t4 t14 3)] [4] [4]
 .ret)
 .skip))
 (zr [zm 15 0,
 zg 16 (.nck t15),
 zp 17 16 2,
 zk 18 17 1,
 zm 19 1,
 zg 20 (.ixs t18 t19 3),
 zl 21 20 3,
 zn (.st t4 t21 3)] [4] [4]
 .ret)))),
 [.cell 4 3 true],false⟩
def q0Wn:IC:=
 (.loop [3,6,7,8] [] (zr [zg 9 (.bin .lss t8 t7)] [3,6,7,8,9] []
 (.seq (.cond t9
 .skip
 (.exit 0))
 (.seq (.block 1 (zr [zg 10 (.ixs t6 t8 2),
 zl 11 10 2,
 zg 5 (.al [.nils,.nils] true),
 zn (.st t5 t11 2)] [3,5,6,7,8] [5]
 (.reg false [zm 12 3,
 zp 13 5 0,
 zk 14 13 1,
 zh 15 14,
 zg 16 (.bin .add t12 t15),
 zm 3 16] [3,6,7,8] [])))
 (.reg false [zg 17 (.bin .add t8 (zi 1)),
 zm 8 17] [3,6,7,8] [])))))
def ir59:IFn:=
⟨(zr [zg 2 (.mov (zi 0))] [0] []
 (zr [zg 3 (.mov (zi 0))] [0,3] []
 (.seq (zr [zm 6 0,
 zh 7 6,
 zg 8 (.mov (zi 0))] [3,6,7,8] []
 (.block 0 q0Wn))
 (zr [zm 18 3,
 zm 2 18] [2] []
 .ret)))),
 [.tmp 2],false⟩
def ir60:IFn:=
⟨(zr [zg 2 (.mov (.c (.p .nilp)))] [0] []
 (zr [zm 3 0,
 zm 4 0,
 zc 5 81 [t4],
 zm 6 0,
 zc 7 81 [t6],
 zg 8 (.bsr 7 1 [zo,zo,zo,zo,zo,zo,zo] [(0,t7)]),
 zg 9 (.bld [.p .nilp,zo,zo,zo,zo,zo,zo,zo,zo,zo,.nils] [(0,1,t3),(3,7,t5),(10,1,t8)]),
 zg 10 (.bx t9 11 false),
 zm 2 10] [2] []
 .ret)),
 [.tmp 2],false⟩
def q0Vj:IC:=
 (.loop [0,1,9,10,11] [] (zr [zg 12 (.bin .lss t11 t10)] [0,1,9,10,11,12] []
 (.seq (.cond t12
 .skip
 (.exit 0))
 (.seq (.block 1 (zr [zm 13 11,
 zg 14 (.ixs t9 t11 6),
 zl 15 14 6,
 zg 7 (.al [zo,zo,zo,.nils,.nils,.nils] true),
 zm 6 13,
 zn (.st t7 t15 6)] [0,1,6,7,9,10,11] [7]
 (zr [zm 16 1,
 zl 17 7 6,
 zg 18 (.callv t16 [t17] false),
 zm 8 18] [0,1,6,8,9,10,11] []
 (zr [zm 19 8,
 zg 20 (.bin .neq t19 (zi 0))] [0,1,6,8,9,10,11,20] []
 (.cond t20
 (zr [zm 21 6,
 zm 22 8,
 zm 4 21,
 zm 5 22] [4,5] []
 .ret)
 .skip)))))
 (.reg false [zg 23 (.bin .add t11 (zi 1)),
 zm 11 23] [0,1,9,10,11] [])))))
def ir61:IFn:=
⟨(zr [zg 4 (.mov (zi 0)),
 zg 5 (.mov (zi 0))] [0,1] []
 (.seq (zr [zm 9 0,
 zh 10 9,
 zg 11 (.mov (zi 0))] [0,1,9,10,11] []
 (.block 0 q0Vj))
 (zr [zm 24 0,
 zh 25 24,
 zm 4 25,
 zg 5 (.mov (zi 0))] [4,5] []
 .ret))),
 [.tmp 4,.tmp 5],false⟩
def ir62:IFn:=
⟨(zr [zg 3 (.bx t1 6 true),
 zg 4 (.mov (zi 0))] [0,3] [3]
 (.seq (.seq (.reg true [zm 6 0,
 zg 7 (.nck t6),
 zp 8 7 0,
 zk 9 8 1,
 zm 10 0,
 zg 11 (.nck t10),
 zp 12 11 3,
 zl 13 12 7,
 zg 14 (.ldl 3 t3 6 true),
 zc 15 33 [t9,t13,t14],
 zm 5 15] [0,3,5] [3])
 (zr [zm 16 5,
 zg 17 (.bin .neq t16 (zi 0))] [0,3,5,17] [3]
 (.cond t17
 (zr [zm 18 5,
 zm 4 18] [4] []
 .ret)
 .skip)))
 (.seq (.reg true [zm 19 0,
 zg 20 (.nck t19),
 zp 21 20 1,
 zm 22 0,
 zg 23 (.nck t22),
 zp 24 23 0,
 zk 25 24 1,
 zm 26 0,
 zg 27 (.nck t26),
 zp 28 27 3,
 zl 29 28 7,
 zg 30 (.ldl 3 t3 6 true),
 zc 31 46 [t25,t29,t30],
 zc 32 110 [t21,t31]] [0,3] [3])
 (.seq (.reg true [zm 33 0,
 zm 34 0,
 zg 35 (.nck t34),
 zp 36 35 0,
 zk 37 36 1,
 zm 38 0,
 zg 39 (.nck t38),
 zp 40 39 3,
 zl 41 40 7,
 zg 42 (.ldl 3 t3 6 true),
 zc 43 83 [t37,t41,t42],
 zg 44 (.nck t33),
 zp 45 44 3,
 zn (.st t45 t43 7)] [0] [])
 (.seq (.reg true [zm 46 0,
 zm 47 0,
 zg 48 (.nck t47),
 zp 49 48 10,
 zk 50 49 1,
 zm 51 0,
 zg 52 (.nck t51),
 zp 53 52 3,
 zl 54 53 7,
 zg 55 (.bsl 7 1 [zo,zo,zo,zo,zo,zo,zo] [(0,t54)]),
 zg 56 (.app t50 t55 7),
 zg 57 (.nck t46),
 zp 58 57 10,
 zn (.st t58 t56 1)] [] [])
 (zr [zg 4 (.mov (zi 0))] [4] []
 .ret)))))),
 [.tmp 4],false⟩
def ir63:IFn:=
⟨(zr [zg 2 (.al [zo,zo] true)] [0,2] [2]
 (.seq (zr [zm 3 0,
 zg 4 (.eqn .ptr false t3)] [0,2,4] [2]
 (.cond t4
 (zr [zg 5 (.bld [zo,zo] []),
 zn (.st t2 t5 2)] [2] [2]
 .ret)
 .skip))
 (zr [zm 6 0,
 zg 7 (.nck t6),
 zp 8 7 0,
 zl 9 8 2,
 zn (.st t2 t9 2)] [2] [2]
 .ret))),
 [.cell 2 2 true],false⟩
def ir64:IFn:=
⟨(zr [zg 3 (.bx t1 7 true),
 zg 4 (.mov zF)] [0,3] [3]
 (.seq (.reg true [zm 5 0,
 zg 6 (.ldl 3 t3 7 true),
 zc 7 89 [t5,t6],
 zm 8 7,
 zt 9 8 (.off t3 0),
 zt 10 8 (.ldl 3 t9 1 false),
 zt 11 8 (.mov t0),
 zt 12 8 (.nck t11),
 zt 13 8 (.off t12 0),
 zt 14 8 (.ld t13 1 false),
 zt 15 8 (.nck t14),
 zt 16 8 (.off t15 0),
 zt 17 8 (.ld t16 1 false),
 zt 18 8 (.call 138 [t17] false),
 zt 19 8 (.bin .eql t10 t18),
 zg 20 (.pick t8 t19 zF),
 zm 21 20,
 zt 22 21 (.off t3 3),
 zt 23 21 (.ldl 3 t22 1 false),
 zt 24 21 (.bin .eql t23 (zi 0)),
 zg 25 (.pick t21 t24 zF),
 zm 26 25,
 zt 27 26 (.off t3 2),
 zt 28 26 (.ldl 3 t27 1 false),
 zt 29 26 (.mov t0),
 zt 30 26 (.nck t29),
 zt 31 26 (.off t30 1),
 zt 32 26 (.off t31 20),
 zt 33 26 (.ld t32 1 false),
 zt 34 26 (.len t33),
 zt 35 26 (.bin .eql t28 t34),
 zg 36 (.pick t26 t35 zF),
 zm 37 36,
 zt 38 37 (.off t3 4),
 zt 39 37 (.ldl 3 t38 3 true),
 zt 40 37 (.mov t0),
 zt 41 37 (.nck t40),
 zt 42 37 (.off t41 24),
 zt 43 37 (.ld t42 3 true),
 zt 44 37 (.eqa false [true,true,true] t39 t43),
 zg 45 (.pick t37 t44 zF),
 zm 4 45] [4] [])
 .ret)),
 [.tmp 4],false⟩
def ir67:IFn:=
⟨(zr [zg 2 (.mov (zi 0))] [0] []
 (.seq (zr [zm 3 0,
 zg 4 (.bin .lss t3 (zi 0))] [0,4] []
 (.cond t4
 (zr [zg 2 (.mov (zi 0))] [2] []
 .ret)
 .skip))
 (.seq (zr [zm 5 0,
 zg 6 (.bin .gtr t5 (zi 1125899906842624))] [0,6] []
 (.cond t6
 (zr [zg 2 (.mov (zi 1125899906842624))] [2] []
 .ret)
 .skip))
 (zr [zm 7 0,
 zm 2 7] [2] []
 .ret)))),
 [.tmp 2],false⟩
def q14s:IC:=
 (.loop [1,4,5,6] [4,5] (.seq (zr [zm 9 6,
 zm 10 1,
 zh 11 10,
 zg 12 (.bin .lss t9 t11)] [1,4,5,6,12] [4,5]
 (.cond t12
 .skip
 (.exit 0)))
 (.seq (.block 1 (.reg true [zg 15 (.ldl 5 t5 2 true),
 zm 16 1,
 zm 17 6,
 zg 18 (.ixs t16 t17 1),
 zk 19 18 1,
 zg 20 (.bld [zo,zo] [(1,1,t19)]),
 zc 21 20 [t15,t20],
 zn (.stl 5 t5 t21 2)] [1,4,5,6] [4,5]))
 (.reg false [zm 13 6,
 zg 14 (.bin .add t13 (zi 1)),
 zm 6 14] [1,4,5,6] [4,5]))))
def ir75:IFn:=
⟨(zr [zg 4 (.al [zo,zo] true)] [0,1,4] [4]
 (zr [zg 5 (.al [zo,zo] true)] [0,1,4,5] [4,5]
 (.seq (zr [zm 7 0] [1,4,5,7] [4,5]
 (.cond t7
 (.reg false [zp 8 5 0,
 zn (.st t8 (zi 1) 1)] [1,4,5] [4,5])
 .skip))
 (.seq (zr [zg 6 (.mov (zi 0))] [1,4,5,6] [4,5]
 (.block 0 q14s))
 (zr [zl 22 5 2,
 zn (.st t4 t22 2)] [4] [4]
 .ret))))),
 [.cell 4 2 true],false⟩
def ir81:IFn:=
⟨(zr [zg 2 (.al [zo,zo,zo,zo,zo,zo,zo] true)] [0,2] [2]
 (zr [zm 3 0,
 zc 4 115 [t3],
 zc 5 161 [t4,(zi 0)],
 zg 6 (.bld [zo,zo,zo,zo,zo,zo,zo] [(0,1,t5)]),
 zn (.st t2 t6 7)] [2] [2]
 .ret)),
 [.cell 2 7 true],false⟩
def q0Vy:IC:=
 (.loop [0,3,4,14,15,16] [3,4] (zr [zg 17 (.bin .lss t16 t15)] [0,3,4,14,15,16,17] [3,4]
 (.seq (.cond t17
 .skip
 (.exit 0))
 (.seq (.block 1 (zr [zg 18 (.ixs t14 t16 1),
 zl 19 18 1,
 zg 7 (.al [.p .nilf] true),
 zn (.st t7 t19 1)] [0,3,4,7,14,15,16] [3,4,7]
 (zr [zp 21 7 0,
 zk 22 21 1,
 zm 23 0,
 zl 24 3 7,
 zg 25 (.callv t22 [t23,t24] false),
 zm 20 25,
 zx 26 20 0,
 zx 27 20 1,
 zg 8 (.al [zo,zo,zo,.nils,.nils,.nils] true),
 zn (.st t8 t26 6),
 zm 9 27] [0,3,4,8,9,14,15,16] [3,4,8]
 (zr [zm 28 9] [0,3,4,8,14,15,16,28] [3,4,8]
 (.cond t28
 (zr [zl 29 8 6,
 zn (.st t4 t29 6),
 zg 5 (.mov zT)] [4,5] [4]
 .ret)
 .skip)))))
 (.reg false [zg 30 (.bin .add t16 (zi 1)),
 zm 16 30] [0,3,4,14,15,16] [3,4])))))
def ir82:IFn:=
⟨(zr [zg 3 (.bx t1 7 true),
 zg 4 (.al [zo,zo,zo,.nils,.nils,.nils] true),
 zg 5 (.mov zF)] [0,3,4] [3,4]
 (.seq (zr [zg 10 (.bld [.p .nilf] [(0,1,(.c (.p (.fn 162))))]),
 zg 11 (.bld [.p .nilf] [(0,1,(.c (.p (.fn 163))))]),
 zg 12 (.bld [.p .nilf] [(0,1,(.c (.p (.fn 164))))]),
 zg 13 (.bld [.p .nilf] [(0,1,(.c (.p (.fn 165))))]),
 zg 14 (.bsl 1 4 [.p .nilf] [(0,t10),(1,t11),(2,t12),(3,t13)]),
 zh 15 14,
 zg 16 (.mov (zi 0))] [0,3,4,14,15,16] [3,4]
 (.block 0 q0Vy))
 (zr [zg 31 (.bld [zo,zo,zo,.nils,.nils,.nils] []),
 zn (.st t4 t31 6),
 zg 5 (.mov zF)] [4,5] [4]
 .ret))),
 [.cell 4 6 true,.tmp 5],false⟩
def q0Zb:IC:=
 (.loop [0,6,7,8,67,68,69] [6,7,8] (zr [zg 70 (.bin .lss t69 t68)] [0,6,7,8,67,68,69,70] [6,7,8]
 (.seq (.cond t70
 .skip
 (.exit 0))
 (.seq (.block 1 (zr [zg 71 (.ixs t67 t69 1),
 zk 72 71 1,
 zm 10 72] [0,6,7,8,10,67,68,69] [6,7,8]
 (.reg true [zg 73 (.ldl 8 t8 3 true),
 zm 74 0,
 zg 75 (.nck t74),
 zp 76 75 1,
 zp 77 76 21,
 zk 78 77 1,
 zm 79 10,
 zc 80 169 [t78,t79],
 zc 81 168 [t73,t80],
 zn (.stl 8 t8 t81 3)] [0,6,7,8,67,68,69] [6,7,8])))
 (.reg false [zg 82 (.bin .add t69 (zi 1)),
 zm 69 82] [0,6,7,8,67,68,69] [6,7,8])))))
def ir83:IFn:=
⟨(zr [zg 4 (.bx t1 7 true),
 zg 5 (.bx t2 6 true),
 zg 6 (.al [zo,zo,zo,zo,zo,zo,zo] true)] [0,4,5,6] [4,5,6]
 (.seq (zr [zm 11 0,
 zl 12 4 7,
 zc 13 89 [t11,t12],
 zj 14 13] [0,4,5,6,14] [4,5,6]
 (.cond t14
 (zr [zg 15 (.bld [zo,zo,zo,zo,zo,zo,zo] []),
 zn (.st t6 t15 7)] [6] [6]
 .ret)
 .skip))
 (.seq (.prep [7] (.reg true [zp 16 4 0,
 zg 17 (.ldl 4 t16 1 false),
 zp 18 4 1,
 zg 19 (.ldl 4 t18 1 false),
 zg 20 (.bin .add t19 (zi 1)),
 zm 21 0,
 zg 22 (.nck t21),
 zp 23 22 1,
 zp 24 23 0,
 zp 25 24 0,
 zk 26 25 1,
 zg 27 (.mnmx false t20 t26),
 zg 28 (.bld [zo,zo,zo,zo,zo,zo,zo] [(0,1,t17),(1,1,t27)]),
 zg 7 (.alp [zo,zo,zo,zo,zo,zo,zo]),
 zn (.stl 7 t7 t28 7)] [0,4,5,6,7] [4,5,6,7]))
 (.seq (zr [zp 29 5 0,
 zk 30 29 1,
 zg 31 (.bin .eql t30 (zi 1))] [0,4,5,6,7,31] [4,5,6,7]
 (.cond t31
 (.reg true [zm 32 0,
 zg 33 (.nck t32),
 zp 34 33 0,
 zk 35 34 1,
 zg 36 (.nck t35),
 zp 37 36 0,
 zk 38 37 1,
 zp 39 5 2,
 zg 40 (.ldl 5 t39 1 false),
 zc 41 161 [t38,t40],
 zp 42 7 0,
 zn (.stl 7 t42 t41 1)] [0,4,5,6,7] [4,5,6,7])
 .skip))
 (.seq (.reg true [zm 44 0,
 zg 45 (.nck t44),
 zp 46 45 1,
 zp 47 46 20,
 zk 48 47 1,
 zm 49 0,
 zg 50 (.ldl 4 t4 7 true),
 zp 51 5 2,
 zg 52 (.ldl 5 t51 1 false),
 zg 53 (.call 167 [t49,t50,t52] true),
 zp 54 5 3,
 zg 55 (.ldl 5 t54 1 false),
 zc 56 166 [t48,t53,t55],
 zm 43 56,
 zx 57 43 0,
 zx 58 43 1,
 zp 59 7 2,
 zn (.stl 7 t59 t57 1),
 zp 60 7 3,
 zn (.stl 7 t60 t58 1)] [0,4,5,6,7] [4,5,6,7])
 (zr [zp 61 4 4,
 zl 62 61 3,
 zg 8 (.al [zo,zo,zo] true),
 zn (.st t8 t62 3)] [0,5,6,7,8] [5,6,7,8]
 (.seq (zr [zp 63 5 4,
 zk 64 63 1,
 zp 65 5 5,
 zk 66 65 1,
 zg 67 (.bsl 1 2 [.nils] [(0,t64),(1,t66)]),
 zh 68 67,
 zg 69 (.mov (zi 0))] [0,6,7,8,67,68,69] [6,7,8]
 (.block 0 q0Zb))
 (zr [zl 83 8 3,
 zp 84 7 4,
 zn (.st t84 t83 3)] [6,7] [6,7]
 (zr [zl 85 7 7,
 zn (.st t6 t85 7)] [6] [6]
 .ret))))))))),
 [.cell 6 7 true],false⟩
def ir84:IFn:=
⟨(zr [zg 2 (.al [zo,zo,zo,zo,zo,zo,zo,zo,zo,zo,zo,zo,zo,zo,zo,zo,zo,zo,.p (.bool false),.nils,.nils,.nils] true)] [0,2] [2]
 (.seq (zr [zm 3 0,
 zg 4 (.eqn .ptr false t3)] [0,2,4] [2]
 (.cond t4
 (zr [zg 5 (.bld [zo,zo,zo,zo,zo,zo,zo,zo,zo,zo,zo,zo,zo,zo,zo,zo,zo,zo,.p (.bool false),.nils,.nils,.nils] []),
 zn (.st t2 t5 22)] [2] [2]
 .ret)
 .skip))
 (zr [zm 6 0,
 zg 7 (.nck t6),
 zp 8 7 1,
 zl 9 8 22,
 zn (.st t2 t9 22)] [2] [2]
 .ret))),
 [.cell 2 22 true],false⟩
def ir88:IFn:=
⟨(zr [zg 0 (.mov (.c (.p .nilm)))] [] []
 (zr [zg 1 (.mov (.c (.p (.fn 178))))] [1] []
 (zr [zg 2 (.mp .mkm []),
 zg 3 (.bld [zo,.p .nilf] [(0,1,(zi 19)),(1,1,(.c (.p (.fn 179))))]),
 zg 4 (.bld [zo,.p .nilf] [(0,1,(zi 18)),(1,1,(.c (.p (.fn 180))))]),
 zg 5 (.bld [zo,.p .nilf] [(0,1,(zi 14)),(1,1,(.c (.p (.fn 182))))]),
 zg 6 (.bld [zo,.p .nilf] [(0,1,(zi 15)),(1,1,(.c (.p (.fn 185))))]),
 zg 7 (.bld [zo,.p .nilf] [(0,1,(zi 16)),(1,1,(.c (.p (.fn 187))))]),
 zg 8 (.bsl 2 5 [zo,.p .nilf] [(0,t3),(1,t4),(2,t5),(3,t6),(4,t7)]),
 zn (.mp (.st none 1) [t2,(zi 1),t8]),
 zg 9 (.bld [zo,.p .nilf] [(0,1,(zi 19)),(1,1,(.c (.p (.fn 190))))]),
 zm 10 1,
 zg 11 (.bld [zo,.p .nilf] [(0,1,(zi 15)),(1,1,t10)]),
 zg 12 (.bld [zo,.p .nilf] [(0,1,(zi 16)),(1,1,(.c (.p (.fn 191))))]),
 zg 13 (.bsl 2 3 [zo,.p .nilf] [(0,t9),(1,t11),(2,t12)]),
 zn (.mp (.st none 1) [t2,(zi 2),t13]),
 zg 14 (.bld [zo,.p .nilf] [(0,1,(zi 19)),(1,1,(.c (.p (.fn 192))))]),
 zg 15 (.bld [zo,.p .nilf] [(0,1,(zi 15)),(1,1,(.c (.p (.fn 193))))]),
 zg 16 (.bld [zo,.p .nilf] [(0,1,(zi 16)),(1,1,(.c (.p (.fn 195))))]),
 zg 17 (.bsl 2 3 [zo,.p .nilf] [(0,t14),(1,t15),(2,t16)]),
 zn (.mp (.st none 1) [t2,(zi 3),t17]),
 zm 18 2,
 zm 0 18] [0] []
 .ret))),
 [.tmp 0],false⟩
def ir89:IFn:=
⟨(zr [zg 3 (.bx t1 7 true),
 zg 4 (.mov zF)] [0,3] [3]
 (.seq (.seq (.reg true [zm 6 0,
 zg 7 (.eqn .ptr false t6),
 zm 8 7,
 zf 9 8 (.off t3 0),
 zf 10 8 (.ldl 3 t9 1 false),
 zf 11 8 (.bin .lss t10 (zi 0)),
 zg 12 (.pick t8 zT t11),
 zm 13 12,
 zf 14 13 (.off t3 0),
 zf 15 13 (.ldl 3 t14 1 false),
 zf 16 13 (.mov t0),
 zf 17 13 (.nck t16),
 zf 18 13 (.off t17 0),
 zf 19 13 (.ld t18 1 false),
 zf 20 13 (.nck t19),
 zf 21 13 (.off t20 0),
 zf 22 13 (.ld t21 1 false),
 zf 23 13 (.call 138 [t22] false),
 zf 24 13 (.bin .gtr t15 t23),
 zg 25 (.pick t13 zT t24),
 zm 26 25,
 zf 27 26 (.mov t0),
 zf 28 26 (.nck t27),
 zf 29 26 (.off t28 0),
 zf 30 26 (.ld t29 1 false),
 zf 31 26 (.nck t30),
 zf 32 26 (.off t31 0),
 zf 33 26 (.ld t32 1 false),
 zf 34 26 (.off t3 0),
 zf 35 26 (.ldl 3 t34 1 false),
 zf 36 26 (.call 161 [t33,t35] false),
 zf 37 26 (.off t3 0),
 zf 38 26 (.ldl 3 t37 1 false),
 zf 39 26 (.bin .neq t36 t38),
 zg 40 (.pick t26 zT t39),
 zm 41 40,
 zf 42 41 (.off t3 1),
 zf 43 41 (.ldl 3 t42 1 false),
 zf 44 41 (.bin .lss t43 (zi 0)),
 zg 45 (.pick t41 zT t44),
 zm 46 45,
 zf 47 46 (.off t3 1),
 zf 48 46 (.ldl 3 t47 1 false),
 zf 49 46 (.mov t0),
 zf 50 46 (.nck t49),
 zf 51 46 (.off t50 1),
 zf 52 46 (.off t51 0),
 zf 53 46 (.off t52 0),
 zf 54 46 (.ld t53 1 false),
 zf 55 46 (.bin .gtr t48 t54),
 zg 56 (.pick t46 zT t55)] [0,3,56] [3])
 (.cond t56
 (zr [zg 4 (.mov zF)] [4] []
 .ret)
 .skip))
 (zr [zp 57 3 4,
 zl 58 57 3,
 zg 5 (.al [zo,zo,zo] true),
 zn (.st t5 t58 3)] [0,3,5] [3,5]
 (.seq (.reg true [zm 59 0,
 zg 60 (.ldl 3 t3 7 true),
 zc 61 196 [t59,t60],
 zm 62 61,
 zt 63 62 (.bld [zo,zo,zo] []),
 zt 64 62 (.ldl 5 t5 3 true),
 zt 65 62 (.call 197 [t63,t64] false),
 zg 66 (.pick t62 t65 zF),
 zm 67 66,
 zt 68 67 (.ldl 5 t5 3 true),
 zt 69 67 (.mov t0),
 zt 70 67 (.nck t69),
 zt 71 67 (.off t70 0),
 zt 72 67 (.ld t71 1 false),
 zt 73 67 (.nck t72),
 zt 74 67 (.off t73 2),
 zt 75 67 (.ld t74 1 false),
 zt 76 67 (.off t3 0),
 zt 77 67 (.ldl 3 t76 1 false),
 zt 78 67 (.call 58 [t75,t77] false),
 zt 79 67 (.call 197 [t68,t78] false),
 zg 80 (.pick t67 t79 zF),
 zm 4 80] [4] [])
 .ret)))),
 [.tmp 4],false⟩
def ir90:IFn:=
⟨(zr [zg 1 (.bx t0 36 true),
 zg 2 (.mov zF)] [1] [1]
 (zr [zp 3 1 0,
 zk 4 3 1,
 zp 5 1 1,
 zl 6 5 7,
 zp 7 1 8,
 zl 8 7 6,
 zc 9 100 [t4,t6,t8],
 zg 10 (.fldv t9 4 1 false),
 zm 2 10] [2] []
 .ret)),
 [.tmp 2],false⟩
def ir91:IFn:=
⟨(zr [zg 2 (.bx t0 6 true),
 zg 3 (.bx t1 6 true),
 zg 4 (.mov zF)] [2,3] [2,3]
 (zr [zp 5 2 0,
 zk 6 5 1,
 zp 7 3 0,
 zk 8 7 1,
 zg 9 (.bin .eql t6 t8),
 zm 10 9,
 zt 11 10 (.off t2 1),
 zt 12 10 (.ld t11 1 false),
 zt 13 10 (.off t3 1),
 zt 14 10 (.ld t13 1 false),
 zt 15 10 (.bin .eql t12 t14),
 zg 16 (.pick t10 t15 zF),
 zm 17 16,
 zt 18 17 (.off t2 2),
 zt 19 17 (.ld t18 1 false),
 zt 20 17 (.off t3 2),
 zt 21 17 (.ld t20 1 false),
 zt 22 17 (.bin .eql t19 t21),
 zg 23 (.pick t17 t22 zF),
 zm 24 23,
 zt 25 24 (.off t2 3),
 zt 26 24 (.ld t25 1 false),
 zt 27 24 (.off t3 3),
 zt 28 24 (.ld t27 1 false),
 zt 29 24 (.call 198 [t26,t28] false),
 zg 30 (.pick t24 t29 zF),
 zm 31 30,
 zt 32 31 (.off t2 4),
 zt 33 31 (.ld t32 1 false),
 zt 34 31 (.off t3 4),
 zt 35 31 (.ld t34 1 false),
 zt 36 31 (.call 199 [t33,t35] false),
 zg 37 (.pick t31 t36 zF),
 zm 38 37,
 zt 39 38 (.off t2 5),
 zt 40 38 (.ld t39 1 false),
 zt 41 38 (.off t3 5),
 zt 42 38 (.ld t41 1 false),
 zt 43 38 (.call 199 [t40,t42] false),
 zg 44 (.pick t38 t43 zF),
 zm 4 44] [4] []
 .ret)),
 [.tmp 4],false⟩
def ir100:IFn:=
⟨(zr [zg 4 (.bx t1 7 true),
 zg 5 (.bx t2 6 true),
 zg 6 (.al [zo,zo,zo,.p (.bool false),.p (.bool false),zo,zo,zo,zo,zo] true)] [0,4,5,6] [4,5,6]
 (zr [zg 7 (.al [zo,zo,zo,.p (.bool false),.p (.bool false),zo,zo,zo,zo,zo] true)] [0,4,5,6,7] [4,5,6,7]
 (.seq (zr [zm 10 0,
 zl 11 4 7,
 zc 12 89 [t10,t11],
 zj 13 12] [0,4,5,6,7,13] [4,5,6,7]
 (.cond t13
 (zr [zl 14 7 10,
 zn (.st t6 t14 10)] [6] [6]
 .ret)
 .skip))
 (zr [zm 15 0,
 zc 16 84 [t15],
 zg 8 (.al [zo,zo,zo,zo,zo,zo,zo,zo,zo,zo,zo,zo,zo,zo,zo,zo,zo,zo,.p (.bool false),.nils,.nils,.nils] true),
 zn (.st t8 t16 22)] [0,4,5,6,7,8] [4,5,6,7,8]
 (zr [zp 17 8 20,
 zk 18 17 1,
 zp 19 5 3,
 zk 20 19 1,
 zp 21 8 0,
 zp 22 21 6,
 zk 23 22 1,
 zc 24 209 [t18,t20,t23],
 zp 25 7 0,
 zn (.st t25 t24 1)] [0,4,5,6,7,8] [4,5,6,7,8]
 (.seq (zr [zp 26 5 0,
 zk 27 26 1] [0,4,5,6,7,8,27] [4,5,6,7,8]
 (.block 0 (zr [zg 29 (.bin .eql t27 (zi 1)),
 zm 28 29] [0,4,5,6,7,8,27,28] [4,5,6,7,8]
 (.cond t28
 (.reg false [zp 30 8 0,
 zl 31 30 19,
 zp 32 8 21,
 zk 33 32 1,
 zp 34 5 4,
 zk 35 34 1,
 zp 36 5 5,
 zk 37 36 1,
 zg 38 (.bld [.nils,.nils] [(0,1,t35),(1,1,t37)]),
 zc 39 210 [t31,t33,t38],
 zp 40 7 1,
 zn (.st t40 t39 1)] [0,4,5,6,7,8] [4,5,6,7,8])
 (zr [zg 42 (.bin .eql t27 (zi 2)),
 zm 41 42] [0,4,5,6,7,8,41] [4,5,6,7,8]
 (.cond t41
 (.reg false [zp 43 8 0,
 zl 44 43 19,
 zp 45 8 21,
 zk 46 45 1,
 zp 47 5 4,
 zk 48 47 1,
 zc 49 211 [t44,t46,t48],
 zp 50 7 1,
 zn (.st t50 t49 1)] [0,4,5,6,7,8] [4,5,6,7,8])
 .skip))))))
 (.seq (.reg true [zm 51 0,
 zg 52 (.ldl 4 t4 7 true),
 zc 53 212 [t51,t52],
 zp 54 7 0,
 zg 55 (.ldl 7 t54 1 false),
 zg 56 (.bin .sub t53 t55),
 zp 57 7 1,
 zg 58 (.ldl 7 t57 1 false),
 zg 59 (.bin .sub t56 t58),
 zp 60 7 2,
 zn (.stl 7 t60 t59 1)] [0,4,5,6,7,8] [4,5,6,7,8])
 (zr [zm 61 0,
 zl 62 5 6,
 zc 63 213 [t61,t62],
 zp 64 7 3,
 zn (.st t64 t63 1)] [0,4,5,6,7,8] [4,5,6,7,8]
 (zr [zp 65 5 3,
 zk 66 65 1,
 zh 67 66,
 zg 68 (.bin .gtr t67 (zi 0)),
 zm 69 68,
 zt 70 69 (.off t7 0),
 zt 71 69 (.ld t70 1 false),
 zt 72 69 (.off t8 0),
 zt 73 69 (.off t72 8),
 zt 74 69 (.ld t73 1 false),
 zt 75 69 (.bin .gtr t71 t74),
 zg 76 (.pick t69 t75 zF),
 zm 9 76] [0,4,5,6,7,9] [4,5,6,7]
 (.seq (zr [zp 77 5 0,
 zk 78 77 1,
 zg 79 (.bin .neq t78 (zi 1))] [0,4,5,6,7,9,79] [4,5,6,7]
 (.cond t79
 (zr [zm 80 9,
 zm 81 80,
 zf 82 81 (.off t7 2),
 zf 83 81 (.ld t82 1 false),
 zf 84 81 (.bin .lss t83 (zi 0)),
 zg 85 (.pick t81 zT t84),
 zp 86 7 4,
 zn (.st t86 t85 1)] [6,7] [6,7]
 (zr [zl 87 7 10,
 zn (.st t6 t87 10)] [6] [6]
 .ret))
 .skip))
 (.seq (.reg true [zm 88 0,
 zc 89 215 [t88],
 zp 90 4 0,
 zg 91 (.ldl 4 t90 1 false),
 zp 92 5 2,
 zg 93 (.ldl 5 t92 1 false),
 zc 94 216 [t89,t91,t93],
 zp 95 7 2,
 zg 96 (.ldl 7 t95 1 false),
 zp 97 7 3,
 zg 98 (.ldl 7 t97 1 false),
 zc 99 214 [t94,t96,t98],
 zp 100 7 5,
 zn (.stl 7 t100 t99 5)] [6,7,9] [6,7])
 (zr [zm 101 9,
 zm 102 101,
 zf 103 102 (.off t7 5),
 zf 104 102 (.off t103 0),
 zf 105 102 (.ld t104 1 false),
 zf 106 102 (.bin .eql t105 (zi 3)),
 zg 107 (.pick t102 zT t106),
 zp 108 7 4,
 zn (.st t108 t107 1)] [6,7] [6,7]
 (zr [zl 109 7 10,
 zn (.st t6 t109 10)] [6] [6]
 .ret))))))))))))),
 [.cell 6 10 true],false⟩
def ir101:IFn:=
⟨(zr [zg 3 (.bx t0 5 true),
 zg 6 (.mov (zi 0))] [1,2,3] [3]
 (zr [zm 7 1,
 zg 8 (.mnmx true t7 (zi 0)),
 zg 9 (.mnmx false t8 (zi 1125899906842624)),
 zm 1 9] [1,2,3] [3]
 (.seq (zr [zp 10 3 0,
 zk 11 10 1] [1,2,3,11] [3]
 (.block 0 (.seq (.block 3 (.seq (.block 2 (.seq (.block 1 (.seq (.seq (zr [zg 13 (.bin .eql t11 (zi 0)),
 zm 12 13] [1,2,3,11,12] [3]
 (.cond t12
 (.exit 1)
 .skip))
 (.seq (zr [zg 15 (.bin .eql t11 (zi 1)),
 zm 14 15] [1,3,11,14] [3]
 (.cond t14
 (.exit 2)
 .skip))
 (zr [zg 17 (.bin .eql t11 (zi 2)),
 zm 16 17] [3,16] [3]
 (.cond t16
 (.exit 3)
 .skip))))
 (.exit 0)))
 (.seq (.seq (zr [zp 18 3 4,
 zk 19 18 1,
 zg 20 (.bin .eql t19 (zi 0)),
 zm 21 20,
 zf 22 21 (.mov t2),
 zg 23 (.pick t21 zT t22)] [1,3,23] [3]
 (.cond t23
 (zr [zg 6 (.mov (zi 0))] [6] []
 .ret)
 .skip))
 (zr [zp 24 3 4,
 zk 25 24 1,
 zm 26 1,
 zc 27 217 [t25,t26],
 zm 6 27] [6] []
 .ret))
 (.exit 0))))
 (.seq (zr [zp 28 3 1,
 zk 29 28 1,
 zg 30 (.bin .gtr t29 (zi 0))] [1,3,30] [3]
 (.cond t30
 (zr [zg 6 (.mov (zi 0))] [6] []
 .ret)
 .skip))
 (.reg false [zp 31 3 3,
 zk 32 31 1,
 zm 33 1,
 zg 34 (.bin .add t32 t33),
 zp 35 3 3,
 zn (.st t35 t34 1)] [3] [3]))))
 (.seq (zr [zp 36 3 2,
 zk 37 36 1,
 zp 38 3 3,
 zk 39 38 1,
 zc 40 217 [t37,t39],
 zm 6 40] [6] []
 .ret)
 (.exit 0)))))
 (zr [zg 6 (.mov (zi 10000))] [6] []
 .ret)))),
 [.tmp 6],false⟩
def ir102:IFn:=
⟨(zr [zm 10 1,
 zc 11 115 [t10],
 zm 12 2,
 zc 13 218 [t11,t12],
 zm 9 13,
 zx 14 9 0,
 zx 15 9 1,
 zg 6 (.al [zo,zo,zo,zo,zo,zo,zo] true),
 zn (.st t6 t14 7),
 zm 7 15] [0,1,2,6,7] [6]
 (.seq (zr [zm 16 7,
 zj 17 16,
 zm 18 17,
 zf 19 18 (.mov t1),
 zf 20 18 (.call 115 [t19] false),
 zf 21 18 (.mov t2),
 zf 22 18 (.call 219 [t20,t21] false),
 zf 23 18 (.un .not t22),
 zg 24 (.pick t18 zT t23),
 zm 25 24,
 zf 26 25 (.ld t6 7 true),
 zf 27 25 (.call 220 [t26] false),
 zg 28 (.pick t25 zT t27)] [0,1,2,6,28] [6]
 (.cond t28
 .ret
 .skip))
 (zr [zm 29 1,
 zc 30 84 [t29],
 zg 31 (.fldv t30 0 19 true),
 zg 8 (.al [zo,zo,zo,zo,zo,zo,zo,zo,zo,zo,zo,zo,zo,zo,zo,zo,zo,zo,.p (.bool false)] true),
 zn (.st t8 t31 19)] [0,1,2,6,8] [6,8]
 (.seq (zr [zp 32 6 0,
 zk 33 32 1,
 zg 34 (.bin .eql t33 (zi 3))] [0,1,2,6,8,34] [6,8]
 (.cond t34
 (.reg false [zm 35 0,
 zp 36 6 6,
 zk 37 36 1,
 zg 38 (.mnmx true t37 (zi 0)),
 zg 39 (.nck t35),
 zp 40 39 2,
 zn (.st t40 t38 1)] [0,1,2,8] [8])
 .skip))
 (.seq (zr [zm 41 1,
 zc 42 115 [t41],
 zm 43 2,
 zc 44 221 [t42,t43]] [0,1,2,8,44] [8]
 (.cond t44
 (.reg false [zm 45 0,
 zp 46 8 13,
 zk 47 46 1,
 zg 48 (.nck t45),
 zp 49 48 3,
 zn (.st t49 t47 1)] [0,1,2,8] [8])
 .skip))
 (zr [zm 50 1,
 zc 51 115 [t50],
 zm 52 2,
 zc 53 222 [t51,t52]] [0,8,53] [8]
 (.cond t53
 (.reg false [zm 54 0,
 zp 55 8 14,
 zk 56 55 1,
 zg 57 (.nck t54),
 zp 58 57 4,
 zn (.st t58 t56 1)] [] [])
 .skip))))))),
 [],false⟩
def ir103:IFn:=
⟨(zr [zg 4 (.bx t1 22 true)] [0,2,4] [4]
 (zr [zm 7 0,
 zp 8 4 0,
 zp 9 8 15,
 zk 10 9 1,
 zg 11 (.nck t7),
 zp 12 11 5,
 zn (.st t12 t10 1)] [0,2,4] [4]
 (zr [zm 13 2,
 zm 14 2,
 zh 15 14,
 zg 16 (.bin .sub t15 (zi 1)),
 zg 17 (.ixs t13 t16 3),
 zl 18 17 3,
 zg 6 (.al [zo,zo,zo] true),
 zn (.st t6 t18 3)] [0,4,6] [4,6]
 (zr [zp 19 6 0,
 zk 20 19 1,
 zg 21 (.bin .geq t20 (zi 0)),
 zm 22 21,
 zt 23 22 (.off t6 0),
 zt 24 22 (.ld t23 1 false),
 zt 25 22 (.off t4 20),
 zt 26 22 (.ld t25 1 false),
 zt 27 22 (.len t26),
 zt 28 22 (.bin .lss t24 t27),
 zg 29 (.pick t22 t28 zF)] [0,4,6,29] [4,6]
 (.cond t29
 (.reg true [zm 30 0,
 zp 31 4 20,
 zg 32 (.ldl 4 t31 1 false),
 zp 33 6 0,
 zg 34 (.ldl 6 t33 1 false),
 zg 35 (.ixs t32 t34 2),
 zl 36 35 2,
 zp 37 6 2,
 zg 38 (.ldl 6 t37 1 false),
 zc 39 223 [t36,t38],
 zg 40 (.nck t30),
 zp 41 40 6,
 zn (.st t41 t39 1)] [] [])
 .skip))))),
 [],false⟩
def ir104:IFn:=
⟨(zr [zg 3 (.bx t1 7 true),
 zg 4 (.al [zo,zo,zo] true)] [0,3,4] [3,4]
 (.seq (zr [zm 5 0,
 zl 6 3 7,
 zc 7 89 [t5,t6],
 zj 8 7] [0,3,4,8] [3,4]
 (.cond t8
 (zr [zg 9 (.bld [zo,zo,zo] []),
 zn (.st t4 t9 3)] [4] [4]
 .ret)
 .skip))
 (.seq (.reg true [zp 10 3 4,
 zg 11 (.ldl 3 t10 3 true),
 zm 12 0,
 zg 13 (.nck t12),
 zp 14 13 0,
 zk 15 14 1,
 zg 16 (.nck t15),
 zp 17 16 2,
 zk 18 17 1,
 zp 19 3 0,
 zg 20 (.ldl 3 t19 1 false),
 zc 21 58 [t18,t20],
 zc 22 224 [t11,t21],
 zn (.stl 4 t4 t22 3)] [4] [4])
 .ret))),
 [.cell 4 3 true],false⟩
def q10z:IC:=
 (.loop [3,6,7] [] (zr [zg 8 (.bin .lss t7 (zi 3))] [3,6,7,8] []
 (.seq (.cond t8
 .skip
 (.exit 0))
 (.seq (.block 1 (zr [zg 9 (.ixv t6 t7 1 3 false),
 zm 5 9] [3,5,6,7] []
 (.reg false [zm 10 3,
 zm 11 5,
 zc 12 225 [t11,(zi (-1073741824)),(zi 1073741824)],
 zg 13 (.bin .add t10 t12),
 zm 3 13] [3,6,7] [])))
 (.reg false [zg 14 (.bin .add t7 (zi 1)),
 zm 7 14] [3,6,7] [])))))
def ir105:IFn:=
⟨(zr [zg 1 (.bx t0 3 true),
 zg 2 (.mov (zi 0))] [1] [1]
 (zr [zg 3 (.mov (zi 0))] [1,3] [1]
 (.seq (zr [zl 6 1 3,
 zg 7 (.mov (zi 0))] [3,6,7] []
 (.block 0 q10z))
 (zr [zm 15 3,
 zm 2 15] [2] []
 .ret)))),
 [.tmp 2],false⟩
def ir110:IFn:=
⟨(zr [zg 3 (.bx t1 2 true)] [0,3] [3]
 (zr [zm 4 0,
 zg 5 (.eqn .ptr true t4)] [0,3,5] [3]
 (.cond t5
 (.reg true [zm 6 0,
 zm 7 0,
 zg 8 (.nck t7),
 zp 9 8 0,
 zl 10 9 2,
 zg 11 (.ldl 3 t3 2 true),
 zc 12 228 [t10,t11],
 zg 13 (.nck t6),
 zp 14 13 0,
 zn (.st t14 t12 2)] [] [])
 .skip))),
 [],false⟩
def ir111:IFn:=
⟨(zr [zg 1 (.bx t0 9 true),
 zg 2 (.al [zo,zo] true)] [1,2] [1,2]
 (.seq (zr [zl 3 1 9,
 zg 4 (.bld [.p (.bool false),zo,zo,zo,zo,zo,zo,zo,zo] []),
 zg 5 (.eqa false [false,true,true,true,true,true,true,true,true] t3 t4)] [1,2,5] [1,2]
 (.cond t5
 (zr [zg 6 (.bld [zo,zo] []),
 zn (.st t2 t6 2)] [2] [2]
 .ret)
 .skip))
 (zr [zp 7 1 0,
 zk 8 7 1,
 zp 9 1 1,
 zk 10 9 1,
 zp 11 1 2,
 zk 12 11 1,
 zp 13 1 3,
 zk 14 13 1,
 zp 15 1 4,
 zk 16 15 1,
 zp 17 1 5,
 zk 18 17 1,
 zp 19 1 6,
 zk 20 19 1,
 zp 21 1 7,
 zk 22 21 1,
 zp 23 1 8,
 zk 24 23 1,
 zg 25 (.bsl 1 8 [zo] [(0,t10),(1,t12),(2,t14),(3,t16),(4,t18),(5,t20),(6,t22),(7,t24)]),
 zc 26 120 [t8,t25],
 zn (.st t2 t26 2)] [2] [2]
 .ret))),
 [.cell 2 2 true],false⟩
def ir112:IFn:=
⟨(zr [zg 2 (.mov (zi 0))] [0,1] []
 (zr [zp 3 0 5,
 zl 4 3 5,
 zp 5 1 0,
 zp 6 5 5,
 zk 7 6 1,
 zp 8 0 3,
 zk 9 8 1,
 zc 10 101 [t4,t7,t9],
 zm 2 10] [2] []
 .ret)),
 [.tmp 2],false⟩
def ir113:IFn:=
⟨(zr [zg 3 (.mov (zi 0))] [0,1,2] []
 (.seq (.reg true [zp 4 0 0,
 zl 5 4 19,
 zk 6 1 1,
 zg 7 (.call 115 [t6] true),
 zp 8 2 2,
 zk 9 8 1,
 zc 10 114 [t5,t7,t9],
 zm 3 10] [3] [])
 .ret)),
 [.tmp 3],false⟩
def ir114:IFn:=
⟨(zr [zg 3 (.bx t0 19 true),
 zg 6 (.mov (zi 0))] [1,2,3] [3]
 (zr [zm 11 1,
 zm 12 2,
 zc 13 218 [t11,t12],
 zm 10 13,
 zx 14 10 0,
 zx 15 10 1,
 zg 7 (.al [zo,zo,zo,zo,zo,zo,zo] true),
 zn (.st t7 t14 7),
 zm 8 15] [1,2,3,7,8] [3,7]
 (.seq (zr [zm 16 8,
 zj 17 16,
 zm 18 17,
 zf 19 18 (.mov t1),
 zf 20 18 (.mov t2),
 zf 21 18 (.call 219 [t19,t20] false),
 zf 22 18 (.un .not t21),
 zg 23 (.pick t18 zT t22),
 zm 24 23,
 zf 25 24 (.ld t7 7 true),
 zf 26 24 (.call 220 [t25] false),
 zg 27 (.pick t24 zT t26)] [1,2,3,7,27] [3,7]
 (.cond t27
 (zr [zg 6 (.mov (zi 0))] [6] []
 .ret)
 .skip))
 (zr [zg 9 (.mov (zi 0))] [1,2,3,7,9] [3,7]
 (.seq (zr [zp 28 7 0,
 zk 29 28 1,
 zg 30 (.bin .eql t29 (zi 3))] [1,2,3,7,9,30] [3,7]
 (.cond t30
 (.reg false [zp 31 7 6,
 zk 32 31 1,
 zg 33 (.mnmx true t32 (zi 0)),
 zm 9 33] [1,2,3,9] [3])
 .skip))
 (.seq (zr [zm 34 1,
 zm 35 2,
 zc 36 221 [t34,t35]] [1,2,3,9,36] [3]
 (.cond t36
 (.reg false [zm 37 9,
 zp 38 3 13,
 zk 39 38 1,
 zg 40 (.mnmx true t39 (zi 0)),
 zg 41 (.bin .add t37 t40),
 zm 9 41] [1,2,3,9] [3])
 .skip))
 (.seq (zr [zm 42 1,
 zm 43 2,
 zc 44 222 [t42,t43]] [3,9,44] [3]
 (.cond t44
 (.reg false [zm 45 9,
 zp 46 3 14,
 zk 47 46 1,
 zg 48 (.mnmx true t47 (zi 0)),
 zg 49 (.bin .add t45 t48),
 zm 9 49] [9] [])
 .skip))
 (zr [zm 50 9,
 zm 6 50] [6] []
 .ret)))))))),
 [.tmp 6],false⟩
def ir115:IFn:=
⟨(zr [zg 2 (.mov (.c (.p .nilp)))] [0] []
 (zr [zm 3 0,
 zc 4 229 [t3],
 zc 5 230 [t4],
 zm 2 5] [2] []
 .ret)),
 [.tmp 2],false⟩
def ir116:IFn:=
⟨(zr [zg 1 (.mov (zi 0))] [0] []
 (zr [zp 2 0 0,
 zp 3 2 17,
 zk 4 3 1,
 zm 1 4] [1] []
 .ret)),
 [.tmp 1],false⟩
def ir117:IFn:=
⟨(zr [zg 2 (.mov (zi 0))] [0,1] []
 (.seq (.reg true [zp 3 0 0,
 zp 4 3 15,
 zk 5 4 1,
 zl 6 0 22,
 zp 7 1 3,
 zk 8 7 1,
 zg 9 (.call 118 [t6,t8] true),
 zg 10 (.bin .add t5 t9),
 zm 2 10] [2] [])
 .ret)),
 [.tmp 2],false⟩
def ir118:IFn:=
⟨(zr [zg 2 (.bx t0 22 true),
 zg 4 (.mov (zi 0))] [1,2] [2]
 (zr [zm 6 1,
 zm 7 1,
 zh 8 7,
 zg 9 (.bin .sub t8 (zi 1)),
 zg 10 (.ixs t6 t9 3),
 zl 11 10 3,
 zg 5 (.al [zo,zo,zo] true),
 zn (.st t5 t11 3)] [2,5] [2,5]
 (.seq (zr [zp 12 5 0,
 zk 13 12 1,
 zg 14 (.bin .lss t13 (zi 0)),
 zm 15 14,
 zf 16 15 (.off t5 0),
 zf 17 15 (.ld t16 1 false),
 zf 18 15 (.off t2 20),
 zf 19 15 (.ld t18 1 false),
 zf 20 15 (.len t19),
 zf 21 15 (.bin .geq t17 t20),
 zg 22 (.pick t15 zT t21)] [2,5,22] [2,5]
 (.cond t22
 (zr [zg 4 (.mov (zi 0))] [4] []
 .ret)
 .skip))
 (.seq (.reg true [zp 23 2 20,
 zg 24 (.ldl 2 t23 1 false),
 zp 25 5 0,
 zg 26 (.ldl 5 t25 1 false),
 zg 27 (.ixs t24 t26 2),
 zl 28 27 2,
 zp 29 5 2,
 zg 30 (.ldl 5 t29 1 false),
 zc 31 223 [t28,t30],
 zm 4 31] [4] [])
 .ret)))),
 [.tmp 4],false⟩
def ir119:IFn:=
⟨(zr [zg 3 (.mov (zi 0))] [0,1,2] []
 (.seq (.reg true [zp 4 0 0,
 zp 5 4 16,
 zk 6 5 1,
 zk 7 1 1,
 zl 8 2 7,
 zg 9 (.call 104 [t7,t8] true),
 zg 10 (.call 105 [t9] true),
 zg 11 (.bin .mul t6 t10),
 zm 3 11] [3] [])
 .ret)),
 [.tmp 3],false⟩
def q110:IC:=
 (.loop [4,5,6,14,15,16] [4] (zr [zg 17 (.bin .lss t16 t15)] [4,5,6,14,15,16,17] [4]
 (.seq (.cond t17
 .skip
 (.exit 0))
 (.seq (.block 1 (zr [zg 18 (.ixs t14 t16 1),
 zk 19 18 1,
 zm 8 19] [4,5,6,8,14,15,16] [4]
 (.reg false [zm 20 6,
 zm 21 8,
 zg 22 (.bld [zo,zo] [(1,1,t21)]),
 zg 23 (.callv t20 [t22] false)] [4,5,6,14,15,16] [4])))
 (.reg false [zg 24 (.bin .add t16 (zi 1)),
 zm 16 24] [4,5,6,14,15,16] [4])))))
def ir120:IFn:=
⟨(zr [zg 4 (.al [zo,zo] true)] [0,1,4] [4]
 (zr [zg 5 (.al [zo,zo] false)] [0,1,4,5] [4]
 (zr [zg 9 (.mkf (.func 110) [t5] []),
 zm 6 9] [0,1,4,5,6] [4]
 (.seq (zr [zm 10 0] [1,4,5,6,10] [4]
 (.cond t10
 (.reg false [zm 11 6,
 zg 12 (.bld [zo,zo] [(0,1,(zi 1))]),
 zg 13 (.callv t11 [t12] false)] [1,4,5,6] [4])
 .skip))
 (.seq (zr [zm 14 1,
 zh 15 14,
 zg 16 (.mov (zi 0))] [4,5,6,14,15,16] [4]
 (.block 0 q110))
 (zr [zc 25 63 [t5],
 zn (.st t4 t25 2)] [4] [4]
 .ret)))))),
 [.cell 4 2 true],false⟩
def ir121:IFn:=
⟨(zr [zg 2 (.bx t0 2 true),
 zg 3 (.bx t1 2 true),
 zg 4 (.mov zF)] [2,3] [2,3]
 (zr [zl 5 2 2,
 zl 6 3 2,
 zc 7 231 [t5,t6],
 zg 8 (.bin .lss t7 (zi 0)),
 zm 4 8] [4] []
 .ret)),
 [.tmp 4],false⟩
def ir122:IFn:=
⟨(zr [zg 1 (.bx t0 9 true),
 zg 2 (.al [zo,zo] true)] [1,2] [1,2]
 (zr [zp 3 1 0,
 zk 4 3 1,
 zp 5 1 1,
 zk 6 5 1,
 zp 7 1 2,
 zk 8 7 1,
 zp 9 1 3,
 zk 10 9 1,
 zp 11 1 4,
 zk 12 11 1,
 zp 13 1 5,
 zk 14 13 1,
 zp 15 1 6,
 zk 16 15 1,
 zp 17 1 7,
 zk 18 17 1,
 zp 19 1 8,
 zk 20 19 1,
 zg 21 (.bsl 1 8 [zo] [(0,t6),(1,t8),(2,t10),(3,t12),(4,t14),(5,t16),(6,t18),(7,t20)]),
 zc 22 75 [t4,t21],
 zn (.st t2 t22 2)] [2] [2]
 .ret)),
 [.cell 2 2 true],false⟩
def q0g1:IC:=
 (.loop [1,7,8,9] [1] (zr [zg 10 (.bin .lss t9 t8)] [1,7,8,9,10] [1]
 (.seq (.cond t10
 .skip
 (.exit 0))
 (.seq (.block 1 (zr [zg 11 (.ixs t7 t9 2),
 zl 12 11 2,
 zg 5 (.al [zo,.p .nilf] true),
 zn (.st t5 t12 2)] [1,5,7,8,9] [1,5]
 (zr [zp 13 5 1,
 zk 14 13 1,
 zl 15 1 22,
 zg 16 (.callv t14 [t15] false),
 zm 6 16] [1,5,6,7,8,9] [1,5]
 (zr [zm 17 6,
 zg 18 (.bin .geq t17 (zi 0))] [1,5,6,7,8,9,18] [1,5]
 (.cond t18
 (zr [zp 19 5 0,
 zk 20 19 1,
 zm 21 6,
 zm 2 20,
 zm 3 21] [2,3] []
 .ret)
 .skip)))))
 (.reg false [zg 22 (.bin .add t9 (zi 1)),
 zm 9 22] [1,7,8,9] [1])))))
def ir123:IFn:=
⟨(zr [zg 1 (.bx t0 22 true),
 zg 2 (.mov (zi 0)),
 zg 3 (.mov (zi 0))] [1] [1]
 (.seq (zr [zc 7 232 [],
 zh 8 7,
 zg 9 (.mov (zi 0))] [1,7,8,9] [1]
 (.block 0 q0g1))
 (zr [zg 2 (.mov (zi 0)),
 zg 3 (.mov (zi 0))] [2,3] []
 .ret))),
 [.tmp 2,.tmp 3],false⟩
def ir124:IFn:=
⟨(zr [zg 2 (.mov (.c (.nils)))] [0] []
 (.seq (zr [zm 3 0,
 zg 4 (.eqn .sl false t3)] [0,4] []
 (.cond t4
 (zr [zg 2 (.mov (.c (.nils)))] [2] []
 .ret)
 .skip))
 (zr [zg 5 (.bsl 7 0 [zo,zo,zo,zo,zo,zo,zo] []),
 zm 6 0,
 zg 7 (.app t5 t6 7),
 zm 2 7] [2] []
 .ret))),
 [.tmp 2],true⟩
def ir125:IFn:=
⟨(zr [zg 2 (.mov (.c (.nils)))] [0] []
 (.seq (zr [zm 3 0,
 zg 4 (.eqn .sl false t3)] [0,4] []
 (.cond t4
 (zr [zg 2 (.mov (.c (.nils)))] [2] []
 .ret)
 .skip))
 (zr [zg 5 (.bsl 3 0 [zo,zo,zo] []),
 zm 6 0,
 zg 7 (.app t5 t6 3),
 zm 2 7] [2] []
 .ret))),
 [.tmp 2],true⟩
def ir126:IFn:=
⟨(zr [zg 2 (.mov (.c (.nils)))] [0] []
 (.seq (zr [zm 3 0,
 zg 4 (.eqn .sl false t3)] [0,4] []
 (.cond t4
 (zr [zg 2 (.mov (.c (.nils)))] [2] []
 .ret)
 .skip))
 (zr [zg 5 (.bsl 1 0 [zo] []),
 zm 6 0,
 zg 7 (.app t5 t6 1),
 zm 2 7] [2] []
 .ret))),
 [.tmp 2],true⟩
def ir127:IFn:=
⟨(zr [zg 2 (.mov (.c (.nils)))] [0] []
 (.seq (zr [zm 3 0,
 zg 4 (.eqn .sl false t3)] [0,4] []
 (.cond t4
 (zr [zg 2 (.mov (.c (.nils)))] [2] []
 .ret)
 .skip))
 (zr [zg 5 (.bsl 1 0 [zo] []),
 zm 6 0,
 zg 7 (.app t5 t6 1),
 zm 2 7] [2] []
 .ret))),
 [.tmp 2],true⟩
def q0Vz:IC:=
 (.loop [2,5,11,12] [2] (zr [zg 13 (.bin .lss t12 t11)] [2,5,11,12,13] [2]
 (.seq (.cond t13
 .skip
 (.exit 0))
 (.seq (.block 1 (zr [zm 14 12,
 zm 6 14] [2,5,6,11,12] [2]
 (zr [zm 15 5,
 zm 16 6,
 zg 17 (.ixs t15 t16 7),
 zm 7 17] [2,5,7,11,12] [2]
 (zr [zm 18 7,
 zg 19 (.nck t18),
 zp 20 19 0,
 zk 21 20 1] [2,5,7,11,12,21] [2]
 (.block 2 (zr [zg 23 (.bin .eql t21 (zi 1)),
 zm 22 23] [2,5,7,11,12,21,22] [2]
 (.cond t22
 (.reg true [zg 24 (.ldl 2 t2 1 true),
 zm 25 7,
 zg 26 (.nck t25),
 zp 27 26 1,
 zg 28 (.bsl 1 1 [.p .nilp] [(0,t27)]),
 zc 29 130 [t24,(.c (.p (.fn 132))),t28]] [2,5,11,12] [2])
 (zr [zg 31 (.bin .eql t21 (zi 2)),
 zm 30 31] [2,5,7,11,12,30] [2]
 (.cond t30
 (.seq (.reg true [zg 32 (.ldl 2 t2 1 true),
 zm 33 7,
 zg 34 (.nck t33),
 zp 35 34 1,
 zg 36 (.bsl 1 1 [.p .nilp] [(0,t35)]),
 zc 37 130 [t32,(.c (.p (.fn 233))),t36]] [2,5,7,11,12] [2])
 (.reg false [zm 38 7,
 zm 39 7,
 zm 40 7,
 zg 41 (.nck t38),
 zp 42 41 3,
 zn (.st t42 (zi 0) 1),
 zg 43 (.nck t39),
 zp 44 43 4,
 zn (.st t44 (zi 0) 1),
 zg 45 (.nck t40),
 zp 46 45 5,
 zn (.st t46 (zi 0) 1)] [2,5,11,12] [2]))
 .skip)))))))))
 (.reg false [zg 47 (.bin .add t12 (zi 1)),
 zm 12 47] [2,5,11,12] [2])))))
def ir128:IFn:=
⟨(zr [zg 2 (.bx t0 1 true),
 zg 4 (.mov (.c (.nils)))] [1,2] [2]
 (zr [zm 8 1,
 zc 9 124 [t8],
 zm 5 9] [2,5] [2]
 (.seq (zr [zm 10 5,
 zh 11 10,
 zg 12 (.mov (zi 0))] [2,5,11,12] [2]
 (.block 0 q0Vz))
 (zr [zm 48 5,
 zm 4 48] [4] []
 .ret)))),
 [.tmp 4],false⟩
def q0W0:IC:=
 (.loop [2,5,6,12,13,14,34,35] [2] (zr [zg 36 (.bin .lss t35 t34)] [2,5,6,12,13,14,34,35,36] [2]
 (.seq (.cond t36
 .skip
 (.exit 2))
 (.seq (.block 3 (zr [zm 37 35,
 zm 8 37] [2,5,6,8,12,13,14,34,35] [2]
 (.reg true [zg 38 (.ldl 2 t2 1 true),
 zm 39 5,
 zm 40 6,
 zg 41 (.ixs t39 t40 2),
 zp 42 41 0,
 zk 43 42 1,
 zm 44 8,
 zg 45 (.ixs t43 t44 1),
 zg 46 (.bsl 1 1 [.p .nilp] [(0,t45)]),
 zc 47 130 [t38,(.c (.p (.fn 132))),t46]] [2,5,6,12,13,14,34,35] [2])))
 (.reg false [zg 48 (.bin .add t35 (zi 1)),
 zm 35 48] [2,5,6,12,13,14,34,35] [2])))))
def q0Wo:IC:=
 (.loop [2,5,12,13,14] [2] (zr [zg 15 (.bin .lss t14 t13)] [2,5,12,13,14,15] [2]
 (.seq (.cond t15
 .skip
 (.exit 0))
 (.seq (.block 1 (zr [zm 16 14,
 zg 17 (.ixs t12 t14 2),
 zl 18 17 2,
 zg 7 (.al [.nils,.nils] true),
 zm 6 16,
 zn (.st t7 t18 2)] [2,5,6,7,12,13,14] [2,7]
 (.seq (.reg true [zm 19 5,
 zm 20 6,
 zp 21 7 0,
 zg 22 (.ldl 7 t21 1 false),
 zc 23 126 [t22],
 zp 24 7 1,
 zg 25 (.ldl 7 t24 1 false),
 zc 26 127 [t25],
 zg 27 (.bld [.nils,.nils] [(0,1,t23),(1,1,t26)]),
 zg 28 (.ixs t19 t20 2),
 zn (.st t28 t27 2)] [2,5,6,12,13,14] [2])
 (zr [zm 29 5,
 zm 30 6,
 zg 31 (.ixs t29 t30 2),
 zp 32 31 0,
 zk 33 32 1,
 zh 34 33,
 zg 35 (.mov (zi 0))] [2,5,6,12,13,14,34,35] [2]
 (.block 2 q0W0)))))
 (.reg false [zg 49 (.bin .add t14 (zi 1)),
 zm 14 49] [2,5,12,13,14] [2])))))
def ir129:IFn:=
⟨(zr [zg 2 (.bx t0 1 true),
 zg 4 (.mov (.c (.nils)))] [1,2] [2]
 (zr [zm 9 1,
 zh 10 9,
 zg 11 (.mks 2 [.nils,.nils] t10),
 zm 5 11] [1,2,5] [2]
 (.seq (zr [zm 12 1,
 zh 13 12,
 zg 14 (.mov (zi 0))] [2,5,12,13,14] [2]
 (.block 0 q0Wo))
 (zr [zm 50 5,
 zm 4 50] [4] []
 .ret)))),
 [.tmp 4],false⟩
def q0W1:IC:=
 (.loop [1,3,8,9,10] [3] (zr [zg 11 (.bin .lss t10 t9)] [1,3,8,9,10,11] [3]
 (.seq (.cond t11
 .skip
 (.exit 0))
 (.seq (.block 1 (zr [zg 12 (.ixs t8 t10 1),
 zk 13 12 1,
 zm 7 13] [1,3,7,8,9,10] [3]
 (.reg true [zm 14 7,
 zm 15 1,
 zm 16 7,
 zg 17 (.nck t16),
 zk 18 17 1,
 zp 19 3 0,
 zg 20 (.ldl 3 t19 1 false),
 zg 21 (.callv t15 [t18,t20] false),
 zg 22 (.nck t14),
 zn (.st t22 t21 1)] [1,3,8,9,10] [3])))
 (.reg false [zg 23 (.bin .add t10 (zi 1)),
 zm 10 23] [1,3,8,9,10] [3])))))
def ir130:IFn:=
⟨(zr [zg 3 (.bx t0 1 true)] [1,2,3] [3]
 (zr [zm 8 2,
 zh 9 8,
 zg 10 (.mov (zi 0))] [1,3,8,9,10] [3]
 (.block 0 q0W1))),
 [],false⟩
def ir131:IFn:=
⟨(zr [zg 4 (.mov (zi 0))] [0,1] []
 (zr [zm 5 0,
 zm 6 1,
 zc 7 234 [t5,t6,(.c (.p (.fn 235)))],
 zm 4 7] [4] []
 .ret)),
 [.tmp 4],false⟩
def ir132:IFn:=
⟨(zr [zg 4 (.mov (zi 0))] [0,1] []
 (zr [zm 5 0,
 zm 6 1,
 zc 7 234 [t5,t6,(.c (.p (.fn 236)))],
 zm 4 7] [4] []
 .ret)),
 [.tmp 4],false⟩
end Go.EnvOf
