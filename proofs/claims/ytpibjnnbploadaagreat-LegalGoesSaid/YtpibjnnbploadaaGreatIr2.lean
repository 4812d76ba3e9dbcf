/- The engine's instructions for the functions, part 2. -/
import Derived.Test.YtpibjnnbploadaaGreatIrT
import Derived.Test.YtpibjnnbploadaaGreatEngAll2
namespace Go.EnvOf
open Go Go.Eng
set_option maxRecDepth 100000
def ir478:IFn:=
⟨(zr [zg 4 (.al [zo,zo,zo,zo,zo,zo,zo] true)] [0,1,4] [4]
 (zr [zm 5 0,
 zm 6 1,
 zg 7 (.bld [zo,zo,zo,zo,zo,zo,zo] [(0,1,(zi 1)),(1,1,t5),(2,1,t6)]),
 zn (.st t4 t7 7)] [4] [4]
 .ret)),
 [.cell 4 7 true],false⟩
def ir479:IFn:=
⟨(zr [zg 1 (.bx t0 7 true),
 zg 2 (.al [zo,zo,zo,zo,zo,zo,zo] true)] [1,2] [1,2]
 (zr [zp 3 1 1,
 zk 4 3 1,
 zp 5 1 3,
 zk 6 5 1,
 zp 7 1 4,
 zk 8 7 1,
 zp 9 1 5,
 zk 10 9 1,
 zc 11 480 [t4,t6,t8,t10],
 zn (.st t2 t11 7)] [2] [2]
 .ret)),
 [.cell 2 7 true],false⟩
def ir480:IFn:=
⟨(zr [zg 8 (.al [zo,zo,zo,zo,zo,zo,zo] true)] [0,1,2,3,8] [8]
 (zr [zm 9 0,
 zm 10 1,
 zm 11 2,
 zm 12 3,
 zg 13 (.bld [zo,zo,zo,zo,zo,zo,zo] [(0,1,(zi 2)),(1,1,t9),(3,1,t10),(4,1,t11),(5,1,t12)]),
 zn (.st t8 t13 7)] [8] [8]
 .ret)),
 [.cell 8 7 true],false⟩
def ir481:IFn:=
⟨(zr [zg 2 (.al [zo,zo,zo,zo,zo,zo,zo] true)] [0,2] [2]
 (zr [zm 3 0,
 zg 4 (.bld [zo,zo,zo,zo,zo,zo,zo] [(0,1,(zi 3)),(6,1,t3)]),
 zn (.st t2 t4 7)] [2] [2]
 .ret)),
 [.cell 2 7 true],false⟩
def ir482:IFn:=
⟨(zr [zg 2 (.mov zF)] [0] []
 (zr [zm 3 0,
 zg 4 (.bin .eql t3 (zi (-10000))),
 zm 5 4,
 zf 6 5 (.call 443 [(zi 10000)] false),
 zf 7 5 (.mov t0),
 zf 8 5 (.callv t6 [t7] false),
 zg 9 (.pick t5 zT t8),
 zm 2 9] [2] []
 .ret)),
 [.tmp 2],false⟩
def ir483:IFn:=
⟨(zr [zg 2 (.al [zo,zo,zo,zo,zo,zo,zo] true)] [0,2] [2]
 (zr [zm 3 0,
 zg 4 (.bld [zo,zo,zo,zo,zo,zo,zo] [(0,1,(zi 4)),(6,1,t3)]),
 zn (.st t2 t4 7)] [2] [2]
 .ret)),
 [.cell 2 7 true],false⟩
def ir484:IFn:=
⟨(zr [zg 2 (.al [zo,zo,zo,zo,zo,zo,zo] true)] [0,2] [2]
 (zr [zm 3 0,
 zg 4 (.bld [zo,zo,zo,zo,zo,zo,zo] [(0,1,(zi 5)),(6,1,t3)]),
 zn (.st t2 t4 7)] [2] [2]
 .ret)),
 [.cell 2 7 true],false⟩
def ir485:IFn:=
⟨(zr [zg 2 (.al [zo,zo,zo,zo,zo,zo,zo] true)] [0,2] [2]
 (zr [zm 3 0,
 zg 4 (.bld [zo,zo,zo,zo,zo,zo,zo] [(0,1,(zi 6)),(6,1,t3)]),
 zn (.st t2 t4 7)] [2] [2]
 .ret)),
 [.cell 2 7 true],false⟩
def ir486:IFn:=
⟨(zr [zg 1 (.bx t0 7 true),
 zg 2 (.al [zo,zo,zo,zo,zo,zo,zo] true)] [2] [2]
 (zr [zc 3 487 [],
 zn (.st t2 t3 7)] [2] [2]
 .ret)),
 [.cell 2 7 true],false⟩
def ir487:IFn:=
⟨(zr [zg 0 (.al [zo,zo,zo,zo,zo,zo,zo] true)] [0] [0]
 (zr [zg 1 (.bld [zo,zo,zo,zo,zo,zo,zo] [(0,1,(zi 7))]),
 zn (.st t0 t1 7)] [0] [0]
 .ret)),
 [.cell 0 7 true],false⟩
def ir488:IFn:=
⟨(zr [zg 3 (.mov zF)] [0,1] []
 (zr [zm 4 0,
 zg 5 (.bin .geq t4 (zi 0)),
 zm 6 5,
 zt 7 6 (.mov t0),
 zt 8 6 (.ld t1 1 false),
 zt 9 6 (.bin .leq t7 t8),
 zg 10 (.pick t6 t9 zF),
 zm 3 10] [3] []
 .ret)),
 [.tmp 3],false⟩
def ir489:IFn:=
⟨(zr [zg 4 (.mov zF)] [0,1] []
 (zr [zm 5 0,
 zm 6 1,
 zc 7 509 [t5,t6],
 zg 8 (.bin .geq t7 (zi 0)),
 zm 4 8] [4] []
 .ret)),
 [.tmp 4],false⟩
def ir490:IFn:=
⟨(zr [zg 2 (.mov zF)] [0] []
 (zr [zm 3 0,
 zg 4 (.bin .lss t3 (zi 0)),
 zm 5 4,
 zf 6 5 (.mov t0),
 zf 7 5 (.bin .gtr t6 (zi 1073741823)),
 zg 8 (.pick t5 zT t7),
 zm 2 8] [2] []
 .ret)),
 [.tmp 2],false⟩
def ir491:IFn:=
⟨(zr [zg 3 (.bx t1 1 false),
 zg 4 (.mov (zi 0))] [0,3] []
 (zr [zg 5 (.al [zo] false),
 zn (.st t5 (zi 0) 1)] [0,3,5] []
 (zr [zm 6 0,
 zg 7 (.mkf (.func 510) [] [t3,t5]),
 zc 8 440 [t6,t7],
 zm 4 8] [4] []
 .ret))),
 [.tmp 4],false⟩
def q0xt:IC:=
 (.loop [0,1,7,8] [] (zr [zg 9 (.bin .lss t8 t7)] [0,1,7,8,9] []
 (.seq (.cond t9
 .skip
 (.exit 0))
 (.seq (.block 1 (zr [zm 10 8,
 zm 5 10] [0,1,5,7,8] []
 (zr [zm 11 1,
 zm 12 0,
 zm 13 5,
 zg 14 (.ixs t12 t13 1),
 zk 15 14 1,
 zg 16 (.callv t11 [t15] false)] [0,1,5,7,8,16] []
 (.cond t16
 (zr [zm 17 5,
 zm 4 17] [4] []
 .ret)
 .skip))))
 (.reg false [zg 18 (.bin .add t8 (zi 1)),
 zm 8 18] [0,1,7,8] [])))))
def ir509:IFn:=
⟨(zr [zg 4 (.mov (zi 0))] [0,1] []
 (.seq (zr [zm 6 0,
 zh 7 6,
 zg 8 (.mov (zi 0))] [0,1,7,8] []
 (.block 0 q0xt))
 (zr [zg 4 (.mov (zi (-1)))] [4] []
 .ret))),
 [.tmp 4],false⟩
def ir510:IFn:=
⟨(zr [zg 3 (.bx t0 7 true),
 zg 4 (.mov zF)] [1,2,3] [3]
 (.seq (zr [zp 5 3 0,
 zk 6 5 1,
 zk 7 1 1,
 zg 8 (.bin .neq t6 t7)] [2,3,8] [3]
 (.cond t8
 (zr [zg 4 (.mov zF)] [4] []
 .ret)
 .skip))
 (zr [zk 9 2 1,
 zg 10 (.bin .add t9 (zi 1)),
 zn (.st t2 t10 1)] [2,3] [3]
 (zr [zp 11 3 6,
 zk 12 11 1,
 zk 13 2 1,
 zg 14 (.bin .sub t13 (zi 1)),
 zg 15 (.bin .neq t12 t14),
 zm 4 15] [4] []
 .ret)))),
 [.tmp 4],false⟩
end Go.EnvOf
