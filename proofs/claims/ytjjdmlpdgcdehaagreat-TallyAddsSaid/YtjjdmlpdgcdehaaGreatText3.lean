/- The program's functions and the document's, evaluated. -/
import Derived.KernelRfl
import Derived.Test.YtjjdmlpdgcdehaaGreatText2
import Derived.Test.YtjjdmlpdgcdehaaGreatText1
set_option linter.unusedSimpArgs false
set_option linter.unusedVariables false
namespace Go.EnvOf
open Go Go.Eng
def note (lines pens:List Int):V:= .agg [sli lines,sli pens]
end Go.EnvOf
namespace Go.EnvOf
open Go Go.Eng
end Go.EnvOf
namespace Go.EnvOf
open Go Go.Eng
end Go.EnvOf
namespace Go.EnvOf
open Go Go.Eng
end Go.EnvOf
namespace Go.EnvOf
open Go Go.Eng
set_option maxRecDepth 100000
structure Taly where
 x0:Int
 x1:Int
 x2:Int
 x3:Int
 x4:Int
 x5:Int
 x6:Int
 x7:Int
 x8:Int
 x9:Int
 deriving Inhabited,DecidableEq
abbrev cTaly (t:Taly):List V:=[vI t.x0,vI t.x1,vI t.x2,vI t.x3,vI t.x4,vI t.x5,vI t.x6,vI t.x7,vI t.x8,vI t.x9]
abbrev vTaly (t:Taly):V:= .agg (cTaly t)
abbrev farT:Int:=1125899906842624
def hldT (n:Int):Int:=min (max n (-farT)) farT
def sumY (a b:Int):Int:=hldT (hldT a+hldT b)
theorem q11j (n:Int): -farT≤hldT n∧hldT n≤farT:=by unfold hldT farT;omega
theorem q11h (a b:Int):IntKind.i64.wrap (hldT a+hldT b)=hldT a+hldT b:=by
 have h1:=q11j a
 have h2:=q11j b
 unfold farT at*
 exact w64 (by omega) (by omega)
theorem q11s (n:Int) (H:Heap):clD EE (.p (.fn 205)) [vI n] H=some (vI (hldT n),none):=by
 rw [q002 _ _ _ _ _ _ (noP _) fn205]
 simp [St.enter,q000,hldT,farT]
theorem q11t (n:Int) (H:Heap):clD EE (.p (.fn 206)) [vI n] H=some (vI (hldT n),none):=by
 rw [q002 _ _ _ _ _ _ (noP _) fn206]
 simp [St.enter,q000,hldT,farT]
theorem q11u (a b:Int) (H:Heap):clD EE (.p (.fn 96)) [vI a,vI b] H=some (vI (sumY a b),none):=by
 rw [q002 _ _ _ _ _ _ (noP _) fn96]
 have h:=fun n H=>q11s n H
 have w:=q11h a b
 unfold sumY
 simp [St.enter,q000,h,w]
theorem q11v (a b:Int) (H:Heap):clD EE (.p (.fn 97)) [vI a,vI b] H=some (vI (sumY a b),none):=by
 rw [q002 _ _ _ _ _ _ (noP _) fn97]
 have h:=fun n H=>q11t n H
 have w:=q11h a b
 unfold sumY
 simp [St.enter,q000,h,w]
def addY (a b:Taly):Taly:=⟨sumY a.x0 b.x0,sumY a.x1 b.x1,sumY a.x2 b.x2,sumY a.x3 b.x3,sumY a.x4 b.x4,sumY a.x5 b.x5,sumY a.x6 b.x6,sumY a.x7 b.x7,sumY a.x8 b.x8,sumY a.x9 b.x9⟩
theorem q11i (id:Nat) (H:Heap) (cs:List V) (h:Eng.boxAt H id=some cs) (hc:cs.length=10):clD EE (.p (.fn 95)) [.ptr id 0] H=some (.agg [.ptr id 0,.ptr id 1,.ptr id 2,.ptr id 3,.ptr id 4,.ptr id 5,.ptr id 6,.ptr id 7,.ptr id 8],some (H,[])):=by
 rw [q002 _ _ _ _ _ _ (noP _) fn95]
 have pb: ∀k,V.plainB (.ptr id k)=false:=fun _=>rfl
 simp [St.enter,q000,subs,q001,h,hc,pb]
theorem q11g (a b:Taly) (H:Heap):clD EE (.p (.fn 36)) [vTaly a,vTaly b] H=some (vTaly (addY a b),none):=by
 rw [q002 _ _ _ _ _ _ (noP _) fn36]
 have s1:=fun a b H=>q11u a b H
 have s2:=fun a b H=>q11v a b H
 have n1:=q11i H.length (H++[.box (cTaly a),.box (cTaly b)]) (cTaly a) (by simp) rfl
 have n2:=q11i (H.length+1) (H++[.box (cTaly a),.box (cTaly b)]) (cTaly b) (by simp) rfl
 have w:IntKind.i64.wrap 1=1∧IntKind.i64.wrap 2=2∧IntKind.i64.wrap 3=3∧IntKind.i64.wrap 4=4∧IntKind.i64.wrap 5=5∧IntKind.i64.wrap 6=6∧IntKind.i64.wrap 7=7∧IntKind.i64.wrap 8=8∧IntKind.i64.wrap 9=9:=by decide
 obtain ⟨w1,w2,w3,w4,w5,w6,w7,w8,w9⟩:=w
 unfold addY
 simp [St.enter,q000,subs,q001,n1,n2,q11m,q003,ixvV,ixaV,q007,s1,s2,w1,w2,w3,w4,w5,w6,w7,w8,w9]
theorem q11k (n:Int) (H:Heap):clD EE (.p (.fn 207)) [vI n] H=some (vI (hldT n),none):=by
 rw [q002 _ _ _ _ _ _ (noP _) fn207]
 have e:max (-1125899906842624) (min n 1125899906842624)=hldT n:=by unfold hldT farT;omega
 simp [St.enter,q000,e]
theorem q11n (a b:Int) (H:Heap):clD EE (.p (.fn 98)) [vI a,vI b] H=some (vI (sumY a b),none):=by
 rw [q002 _ _ _ _ _ _ (noP _) fn98]
 have h:=fun n H=>q11k n H
 have w:=q11h a b
 unfold sumY
 simp [St.enter,q000,h,w]
theorem q11o (a b:Taly) (H:Heap):clD EE (.p (.fn 38)) [vTaly a,vTaly b] H=some (vTaly (addY a b),none):=by
 rw [q002 _ _ _ _ _ _ (noP _) fn38]
 have h:=fun a b H=>q11n a b H
 unfold addY
 simp [St.enter,q000,subs,q001,h]
theorem q11l (a:Taly) (H:Heap):clD EE (.p (.fn 37)) [vTaly a] H=some (vTaly a,none):=by
 rw [q002 _ _ _ _ _ _ (noP _) fn37]
 simp [St.enter,q000,subs,q001]
theorem q11f (a b:Int):sumY a b=sumY b a:=by unfold sumY;rw [Int.add_comm]
theorem q11p (a b:Taly):addY a b=addY b a:=by
 unfold addY
 rw [q11f a.x0,q11f a.x1,q11f a.x2,q11f a.x3,q11f a.x4,q11f a.x5,q11f a.x6,q11f a.x7,q11f a.x8,q11f a.x9]
theorem tallyAdds_ev (a b:Taly):clD EE (.p (.fn 8)) [vTaly a,vTaly b] []=some (.p (.bool true),none):=by
 rw [q002 _ _ _ _ _ _ (noP _) fn8]
 have aw:=fun H=>q11q H
 have h1:=fun H=>q11g a b H
 have h2:=fun H=>q11g b a H
 rw [q11p b a] at h2
 have r:=fun H=>q11o a b H
 have p:=fun t H=>q11l t H
 generalize addY a b=S at*
 simp [St.enter,q000,subs,q001,h1,h2,r,p,aw]
structure Piece where
 n:Int
 frm:Int
 to:Int
 deriving Inhabited,DecidableEq
def q00g (x:Piece):List PV:=[.int .i64 x.n,.int .i64 x.frm,.int .i64 x.to]
@[simp] theorem q0E7 (x:Piece):(q00g x).length=3:=rfl
end Go.EnvOf
