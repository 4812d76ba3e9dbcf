/- The program's functions and the document's, evaluated. -/
import Derived.Test.YtjjdmlpdgcdehaaGreatText7
import Derived.Test.YtjjdmlpdgcdehaaGreatText5
import Derived.Test.YtjjdmlpdgcdehaaGreatText2
set_option linter.unusedSimpArgs false
set_option linter.unusedVariables false
namespace Go.EnvOf
open Go Go.Eng
set_option maxRecDepth 100000
structure Setg where
 how:Int
 ord:Int
 by_:Int
 of_:Int
 left:Int
 deriving Inhabited,DecidableEq
def zeroG:Setg:=⟨0,0,0,0,0⟩
abbrev vSet (s:Setg):V:= .agg [vI s.how,vI s.ord,vI s.by_,vI s.of_,vI s.left]
def fairL (n:Int):Bool:=decide (0≤n)&&decide (n≤1125899906842624)
def q03k (t:Tot):Bool:=fairL t.s0&&fairL t.s1&&fairL t.s2&&fairL t.s3&&fairL t.nat&&fairL t.shr
def q04u (t:Tot) (h:Int):Bool:=q03k t&&decide (-1125899906842624≤h)&&decide (h≤1125899906842624)
def ordT (t:Tot):Int:=if t.s3≠0 then 3 else if t.s2≠0 then 2 else if t.s1≠0 then 1 else 0
def strT (t:Tot) (o:Int):Int:=if o=3 then t.s3 else if o=2 then t.s2 else if o=1 then t.s1 else t.s0
def q07f (t:Tot) (h:Int) (last:Bool):Setg:=
 if q04u t h=true then
  if h-t.nat=0 then zeroG
  else if 0<h-t.nat∧0<strT t (ordT t)∧ ¬(last=true∧ordT t=0) then ⟨1,ordT t,h-t.nat,strT t (ordT t),0⟩
  else if 0<h-t.nat then ⟨0,0,0,0,h-t.nat⟩
  else if 0≤t.shr+(h-t.nat) then ⟨2,0,-(h-t.nat),t.shr,0⟩
  else ⟨3,0,t.shr,t.shr,t.shr+(h-t.nat)⟩
 else zeroG
theorem q0z1 (n:Int) (H:Heap):clD EE (.p (.fn 381)) [vI n] H=some (vB (fairL n),none):=by
 rw [q002 _ _ _ _ _ _ (noP _) fn381]
 unfold fairL
 by_cases h:0≤n<;>simp [St.enter,q000,h]
theorem q0ro (t:Tot) (H:Heap):clD EE (.p (.fn 347)) [vTot t] H=some (vB (q03k t),none):=by
 rw [q002 _ _ _ _ _ _ (noP _) fn347]
 have f:=fun n H=>q0z1 n H
 have w1:IntKind.i64.wrap 1=1:=by decide
 have w2:IntKind.i64.wrap 2=2:=by decide
 have w3:IntKind.i64.wrap 3=3:=by decide
 have w4:IntKind.i64.wrap 4=4:=by decide
 unfold q03k
 cases c0:fairL t.s0 with
 |false=>simp [St.enter,q000,subs,q001,f,q0Vv,q003,ixvV,ixaV,q007,w1,w2,w3,w4,c0]
 |true=>
  cases c1:fairL t.s1 with
  |false=>simp [St.enter,q000,subs,q001,f,q0Vv,q003,ixvV,ixaV,q007,w1,w2,w3,w4,c0,c1]
  |true=>
   cases c2:fairL t.s2 with
   |false=>simp [St.enter,q000,subs,q001,f,q0Vv,q003,ixvV,ixaV,q007,w1,w2,w3,w4,c0,c1,c2]
   |true=>
    cases c3:fairL t.s3 with
    |false=>simp [St.enter,q000,subs,q001,f,q0Vv,q003,ixvV,ixaV,q007,w1,w2,w3,w4,c0,c1,c2,c3]
    |true=>
     cases c4:fairL t.nat<;>simp [St.enter,q000,subs,q001,f,q0Vv,q003,ixvV,ixaV,q007,w1,w2,w3,w4,c0,c1,c2,c3,c4]
theorem q0ve (t:Tot) (h:Int) (H:Heap):clD EE (.p (.fn 285)) [vTot t,vI h] H=some (vB (q04u t h),none):=by
 rw [q002 _ _ _ _ _ _ (noP _) fn285]
 have f:=fun H=>q0ro t H
 unfold q04u
 cases c:q03k t with
 |false=>simp [St.enter,q000,subs,q001,f,c]
 |true=>by_cases d: -1125899906842624≤h<;>simp [St.enter,q000,subs,q001,f,c,d]
theorem q0Cm (t:Tot) (H:Heap):clD EE (.p (.fn 286)) [vTot t] H=some (vI (ordT t),none):=by
 rw [q002 _ _ _ _ _ _ (noP _) fn286]
 have w0:IntKind.i64.wrap 0=0:=by decide
 have w1:IntKind.i64.wrap 1=1:=by decide
 have w2:IntKind.i64.wrap 2=2:=by decide
 unfold ordT
 by_cases c3:t.s3=0
 ·by_cases c2:t.s2=0
  ·by_cases c1:t.s1=0
   ·simp [St.enter,q000,subs,q001,q0Wa,q003,ixaV,q007,w0,w1,w2,c3,c2,c1]
   ·simp [St.enter,q000,subs,q001,q0Wa,q003,ixaV,q007,w0,w1,w2,c3,c2,c1]
  ·simp [St.enter,q000,subs,q001,q0Wa,q003,ixaV,q007,w0,w1,w2,c3,c2]
 ·simp [St.enter,q000,subs,q001,q0Wa,q003,ixaV,q007,w0,w1,w2,c3]
theorem q0j5 {t:Tot} {h:Int} (r:q04u t h=true):(0≤t.nat∧t.nat≤1125899906842624)∧(0≤t.shr∧t.shr≤1125899906842624)∧ -1125899906842624≤h∧h≤1125899906842624:=by
 unfold q04u q03k fairL at r
 simp at r
 omega
theorem q0vf (t:Tot) (h:Int) (last:Bool) (H:Heap):clD EE (.p (.fn 214)) [vTot t,vI h,vB last] H=some (vSet (q07f t h last),none):=by
 rw [q002 _ _ _ _ _ _ (noP _) fn214]
 have r:=fun H=>q0ve t h H
 have o:=fun H=>q0Cm t H
 unfold q07f
 cases c:q04u t h with
 |false=>simp [St.enter,q000,subs,q001,r,c,zeroG]
 |true=>
  have bd:=q0j5 c
  obtain ⟨need,hneed⟩: ∃n,h-t.nat=n:=⟨_,rfl⟩
  have w1:IntKind.i64.wrap (h-t.nat)=need:=by rw [hneed];exact w64 (by omega) (by omega)
  have w2:IntKind.i64.wrap (t.shr+need)=t.shr+need:=w64 (by omega) (by omega)
  have w3:IntKind.i64.wrap (-need)= -need:=w64 (by omega) (by omega)
  have ho:(ordT t=0∧strT t (ordT t)=t.s0)∨(ordT t=1∧strT t (ordT t)=t.s1)∨(ordT t=2∧strT t (ordT t)=t.s2)∨(ordT t=3∧strT t (ordT t)=t.s3):=by
   unfold ordT
   (repeat' split)<;>simp [strT]
  simp only [hneed]
  clear hneed bd
  generalize strT t (ordT t)=str at*
  generalize ordT t=od at*
  simp only [if_true]
  by_cases n0:need=0
  ·subst n0
   simp [St.enter,q000,subs,q001,r,c,o,w1,zeroG]
  ·by_cases n1:0<need
   ·rcases ho with ⟨rfl,rfl⟩|⟨rfl,rfl⟩|⟨rfl,rfl⟩|⟨rfl,rfl⟩
    ·by_cases s:0<t.s0
     ·cases last<;>simp [St.enter,q000,subs,q001,ixaV,q007,r,c,o,w1,w2,n0,n1,s]
     ·simp [St.enter,q000,subs,q001,ixaV,q007,r,c,o,w1,w2,n0,n1,s]
    ·by_cases s:0<t.s1
     ·cases last<;>simp [St.enter,q000,subs,q001,ixaV,q007,r,c,o,w1,w2,n0,n1,s]
     ·simp [St.enter,q000,subs,q001,ixaV,q007,r,c,o,w1,w2,n0,n1,s]
    ·by_cases s:0<t.s2
     ·cases last<;>simp [St.enter,q000,subs,q001,ixaV,q007,r,c,o,w1,w2,n0,n1,s]
     ·simp [St.enter,q000,subs,q001,ixaV,q007,r,c,o,w1,w2,n0,n1,s]
    ·by_cases s:0<t.s3
     ·cases last<;>simp [St.enter,q000,subs,q001,ixaV,q007,r,c,o,w1,w2,n0,n1,s]
     ·simp [St.enter,q000,subs,q001,ixaV,q007,r,c,o,w1,w2,n0,n1,s]
   ·by_cases n2:0≤t.shr+need
    ·simp [St.enter,q000,subs,q001,r,c,o,w1,w2,w3,n0,n1,n2]
    ·simp [St.enter,q000,subs,q001,r,c,o,w1,w2,n0,n1,n2]
def highA (g:Geom) (fs:List Float) (a b:List Int):Int:=IntKind.i64.wrap (highQ fs a g.sep+highQ fs b g.sep)
def q05p (g:Geom) (fs:List Float) (a:List Int):Int:=if highQ fs a g.sep=0 then 0 else IntKind.i64.wrap (highQ fs a g.sep-min (max g.sep 0) 1125899906842624)
theorem q0oc (g:Geom) (fs:List Float) (a b:List Int) (ha:a.length≤9223372036854775807) (hb:b.length≤9223372036854775807) (H:Heap):clD EE (.p (.fn 210)) [vGeom g,q005 fs,.agg [sli a,sli b]] H=some (vI (highA g fs a b),none):=by
 rw [q002 _ _ _ _ _ _ (noP _) fn210]
 have h1:=fun H=>q0Vw fs a g.sep H ha
 have h2:=fun H=>q0Vw fs b g.sep H hb
 unfold highA
 simp [St.enter,q000,subs,q001,h1,h2]
theorem q0mz (g:Geom) (fs:List Float) (a:List Int) (ha:a.length≤9223372036854775807) (H:Heap):clD EE (.p (.fn 211)) [vGeom g,q005 fs,sli a] H=some (vI (q05p g fs a),none):=by
 rw [q002 _ _ _ _ _ _ (noP _) fn211]
 have h1:=fun H=>q0Vw fs a g.sep H ha
 unfold q05p
 by_cases c:highQ fs a g.sep=0<;>simp [St.enter,q000,subs,q001,h1,c]
def lastC (l:List Item) (c:Colm):Bool:=decide (c.k=1)&&(decide (c.to=l.length)||match q02g l c.to with|some x=>decide (0<c.to)&&q05z x|none=>false)
theorem q0z2 (j:Job) (c:Colm) (H:Heap):clD EE (.p (.fn 213)) [vW j,vColm c] H=some (vB (lastC j.items c),none):=by
 rw [q002 _ _ _ _ _ _ (noP _) fn213]
 have l1:=fun H=>q07e j H
 have l2:=fun H=>q021 j.items H
 have l3:=fun H=>q07s j.items c.to H
 have f:=fun x H=>q0j4 x H
 unfold lastC
 by_cases k:c.k=1
 ·by_cases e:c.to=j.items.length
  ·cases h:q02g j.items c.to with
   |none=>rw [h] at l3;simp [St.enter,q000,subs,q001,l1,l2,l3,k,←e]
   |some x=>rw [h] at l3;simp [St.enter,q000,subs,q001,l1,l2,l3,k,←e]
  ·cases h:q02g j.items c.to with
   |none=>rw [h] at l3;simp [St.enter,q000,subs,q001,l1,l2,l3,k,e]
   |some x=>
    rw [h] at l3
    by_cases p:0<c.to<;>simp [St.enter,q000,subs,q001,l1,l2,l3,k,e,p,f]
 ·simp [St.enter,q000,subs,q001,k]
structure Fcts where
 notes:Int
 floats:Int
 room:Int
 last:Bool
 over:Bool
 set_:Setg
def zeroF:Fcts:=⟨0,0,0,false,false,zeroG⟩
abbrev vFcts (f:Fcts):V:= .agg [vI f.notes,vI f.floats,vI f.room,vB f.last,vB f.over,vI f.set_.how,vI f.set_.ord,vI f.set_.by_,vI f.set_.of_,vI f.set_.left]
def q05b (j:Job) (c:Colm):Int:=if c.k=1 then highA j.g j.floats c.top c.bot else if c.k=2 then q05p j.g j.floats c.top else 0
def roomC (j:Job) (s:Stt) (c:Colm):Int:=IntKind.i64.wrap (IntKind.i64.wrap (highS j s-highP j.notes c.notes j.g.rule)-q05b j c)
def fullC (j:Job) (c:Colm):Bool:=decide (0<c.notes.length)&&decide (j.g.noteMost<highP j.notes c.notes j.g.rule)
def setC (j:Job) (s:Stt) (c:Colm):Setg:=q07f (sumT j.items s.at_ c.to) (roomC j s c) (lastC j.items c)
def q02r (j:Job) (s:Stt) (c:Colm):Fcts:=
 if q01g j s=true then
  ⟨highP j.notes c.notes j.g.rule,q05b j c,roomC j s c,lastC j.items c,
   if c.k=1 then fullC j c||decide ((setC j s c).how=3) else fullC j c||decide (roomC j s c<0),
   if c.k=1 then setC j s c else zeroG⟩
 else zeroF
theorem q0Xp (j:Job) (w:okW j) (hf: ∀x∈j.items,fairI x) (s:Stt) (c:Colm) (c1:c.notes.length≤1000000) (c2:c.top.length≤9223372036854775807) (c3:c.bot.length≤9223372036854775807) (H:Heap):
  clD EE (.p (.fn 100)) [vW j,vStt s,vColm c] H=some (vFcts (q02r j s c),none):=by
 rw [q002 _ _ _ _ _ _ (noP _) fn100]
 have r:=fun H=>q03r j w s H
 have pl:=fun H=>q07d j H
 have sh:=fun H=>q0mv j.notes c.notes j.g.rule w.lines c1 H
 have ah:=fun H=>q0oc j.g j.floats c.top c.bot c2 c3 H
 have as:=fun H=>q0mz j.g j.floats c.top c2 H
 have hi:=fun H=>q0v9 j w s H
 have la:=fun H=>q0z2 j c H
 have su:=fun H=>q0z0 j H
 have so:=fun H=>q0vd j.items w.n1 hf s.at_ c.to H
 have gs:=fun H=>q0vf (sumT j.items s.at_ c.to) (roomC j s c) (lastC j.items c) H
 unfold q02r
 cases b:q01g j s with
 |false=>
  rw [b] at r
  simp [St.enter,q000,subs,q001,r,zeroF,zeroG]
 |true=>
  rw [b] at r
  have e:setC j s c=q07f (sumT j.items s.at_ c.to) (roomC j s c) (lastC j.items c):=rfl
  rw [←e] at gs
  have hr:roomC j s c=IntKind.i64.wrap (IntKind.i64.wrap (highS j s-highP j.notes c.notes j.g.rule)-q05b j c):=rfl
  generalize setC j s c=G at*
  have hfu:fullC j c=(decide (0<c.notes.length)&&decide (j.g.noteMost<highP j.notes c.notes j.g.rule)):=rfl
  have hfl:q05b j c=if c.k=1 then highA j.g j.floats c.top c.bot else if c.k=2 then q05p j.g j.floats c.top else 0:=rfl
  generalize lastC j.items c=L at*
  generalize highA j.g j.floats c.top c.bot=A1 at*
  generalize q05p j.g j.floats c.top=A2 at*
  generalize sumT j.items s.at_ c.to=T at*
  generalize roomC j s c=R at*
  generalize highP j.notes c.notes j.g.rule=hp at*
  generalize highS j s=hs at*
  generalize q05b j c=F at*
  generalize fullC j c=U at*
  simp only [vJob,vGeom,cGeom,List.cons_append,List.nil_append] at pl ah as
  have hn:(0:Int)<c.notes.length↔0<c.notes.length:=by omega
  by_cases k1:c.k=1
  ·rw [if_pos k1] at hfl
   subst hfl
   simp only [vColm,k1] at la
   by_cases n0:0<c.notes.length
   ·simp only [n0,decide_true,Bool.true_and] at hfu
    by_cases q:j.g.noteMost<hp<;>simp only [q,decide_true,decide_false] at hfu<;>subst hfu<;>
     simp [St.enter,q000,subs,q001,fldvV,r,pl,sh,ah,hi,la,su,so,gs,k1,hn,n0,←hr,q]
   ·simp only [n0,decide_false,Bool.false_and] at hfu
    subst hfu
    simp [St.enter,q000,subs,q001,fldvV,r,pl,sh,ah,hi,la,su,so,gs,k1,hn,n0,←hr]
  ·rw [if_neg k1] at hfl
   by_cases k2:c.k=2
   ·rw [if_pos k2] at hfl
    subst hfl
    simp only [vColm,k2] at la
    by_cases n0:0<c.notes.length
    ·simp only [n0,decide_true,Bool.true_and] at hfu
     by_cases q:j.g.noteMost<hp<;>simp only [q,decide_true,decide_false] at hfu<;>subst hfu<;>
      simp [St.enter,q000,subs,q001,fldvV,r,pl,sh,as,hi,la,k1,k2,hn,n0,←hr,q,zeroG]
    ·simp only [n0,decide_false,Bool.false_and] at hfu
     subst hfu
     simp [St.enter,q000,subs,q001,fldvV,r,pl,sh,as,hi,la,k1,k2,hn,n0,←hr,zeroG]
   ·rw [if_neg k2] at hfl
    subst hfl
    rw [Int.sub_zero] at hr
    by_cases n0:0<c.notes.length
    ·simp only [n0,decide_true,Bool.true_and] at hfu
     by_cases q:j.g.noteMost<hp<;>simp only [q,decide_true,decide_false] at hfu<;>subst hfu<;>
      simp [St.enter,q000,subs,q001,fldvV,r,pl,sh,hi,la,k1,k2,hn,n0,←hr,q,zeroG]
    ·simp only [n0,decide_false,Bool.false_and] at hfu
     subst hfu
     simp [St.enter,q000,subs,q001,fldvV,r,pl,sh,hi,la,k1,k2,hn,n0,←hr,zeroG]
theorem q0z3 (j:Job) (w:okW j) (hf: ∀x∈j.items,fairI x) (s:Stt) (c:Colm) (c1:c.notes.length≤1000000) (c2:c.top.length≤1000000) (c3:c.bot.length≤1000000) (H:Heap):
  clD EE (.p (.fn 100)) [vW j,vStt s,vColm c] H=some (vFcts (q02r j s c),none):=q0Xp j w hf s c c1 (by omega) (by omega) H
def forbX (x:Item):Bool:=decide (x.k=3)&&decide (10000≤x.n)
theorem q0Cn (x:Item) (H:Heap):clD EE (.p (.fn 293)) [vItem x] H=some (vB (forbX x),none):=by
 rw [q002 _ _ _ _ _ _ (noP _) fn293]
 unfold forbX
 by_cases h:x.k=3<;>simp [St.enter,q000,subs,q001,h]
def mayV (l:List Item) (n:Int):Bool:=
 if n<1∨(l.length:Int)<n then false else match q02g l n with
  |none=>true
  |some x=>if x.k=2 then !q0fl (rd l (n-1)) else if x.k=3 then !forbX x else false
theorem q0Co (l:List Item) (hl:l.length≤1000000) (n:Int) (H:Heap):clD EE (.p (.fn 219)) [q00d l,vI n] H=some (vB (mayV l n),none):=by
 rw [q002 _ _ _ _ _ _ (noP _) fn219]
 have l2:=fun H=>q021 l H
 have l3:=fun H=>q07s l n H
 have f:=fun x H=>q0Cn x H
 have lo:=fun x H=>q0yz x H
 unfold mayV
 by_cases c1:n<1
 ·cases h:q02g l n with
  |none=>rw [h] at l3;simp [St.enter,q000,subs,q001,l2,l3,c1]
  |some x=>rw [h] at l3;simp [St.enter,q000,subs,q001,l2,l3,c1]
 ·by_cases c2:(l.length:Int)<n
  ·cases h:q02g l n with
   |none=>rw [h] at l3;simp [St.enter,q000,subs,q001,l2,l3,c1,c2]
   |some x=>rw [h] at l3;simp [St.enter,q000,subs,q001,l2,l3,c1,c2]
  ·cases h:q02g l n with
   |none=>rw [h] at l3;simp [St.enter,q000,subs,q001,l2,l3,c1,c2]
   |some x=>
    rw [h] at l3
    have w:IntKind.i64.wrap (n-1)=n-1:=w64 (by omega) (by omega)
    have hx:=q026 l (n-1) (by omega) (by omega)
    have hix:=fun H k=>q024 H q004 (k:=k) (s:=7) (by omega) hx rfl
    simp only [q004] at hix
    by_cases k2:x.k=2
    ·simp only [q00d] at l2 l3⊢
     simp [St.enter,q000,subs,q001,l2,l3,c1,c2,k2,w,hix,lo]
    ·by_cases k3:x.k=3
     ·have f1:=fun H=>f x H
      simp only [vItem,k3] at f1
      simp [St.enter,q000,subs,q001,l2,l3,c1,c2,k3,f1]
     ·simp [St.enter,q000,subs,q001,l2,l3,c1,c2,k2,k3]
end Go.EnvOf
namespace Go.EnvOf
open Go Go.Eng
set_option maxRecDepth 100000
def coFn (H:Heap):V:= .fn (.func 110) [.ptr H.length 0] []
@[simp] theorem q0Je (H:Heap) (k:Nat):q00s (coFn H) k=true:=rfl
theorem q0j6 (x:Item) (H:Heap):clD EE (.p (.fn 17)) [vItem x] H=some (vB (q04c x),none):=by
 rw [q002 _ _ _ _ _ _ (noP _) fn17]
 unfold q04c
 by_cases h:x.k=2<;>simp [St.enter,q000,subs,q001,h]
theorem q0z4 (l:List Item) (hl:l.length≤1000000) (H:Heap) (B:Nat): ∀(k a:Nat),a≤l.length→l.length-a=k→
  evD EE q0ey ⟨[(0,q006 l),(5,vI a)],[],H,B,[]⟩=some (.exit 0,⟨[(0,q006 l),(5,vI (trimN l a)),(21,vB false)],[],H,B,[]⟩):=by
 intro k
 induction k with
 |zero=>
  intro a h1 h2
  have e:a=l.length:=by omega
  subst e
  have ht:trimN l l.length=l.length:=q09t (by unfold stayB;rw [List.getElem?_eq_none (Nat.le_refl _)])
  unfold q0ey
  rw [q003]
  simp [ht]
 |succ k ih=>
  intro a h1 h2
  have hlt:a<l.length:=by omega
  have hx:l[a]? =some l[a]:=List.getElem?_eq_getElem hlt
  have hix:=fun H k=>q00c H q004 (k:=k) (s:=7) hx rfl
  have w:IntKind.i64.wrap ((a:Int)+1)=((a+1:Nat):Int):=w64 (by omega) (by omega)
  have lo:=fun H=>q0j6 l[a] H
  generalize l[a]=x at*
  by_cases hb:q04c x=true
  ·have ht:=q0da hx hb
   have key:=ih (a+1) (by omega) (by omega)
   rw [ht,←key]
   conv=>lhs;unfold q0ey
   rw [q003]
   simp [hlt,hix,q004,subs,lo,hb,w]
   rfl
  ·have ht:trimN l a=a:=q09t (by unfold stayB;rw [hx];simpa using hb)
   have hb':q04c x=false:=by simpa using hb
   rw [ht]
   unfold q0ey
   rw [q003]
   simp [hlt,hix,q004,subs,lo,hb']
theorem q0z5 (l:List Item) (n:Int) (hl:l.length≤1000000) (H:Heap):clD EE (.p (.fn 78)) [q006 l,vI n] H=some (vI (trimF l n),none):=by
 rw [q002 _ _ _ _ _ _ (noP _) fn78]
 have hk:max 0 (min n (l.length:Int))=(putN l n:Int):=by unfold putN;omega
 have k:=q0z4 l hl H H.length _ (putN l n) (q08v l n) rfl
 unfold trimF
 simp [St.enter,q000,hk,k]
def numsL (k a b:Int):Nat→List Item→List Int
 |_,[]=>[]
 |i,x::r=>(if a≤i∧(i:Int)<b∧x.k=k then [x.n] else [])++numsL k a b (i+1) r
theorem q0j7 (k:Int) (b:Int): ∀(l:List Item) (i:Nat),(numsL k 0 b i l).length=cnt k (l.take (b.toNat-i))
 |[],i=>by simp [numsL,cnt]
 |x::r,i=>by
  have ih:=q0j7 k b r (i+1)
  simp only [numsL,List.length_append,ih]
  by_cases h:(i:Int)<b
  ·have e:b.toNat-i=(b.toNat-(i+1))+1:=by omega
   rw [e,List.take_succ_cons,q0dz]
   by_cases hk:x.k=k
   ·rw [if_pos ⟨by omega,h,hk⟩,if_pos hk];simp
   ·rw [if_neg (fun hh=>hk hh.2.2),if_neg hk];simp
  ·have e:b.toNat-i=0:=by omega
   have e2:b.toNat-(i+1)=0:=by omega
   rw [if_neg (fun hh=>h hh.2.1),e,e2];simp [cnt]
theorem q0fm (k a b:Int): ∀(l:List Item) (i:Nat) (x:Item),numsL k a b i (l++[x])=numsL k a b i l++(if a≤((i+l.length:Nat):Int)∧((i+l.length:Nat):Int)<b∧x.k=k then [x.n] else [])
 |[],i,x=>by simp [numsL]
 |y::r,i,x=>by
  simp only [List.cons_append,numsL,q0fm k a b r (i+1) x,List.append_assoc,List.length_cons]
  rw [show i+1+r.length=i+(r.length+1) by omega]
def nuE (l:List Item) (k a b:Int) (H:Heap) (M:List Int) (i:Nat):St:=⟨[(0,q006 l),(1,vI k),(2,vI a),(3,vI b),(9,.row H.length M.length 0 M.length),(10,vI i)],[],H++[DObj.row 1 (upV (M.map encI))],H.length,[]⟩
def nuX (l:List Item) (k a b:Int) (H:Heap) (M:List Int):Ex×St:=(.exit 0,⟨[(0,q006 l),(1,vI k),(2,vI a),(3,vI b),(9,.row H.length M.length 0 M.length),(10,vI l.length),(14,vB false)],[],H++[DObj.row 1 (upV (M.map encI))],H.length,[]⟩)
theorem q0Cp (l:List Item) (k a b:Int) (hl:l.length≤1000000) (H:Heap):evD EE q0X2 (nuE l k a b H [] 0)=some (nuX l k a b H (numsL k a b 0 l)):=by
 unfold q0X2
 refine Eq.trans (q00u l (fun (_:Unit) i=>nuE l k a b H (numsL k a b 0 (l.take i)) i) (fun _ _=>True) (fun _ _ _=>()) (fun _=>nuX l k a b H (numsL k a b 0 l)) (fun _ _=>rfl) ?_ ?_ () 0 trivial (Nat.zero_le _)) rfl
 ·rintro _ i x-hx
  refine ⟨?_,trivial⟩
  have hlt:=(List.getElem?_eq_some_iff.1 hx).1
  have w:IntKind.i64.wrap ((i:Int)+1)=((i+1:Nat):Int):=w64 (by omega) (by omega)
  have hix:=fun H k=>q00c H q004 (k:=k) (s:=7) hx rfl
  have e:=q0fm k a b (l.take i) 0 x
  have hlen:(l.take i).length=i:=by rw [List.length_take];omega
  rw [hlen,Nat.zero_add] at e
  have hM:(numsL k a b 0 (l.take i)).length≤1000000:=by
   have: ∀(l:List Item) (i:Nat),(numsL k a b i l).length≤l.length:=by
    intro l
    induction l with
    |nil=>intro i;simp [numsL]
    |cons y r ih=>intro i;simp only [numsL,List.length_append,List.length_cons];have:=ih (i+1);split<;>simp<;>omega
   have:=this (l.take i) 0
   omega
  rw [q03n hx]
  simp only [e]
  generalize numsL k a b 0 (l.take i)=M at*
  have hm:M.length+1<most:=by unfold most;omega
  have e3:upV (M.map encI)++[[V.p (.int .i64 x.n)]]=upV ((M++[x.n]).map encI):=by simp [upV,encI]
  by_cases c1:a≤(i:Int)
  ·by_cases c2:(i:Int)<b
   ·by_cases c3:x.k=k
    ·simp [nuE,hlt,hix,q004,subs,q001,w,c1,c2,c3,hm,e3,encI,upV,okEl]
    ·simp [nuE,hlt,hix,q004,subs,q001,w,c1,c2,c3]
   ·simp [nuE,hlt,hix,q004,subs,q001,w,c1,c2]
  ·simp [nuE,hlt,hix,q004,subs,q001,w,c1]
 ·rintro _-
  simp [nuE,nuX]
theorem q0Cq (l:List Item) (k a b:Int) (hl:l.length≤1000000) (H:Heap):clD EE (.p (.fn 247)) [q006 l,vI k,vI a,vI b] H=some (sli (numsL k a b 0 l),none):=by
 rw [q002 _ _ _ _ _ _ (noP _) fn247]
 have key:=q0Cp l k a b hl H
 generalize numsL k a b 0 l=M at*
 simp [nuE,nuX] at key
 simp [St.enter,q000,key]
theorem q0br (j:Job) (n:Int) (hl:j.items.length≤1000000) (H:Heap):clD EE (.p (.fn 147)) [vJob j,vI n] H=some (vI (q00z j n),none):=by
 rw [q002 _ _ _ _ _ _ (noP _) fn147]
 have h:=fun H=>q0Cq j.items 5 0 n hl H
 have e:((numsL 5 0 n 0 j.items).length:Int)=q00z j n:=by
  rw [q0j7]
  unfold q00z q01a putN
  have e2:j.items.take (n.toNat-0)=j.items.take (min (max n 0) j.items.length).toNat:=by
   rcases Nat.le_total n.toNat j.items.length with h|h
   ·congr 1;omega
   ·rw [List.take_of_length_le (by omega),List.take_of_length_le (by omega)]
  rw [e2]
 simp only [vJob,cGeom,List.cons_append,List.nil_append]
 simp [St.enter,q000,subs,q001,h,e]
def rwS (fs:List Float) (n:Int) (c:C3) (i:Nat) (x:Item):C3:=if (i:Int)<n then addAt fs c x else c
def rwE (l:List Item) (fs:List Float) (n:Int) (H:Heap) (c:C3) (i:Nat):St:=⟨[(0,q006 l),(1,q005 fs),(2,vI n),(6,.lptr 6 0),(7,.lptr 7 0),(8,vI i)],[(6,[vI 0,vI 0,vI 0]),(7,[vI c.a,vI c.b,vI c.c])],H,H.length,[]⟩
def rwX (l:List Item) (fs:List Float) (n:Int) (H:Heap) (c:C3):Ex×St:=(.exit 0,⟨[(0,q006 l),(1,q005 fs),(2,vI n),(6,.lptr 6 0),(7,.lptr 7 0),(8,vI l.length),(13,vB false)],[(6,[vI 0,vI 0,vI 0]),(7,[vI c.a,vI c.b,vI c.c])],H,H.length,[]⟩)
theorem q0ps (fs:List Float) (n:Int): ∀(l:List Item) (c:C3) (i:Nat),fold (rwS fs n) c i l=(l.take (n.toNat-i)).foldl (addAt fs) c
 |[],c,i=>by simp [fold]
 |x::r,c,i=>by
  simp only [fold,q0ps fs n r]
  unfold rwS
  by_cases h:(i:Int)<n
  ·rw [if_pos h,show n.toNat-i=(n.toNat-(i+1))+1 by omega,List.take_succ_cons,List.foldl_cons]
  ·rw [if_neg h,show n.toNat-i=0 by omega,show n.toNat-(i+1)=0 by omega];simp
theorem q0vg (l:List Item) (fs:List Float) (n:Int) (hl:l.length≤1000000) (H:Heap):evD EE q0Wt (rwE l fs n H ⟨0,0,0⟩ 0)=some (rwX l fs n H (fold (rwS fs n) ⟨0,0,0⟩ 0 l)):=by
 unfold q0Wt
 refine Eq.trans (q00u l (rwE l fs n H) (fun c i=>0≤c.a∧0≤c.b∧0≤c.c∧c.a≤i∧c.b≤i∧c.c≤i) (rwS fs n) (rwX l fs n H) (fun _ _=>rfl) ?_ ?_ ⟨0,0,0⟩ 0 (by simp) (Nat.zero_le _)) (by rw [List.drop_zero])
 ·intro c i x hc hx
  have hlt:=(List.getElem?_eq_some_iff.1 hx).1
  refine ⟨?_,?_⟩
  ·have w:IntKind.i64.wrap ((i:Int)+1)=((i+1:Nat):Int):=w64 (by omega) (by omega)
   have wa:IntKind.i64.wrap (c.a+1)=c.a+1:=w64 (by omega) (by omega)
   have wb:IntKind.i64.wrap (c.b+1)=c.b+1:=w64 (by omega) (by omega)
   have wc:IntKind.i64.wrap (c.c+1)=c.c+1:=w64 (by omega) (by omega)
   have hix:=fun H k=>q00c H q004 (k:=k) (s:=7) hx rfl
   unfold rwS addAt ofS atF bump
   by_cases c1:(i:Int)<n
   ·by_cases c2:x.k=6
    ·by_cases c3:0≤x.n
     ·by_cases c4:x.n<(fs.length:Int)
      ·have hf:=q026 fs x.n (by omega) (by omega)
       have hif:=fun H k=>q024 H q009 (k:=k) (s:=3) (by omega) hf rfl
       generalize rd fs x.n=f at*
       by_cases d0:f.c=0
       ·simp [rwE,hlt,hix,q004,subs,q001,w,c1,c2,c3,c4,hif,q009,d0,ixaV,q007,wa]
       ·by_cases d1:f.c=1
        ·simp [rwE,hlt,hix,q004,subs,q001,w,c1,c2,c3,c4,hif,q009,d1,ixaV,q007,wb]
        ·by_cases d2:f.c=2
         ·simp [rwE,hlt,hix,q004,subs,q001,w,c1,c2,c3,c4,hif,q009,d2,ixaV,q007,wc]
         ·by_cases d3:f.c<0
          ·simp [rwE,hlt,hix,q004,subs,q001,w,c1,c2,c3,c4,hif,q009,d0,d1,d2,show¬0≤f.c by omega]
          ·simp [rwE,hlt,hix,q004,subs,q001,w,c1,c2,c3,c4,hif,q009,d0,d1,d2,show 0≤f.c by omega,show¬f.c<3 by omega]
      ·simp [rwE,hlt,hix,q004,subs,q001,w,c1,c2,c3,c4]
     ·simp [rwE,hlt,hix,q004,subs,q001,w,c1,c2,c3]
    ·simp [rwE,hlt,hix,q004,subs,q001,w,c1,c2]
   ·simp [rwE,hlt,hix,q004,subs,q001,w,c1]
  ·unfold rwS
   split
   ·have:=q0e2 fs c x i (by omega)
    simpa using this
   ·simp only [Int.natCast_add,Int.natCast_one];omega
 ·intro c _
  simp [rwE,rwX]
theorem q07u (l:List Item) (fs:List Float) (n:Int) (hl:l.length≤1000000) (H:Heap):clD EE (.p (.fn 149)) [q006 l,q005 fs,vI n] H=some (vC (q00n fs (l.take (putN l n))),none):=by
 rw [q002 _ _ _ _ _ _ (noP _) fn149]
 have key:=q0vg l fs n hl H
 have e:fold (rwS fs n) ⟨0,0,0⟩ 0 l=q00n fs (l.take (putN l n)):=by
  rw [q0ps]
  unfold q00n putN
  congr 1
  rcases Nat.le_total n.toNat l.length with h|h
  ·congr 1;omega
  ·rw [List.take_of_length_le (by omega),List.take_of_length_le (by omega)]
 rw [e] at key
 simp [rwE,rwX] at key
 simp [St.enter,q000,subs,q001,key]
def rzqE (fs:List Float) (xs:List Int) (H:Heap) (c:C3) (i:Nat):St:=⟨[(0,q005 fs),(1,sli xs),(4,.lptr 4 0),(5,.lptr 5 0),(6,vI i)],[(4,[vI 0,vI 0,vI 0]),(5,[vI c.a,vI c.b,vI c.c])],H,H.length,[]⟩
def rzqX (fs:List Float) (xs:List Int) (H:Heap) (c:C3):Ex×St:=(.exit 0,⟨[(0,q005 fs),(1,sli xs),(4,.lptr 4 0),(5,.lptr 5 0),(6,vI xs.length),(11,vB false)],[(4,[vI 0,vI 0,vI 0]),(5,[vI c.a,vI c.b,vI c.c])],H,H.length,[]⟩)
theorem q0Et (fs:List Float) (xs:List Int) (hl:xs.length≤1000000) (H:Heap):evD EE q0l8 (rzqE fs xs H ⟨0,0,0⟩ 0)=some (rzqX fs xs H (ofL fs xs)):=by
 have hf: ∀(xs:List Int) (s:C3) (i:Nat),fold (fun s _ x=>ofS fs s x) s i xs=xs.foldl (ofS fs) s:=by
  intro xs
  induction xs with
  |nil=>intro s i;rfl
  |cons x r ih=>intro s i;simp only [fold,List.foldl_cons,ih]
 unfold ofL
 rw [←hf xs ⟨0,0,0⟩ 0]
 unfold q0l8
 refine Eq.trans (q00u xs (rzqE fs xs H) (fun c i=>0≤c.a∧0≤c.b∧0≤c.c∧c.a≤i∧c.b≤i∧c.c≤i) (fun s _ x=>ofS fs s x) (rzqX fs xs H) (fun _ _=>rfl) ?_ ?_ ⟨0,0,0⟩ 0 (by simp) (Nat.zero_le _)) (by rw [List.drop_zero])
 ·intro c i x hc hx
  have hlt:=(List.getElem?_eq_some_iff.1 hx).1
  refine ⟨?_,?_⟩
  ·have w:IntKind.i64.wrap ((i:Int)+1)=((i+1:Nat):Int):=w64 (by omega) (by omega)
   have wa:IntKind.i64.wrap (c.a+1)=c.a+1:=w64 (by omega) (by omega)
   have wb:IntKind.i64.wrap (c.b+1)=c.b+1:=w64 (by omega) (by omega)
   have wc:IntKind.i64.wrap (c.c+1)=c.c+1:=w64 (by omega) (by omega)
   have hix:=fun H k=>q00c H encI (k:=k) (s:=1) hx rfl
   unfold ofS atF bump
   by_cases c3:0≤x
   ·by_cases c4:x<(fs.length:Int)
    ·have hf:=q026 fs x (by omega) (by omega)
     have hif:=fun H k=>q024 H q009 (k:=k) (s:=3) (by omega) hf rfl
     generalize rd fs x=f at*
     by_cases d0:f.c=0
     ·simp [rzqE,hlt,hix,encI,subs,q001,w,c3,c4,hif,q009,d0,ixaV,q007,wa]
     ·by_cases d1:f.c=1
      ·simp [rzqE,hlt,hix,encI,subs,q001,w,c3,c4,hif,q009,d1,ixaV,q007,wb]
      ·by_cases d2:f.c=2
       ·simp [rzqE,hlt,hix,encI,subs,q001,w,c3,c4,hif,q009,d2,ixaV,q007,wc]
       ·by_cases d3:f.c<0
        ·simp [rzqE,hlt,hix,encI,subs,q001,w,c3,c4,hif,q009,d0,d1,d2,show¬0≤f.c by omega]
        ·simp [rzqE,hlt,hix,encI,subs,q001,w,c3,c4,hif,q009,d0,d1,d2,show 0≤f.c by omega,show¬f.c<3 by omega]
    ·simp [rzqE,hlt,hix,encI,subs,q001,w,c3,c4]
   ·simp [rzqE,hlt,hix,encI,subs,q001,w,c3]
  ·have:=q0e2 fs c ⟨6,0,0,0,0,0,x⟩ i (by omega)
   simpa [addAt] using this
 ·intro c _
  simp [rzqE,rzqX]
theorem q0n0 (fs:List Float) (xs:List Int) (hl:xs.length≤1000000) (H:Heap):clD EE (.p (.fn 80)) [q005 fs,sli xs] H=some (vC (ofL fs xs),none):=by
 rw [q002 _ _ _ _ _ _ (noP _) fn80]
 have key:=q0Et fs xs hl H
 simp [rzqE,rzqX] at key
 simp [St.enter,q000,subs,q001,key]
theorem q0n1 (j:Job) (s:Stt) (hr:q00z j s.at_≤j.notes.length):
  ((decide (s.note=q00z j s.at_)&&decide (s.line=0))||(decide (s.note=q00z j s.at_-1)&&decide (0≤s.note)&&decide (1≤s.line)&&(decide (s.line<(rd j.notes s.note).lines.length)&&mayF (rd j.notes s.note).lines (rd j.notes s.note).pens s.line)))=q03q j s:=by
 unfold q03q
 by_cases h0:s.line=0
 ·simp [h0]
 ·rw [if_neg h0]
  by_cases h1:s.note≠q00z j s.at_-1∨s.note<0∨s.line<1
  ·rw [if_pos h1]
   rcases h1 with h1|h1|h1
   ·simp [h0,h1]
   ·simp [h0,show¬0≤s.note by omega]
   ·simp [h0,show¬1≤s.line by omega]
  ·rw [if_neg h1]
   have q1:s.note=q00z j s.at_-1:=by omega
   have q2:0≤s.note:=by omega
   have q3:1≤s.line:=by omega
   simp [h0,q1,show 0≤q00z j s.at_-1 by omega,show 1≤q00z j s.at_ by omega,q3]
section
variable (j:Job) (w:okW j)
include w in
theorem q025 (s:Stt) (H:Heap):clD EE (.p (.fn 68)) [vJob j,vStt s] H=some (vB (q01g j s),none):=by
 rw [q002 _ _ _ _ _ _ (noP _) fn68]
 have ht:=fun H=>q0z5 j.items s.at_ w.n1 H
 have hb:=fun H=>q0br j s.at_ w.n1 H
 have ha:=fun H=>q07u j.items j.floats s.at_ w.n1 H
 change∀H,clD EE _ _ H=some (vC (q01i j s.at_),none) at ha
 have i1:=fun H=>q0f7 zeroC s.h H
 have i2:=fun H=>q0f7 s.h (q01i j s.at_) H
 have hle:=q03o w s.at_
 have hge:=q0bq j s.at_
 have hoc:=q0n1 j s hle
 have w1:IntKind.i64.wrap (q00z j s.at_-1)=q00z j s.at_-1:=w64 (by have:=w.n2;omega) (by have:=w.n2;omega)
 unfold q01g
 simp only [vJob,cGeom,List.cons_append,List.nil_append,zeroC] at hb i1⊢
 by_cases h1:s.at_<0
 ·simp [St.enter,q000,subs,q001,h1]
 ·by_cases h2:(j.items.length:Int)<s.at_
  ·simp [St.enter,q000,subs,q001,h1,h2]
  ·by_cases h3:(trimF j.items s.at_:Int)=s.at_
   ·by_cases h4:s.col<0
    ·simp [St.enter,q000,subs,q001,h1,h2,ht,h3,h4]
    ·by_cases h5:j.g.cols<s.col
     ·simp [St.enter,q000,subs,q001,h1,h2,ht,h3,h4,h5]
     ·simp only [h1,h2,h3,h4,h5,not_true_eq_false,or_false,if_false,ne_eq]
      rw [←hoc]
      generalize q00z j s.at_=b at*
      by_cases n0:s.note=b-1∧0≤s.note∧1≤s.line
      ·obtain ⟨n1,n2,n3⟩:=n0
       have hx:=q026 j.notes s.note (by omega) (by omega)
       have hix:=fun H k=>q024 H q00e (k:=k) (s:=2) (by omega) hx rfl
       have hl:=w.lines _ (List.mem_of_getElem? hx)
       have hm:=fun H=>q0pk (rd j.notes s.note).lines (rd j.notes s.note).pens s.line H (by omega)
       simp only [q00e] at hix
       simp only [note,sli] at hm
       have n4: ¬s.note=b:=by omega
       have n5:decide (s.note=b-1)=true:=by simpa using n1
       generalize rd j.notes s.note=nt at*
       by_cases h6:s.line<(nt.lines.length:Int)
       ·cases c1:mayF nt.lines nt.pens s.line with
        |false=>simp [St.enter,q000,subs,q001,h1,h2,ht,h3,h4,h5,hb,w1,n4,n5,n2,n3,hix,h6,hm,c1,ha]
        |true=>
         cases c2:inC ⟨0,0,0⟩ s.h with
         |false=>simp [St.enter,q000,subs,q001,h1,h2,ht,h3,h4,h5,hb,w1,n4,n5,n2,n3,hix,h6,hm,c1,ha,i1,c2]
         |true=>simp [St.enter,q000,subs,q001,h1,h2,ht,h3,h4,h5,hb,w1,n4,n5,n2,n3,hix,h6,hm,c1,ha,i1,c2,i2]
       ·simp [St.enter,q000,subs,q001,h1,h2,ht,h3,h4,h5,hb,w1,n4,n5,n2,n3,hix,h6,ha]
      ·by_cases a1:s.note=b-1
       ·have a4:decide (s.note=b-1)=true:=by simpa using a1
        have a5: ¬s.note=b:=by omega
        by_cases a2:0≤s.note
        ·have a3: ¬1≤s.line:=by omega
         simp [St.enter,q000,subs,q001,h1,h2,ht,h3,h4,h5,hb,w1,a4,a5,a2,a3,ha]
        ·simp [St.enter,q000,subs,q001,h1,h2,ht,h3,h4,h5,hb,w1,a4,a5,a2,ha]
       ·by_cases m1:s.note=b
        ·have m3:decide (s.note=b)=true:=by simpa using m1
         by_cases m2:s.line=0
         ·have m4:decide (s.line=0)=true:=by simpa using m2
          cases c2:inC ⟨0,0,0⟩ s.h with
          |false=>simp [St.enter,q000,subs,q001,h1,h2,ht,h3,h4,h5,hb,w1,a1,m3,m4,ha,i1,c2]
          |true=>simp [St.enter,q000,subs,q001,h1,h2,ht,h3,h4,h5,hb,w1,a1,m3,m4,ha,i1,c2,i2]
         ·simp [St.enter,q000,subs,q001,h1,h2,ht,h3,h4,h5,hb,w1,a1,m3,m2,ha]
        ·simp [St.enter,q000,subs,q001,h1,h2,ht,h3,h4,h5,hb,w1,a1,m1,ha]
   ·simp [St.enter,q000,subs,q001,h1,h2,ht,h3]
end
def mustV (l:List Item) (n:Int):Bool:=match q02g l n with|some x=>decide (1≤n)&&q05z x|none=>false
theorem q0n2 (l:List Item) (n:Int) (H:Heap):clD EE (.p (.fn 107)) [q006 l,vI n] H=some (vB (mustV l n),none):=by
 rw [q002 _ _ _ _ _ _ (noP _) fn107]
 unfold mustV q02g q05z
 by_cases c1:1≤n
 ·by_cases c2:n<l.length
  ·have hx:=q026 l n (by omega) (by omega)
   have hix:=fun H k=>q024 H q004 (k:=k) (s:=7) (by omega) hx rfl
   simp only [q004] at hix
   rw [if_pos ⟨by omega,c2⟩]
   generalize rd l n=x at*
   by_cases k:x.k=3<;>simp [St.enter,q000,subs,c1,c2,hix,k]
  ·rw [if_neg (fun h=>c2 h.2)]
   simp [St.enter,q000,c1,c2]
 ·have:(match (if 0≤n∧n<l.length then some (rd l n) else none) with|some x=>decide (1≤n)&&(decide (x.k=3)&&decide (x.n≤ -10000))|none=>false)=false:=by
   split<;>simp [c1]
  rw [this]
  simp [St.enter,q000,c1]
theorem q0j8 (l:List Item) (hl:l.length≤1000000) (n:Int) (H:Heap):clD EE (.p (.fn 106)) [q006 l,vI n] H=some (vB (mayV l n),none):=by
 rw [q002 _ _ _ _ _ _ (noP _) fn106]
 have lo:=fun x H=>q0j6 x H
 unfold mayV q02g
 by_cases c1:n<1
 ·simp [St.enter,q000,c1]
 ·by_cases c2:(l.length:Int)<n
  ·simp [St.enter,q000,c1,c2]
  ·by_cases c3:n=l.length
   ·rw [if_neg (by omega),if_neg (by omega)]
    simp only
    have c1': ¬(l.length:Int)<1:=by omega
    subst c3
    simp [St.enter,q000,c1']
   ·have hx:=q026 l n (by omega) (by omega)
    have hix:=fun H k=>q024 H q004 (k:=k) (s:=7) (by omega) hx rfl
    have w:IntKind.i64.wrap (n-1)=n-1:=w64 (by omega) (by omega)
    have hy:=q026 l (n-1) (by omega) (by omega)
    have hiy:=fun H k=>q024 H q004 (k:=k) (s:=7) (by omega) hy rfl
    simp only [q004] at hix hiy
    rw [if_neg (by omega),if_pos ⟨by omega,by omega⟩]
    simp only [forbX]
    generalize rd l n=x at*
    have e:q0fl (rd l (n-1))=q04c (rd l (n-1)):=rfl
    rw [e]
    generalize rd l (n-1)=y at*
    by_cases k2:x.k=2
    ·simp [St.enter,q000,subs,q001,c1,c2,c3,hix,hiy,k2,w,lo]
    ·by_cases k3:x.k=3
     ·simp [St.enter,q000,subs,q001,c1,c2,c3,hix,k3];by_cases z:x.n<10000<;>simp [z]<;>omega
     ·simp [St.enter,q000,subs,q001,c1,c2,c3,hix,k2,k3]
theorem q0fn {α τ:Type} (f:τ→Nat→α→τ): ∀(l:List α) (s:τ) (i n:Nat) (x:α),l[n]? =some x→fold f s i (l.take (n+1))=f (fold f s i (l.take n)) (i+n) x
 |[],s,i,n,x,h=>by simp at h
 |y::r,s,i,0,x,h=>by simp at h;subst h;simp [fold]
 |y::r,s,i,n+1,x,h=>by
  simp only [List.take_succ_cons,fold]
  rw [q0fn f r _ (i+1) n x (by simpa using h)]
  congr 1;omega
def mustP (l:List Item) (n:Nat):Bool:=match l[n]? with|some x=>q05z x|none=>true
def mayN (l:List Item) (n:Nat):Bool:=mayV l n
def pos (a:Int):Nat:=(max a 0).toNat
def q010 (l:List Item) (a:Int):Int:=seekP (mustP l) (l.length-pos a) (pos a+1)
def q015 (l:List Item) (a:Int):Int:=seekP (mayN l) (l.length-pos a) (pos a+1)
def brkN (l:List Item) (a:Int):List Nat:=(List.range' (pos a+1) (l.length-pos a)).filter fun (m:Nat)=>decide ((m:Int)≤q010 l a)&&mayN l m
def brkF (l:List Item) (a:Int):List Int:=(brkN l a).map Int.ofNat
theorem q07g (p:Nat→Bool): ∀(k n:Nat),seekP p k n= -1∨((n:Int)≤seekP p k n∧seekP p k n<n+k∧p (seekP p k n).toNat=true)
 |0,n=> .inl rfl
 |k+1,n=>by
  rw [seekP]
  by_cases h:p n=true
  ·rw [if_pos h];exact .inr ⟨by omega,by omega,by simpa using h⟩
  ·rw [if_neg h]
   rcases q07g p k (n+1) with h1|⟨h1,h2,h3⟩
   ·exact .inl h1
   ·exact .inr ⟨by omega,by omega,h3⟩
theorem q0z6 (l:List Item) (hl:l.length≤1000000) (n:Nat) (hn:n≤l.length) (H:Heap):clD EE (.fn (.func 336) [q00d l] []) [vI n] H=some (vB (mustP l n),none):=by
 rw [q02m,q002 _ _ _ _ _ _ (noP _) fn336]
 have l3:=fun H=>q07s l n H
 have f:=fun x H=>q0j4 x H
 rw [q06n] at l3
 unfold mustP
 cases h:l[n]? with
 |none=>rw [h] at l3;simp [St.enter,q000,subs,q001,l3]
 |some x=>rw [h] at l3;simp [St.enter,q000,subs,q001,l3,f]
theorem q0Cr (l:List Item) (hl:l.length≤1000000) (n:Nat) (H:Heap):clD EE (.fn (.func 219) [q00d l] []) [vI n] H=some (vB (mayN l n),none):=by
 rw [q02m];exact q0Co l hl n H
theorem q0z7 (l:List Item) (hl:l.length≤1000000) (a:Int) (H:Heap):clD EE (.p (.fn 271)) [q00d l,vI a] H=some (vI (q010 l a),none):=by
 rw [q002 _ _ _ _ _ _ (noP _) fn271]
 have l2:=fun H=>q021 l H
 unfold q010 pos
 by_cases c:(l.length:Int)≤a
 ·have e:l.length-(max a 0).toNat=0:=by omega
  rw [e]
  simp [St.enter,q000,l2,c,seekP]
 ·have w:IntKind.i64.wrap (max a 0+1)=(((max a 0).toNat+1:Nat):Int):=by
   have e:(((max a 0).toNat+1:Nat):Int)=max a 0+1:=by omega
   rw [e];exact w64 (by omega) (by omega)
  by_cases d:(max a 0).toNat+1≤l.length+1
  ·have s:=fun H=>q0hc l ((max a 0).toNat+1) (.fn (.func 336) [q00d l] []) (mustP l) hl H (fun n hn=>q0z6 l hl n hn H) d rfl rfl
   have e:l.length+1-((max a 0).toNat+1)=l.length-(max a 0).toNat:=by omega
   rw [e] at s
   generalize (max a 0).toNat+1=z at*
   simp only [q00d] at l2 s⊢
   simp [St.enter,q000,l2,c,w,s]
  ·omega
theorem q0bs (l:List Item) (hl:l.length≤1000000) (a:Int) (H:Heap):clD EE (.p (.fn 259)) [q00d l,vI a] H=some (vI (q015 l a),none):=by
 rw [q002 _ _ _ _ _ _ (noP _) fn259]
 have l2:=fun H=>q021 l H
 unfold q015 pos
 by_cases c:(l.length:Int)≤a
 ·have e:l.length-(max a 0).toNat=0:=by omega
  rw [e]
  simp [St.enter,q000,l2,c,seekP]
 ·have w:IntKind.i64.wrap (max a 0+1)=(((max a 0).toNat+1:Nat):Int):=by
   have e:(((max a 0).toNat+1:Nat):Int)=max a 0+1:=by omega
   rw [e];exact w64 (by omega) (by omega)
  by_cases d:(max a 0).toNat+1≤l.length+1
  ·have s:=fun H=>q0hc l ((max a 0).toNat+1) (.fn (.func 219) [q00d l] []) (mayN l) hl H (fun n hn=>q0Cr l hl n H) d rfl rfl
   have e:l.length+1-((max a 0).toNat+1)=l.length-(max a 0).toNat:=by omega
   rw [e] at s
   generalize (max a 0).toNat+1=z at*
   simp only [q00d] at l2 s⊢
   simp [St.enter,q000,l2,c,w,s]
  ·omega
def filtB (l:List Item) (F:Int) (k n:Nat):List Nat:=(List.range' n k).filter fun (m:Nat)=>decide ((m:Int)≤F)&&mayN l m
theorem q0rp (l:List Item) (F:Int) (n:Nat):filtB l F 0 n=[]:=rfl
theorem q0fo (l:List Item) (F:Int) (k n:Nat):filtB l F (k+1) n=if (n:Int)≤F∧mayN l n=true then n::filtB l F k (n+1) else filtB l F k (n+1):=by
 unfold filtB
 rw [List.range'_succ,List.filter_cons]
 by_cases c:(n:Int)≤F
 ·by_cases m:mayN l n=true<;>simp [c,m]
 ·simp [c]
theorem q0fp (l:List Item) (F:Int): ∀(k n:Nat),F<n→filtB l F k n=[]
 |0,n,h=>rfl
 |k+1,n,h=>by rw [q0fo,if_neg (by omega),q0fp l F k (n+1) (by omega)]
theorem q0fq (l:List Item) (F:Int): ∀(k n:Nat),filtB l F k n=if seekP (mayN l) k n= -1 then [] else if seekP (mayN l) k n≤F then (seekP (mayN l) k n).toNat::filtB l F (n+k-((seekP (mayN l) k n).toNat+1)) ((seekP (mayN l) k n).toNat+1) else []
 |0,n=>by simp [seekP,q0rp]
 |k+1,n=>by
  rw [q0fo,seekP]
  by_cases m:mayN l n=true
  ·rw [if_pos m,if_neg (show¬(n:Int)= -1 by omega)]
   by_cases c:(n:Int)≤F
   ·rw [if_pos ⟨c,m⟩,if_pos c]
    have e:n+(k+1)-((n:Int).toNat+1)=k:=by omega
    rw [e];rfl
   ·rw [if_neg (fun h=>c h.1),if_neg c,q0fp l F k (n+1) (by omega)]
  ·rw [if_neg (fun h=>m h.2),if_neg m,q0fq l F k (n+1)]
   have e:n+1+k=n+(k+1):=by omega
   rw [e]
def bkE (l:List Item) (F:Int) (H:Heap) (acc:List Int) (b:Int):St:=⟨[(0,q00d l),(5,.row H.length acc.length 0 acc.length),(6,vI F),(7,vI b)],[],H++[.row 1 (upV (acc.map encI))],H.length,[]⟩
def bkX (l:List Item) (F:Int) (H:Heap) (acc:List Int) (b:Int):Ex×St:=(.exit 0,⟨[(0,q00d l),(5,.row H.length acc.length 0 acc.length),(6,vI F),(7,vI b),(20,vB false)],[],H++[.row 1 (upV (acc.map encI))],H.length,[]⟩)
theorem bk_lp (l:List Item) (hl:l.length≤1000000) (F:Int) (H:Heap): ∀(k n:Nat) (acc:List Int),(n+k=l.length+1∨k=0)→acc.length≤n→ ∃b,evD EE q0W3 (bkE l F H acc (seekP (mayN l) k n))=some (bkX l F H (acc++(filtB l F k n).map Int.ofNat) b):=by
 intro k
 induction k using Nat.strongRecOn with
 |_ k ih=>
  intro n acc hk ha
  have hb:=q07g (mayN l) k n
  rw [q0fq]
  generalize hs:seekP (mayN l) k n=b at*
  rcases hb with rfl|⟨h1,h2,h3⟩
  ·refine ⟨-1,?_⟩
   unfold q0W3
   rw [q003]
   simp [bkE,bkX]
  ·have hb0:0<b∨b=0:=by omega
   rcases hb0 with hb0|hb0
   ·rw [if_neg (by omega)]
    by_cases c:b≤F
    ·rw [if_pos c]
     have fi:=fun H=>q0bs l hl b H
     have e0:(b.toNat:Int)=b:=by omega
     have hp:pos b=b.toNat:=by unfold pos;omega
     have e1:q015 l b=seekP (mayN l) (n+k-(b.toNat+1)) (b.toNat+1):=by
      unfold q015;rw [hp];congr 1;omega
     obtain ⟨b',h4⟩:=ih (n+k-(b.toNat+1)) (by omega) (b.toNat+1) (acc++[b]) (by omega) (by simp;omega)
     refine ⟨b',?_⟩
     have e2:acc++List.map Int.ofNat (b.toNat::filtB l F (n+k-(b.toNat+1)) (b.toNat+1))=(acc++[b])++(filtB l F (n+k-(b.toNat+1)) (b.toNat+1)).map Int.ofNat:=by
      simp [hb0,e0,show max b 0=b by omega]
     rw [e2,←h4,←e1]
     have hm:acc.length+1<most:=by unfold most;omega
     conv=>lhs;unfold q0W3
     rw [q003]
     have w0: ∀z,clD EE (.p (.fn 259)) [q00d l,vI b] z=some (vI (q015 l b),none):=fi
     simp only [bkE]
     simp [hb0,c,hm,w0]
     rfl
    ·rw [if_neg c]
     refine ⟨b,?_⟩
     unfold q0W3
     rw [q003]
     simp [bkE,bkX,hb0,c]
   ·exfalso
    subst hb0
    unfold mayN mayV at h3
    simp at h3
theorem q0z8 (l:List Item) (a:Int):brkN l a=filtB l (q010 l a) (l.length-pos a) (pos a+1):=rfl
theorem q0vh (l:List Item) (hl:l.length≤1000000) (a:Int) (H:Heap):clD EE (.p (.fn 184)) [q00d l,vI a] H=some (sli (brkF l a),none):=by
 rw [q002 _ _ _ _ _ _ (noP _) fn184]
 have f1:=fun H=>q0z7 l hl a H
 have f2:=fun H=>q0bs l hl a H
 obtain ⟨b,k⟩:=bk_lp l hl (q010 l a) H (l.length-pos a) (pos a+1) [] (by omega) (by simp)
 have e:q015 l a=seekP (mayN l) (l.length-pos a) (pos a+1):=rfl
 rw [←e,←q0z8,List.nil_append] at k
 change _=some (bkX l (q010 l a) H (brkF l a) b) at k
 generalize brkF l a=R at*
 simp [bkE,bkX] at k
 simp [St.enter,q000,f1,f2,k]
end Go.EnvOf
namespace Go.EnvOf
open Go Go.Eng
set_option maxRecDepth 100000
def sumL {α:Type} (f:List Item→α) (z:α) (l:List Item) (i:Nat):List α:=(List.range (l.length+1)).map fun k=>if k≤i then f (l.take k) else z
theorem q060 {α:Type} (f:List Item→α) (z:α) (l:List Item) (i:Nat):(sumL f z l i).length=l.length+1:=by simp [sumL]
theorem q0n3 {α:Type} (f:List Item→α) (z:α) (l:List Item) (i k:Nat) (h:k≤i) (hk:k≤l.length):(sumL f z l i)[k]? =some (f (l.take k)):=by simp [sumL,h,show k<l.length+1 by omega]
theorem q0n4 {α:Type} (f:List Item→α) (z:α) (l:List Item) (i:Nat) (h:i<l.length):(sumL f z l i)[i+1]? =some z:=by simp [sumL,h];omega
theorem q0n5 {α:Type} (f:List Item→α) (z:α) (l:List Item) (i:Nat):(sumL f z l i).set (i+1) (f (l.take (i+1)))=sumL f z l (i+1):=by
 apply List.ext_getElem?
 intro k
 rw [List.getElem?_set]
 by_cases hk:k<l.length+1
 ·by_cases e:i+1=k
  ·subst e;simp [sumL,hk]
  ·rw [if_neg e]
   simp only [sumL,List.getElem?_map,List.getElem?_range hk,Option.map_some]
   by_cases h:k≤i
   ·rw [if_pos h,if_pos (by omega)]
   ·rw [if_neg h,if_neg (by omega)]
 ·have e1:(sumL f z l (i+1))[k]? =none:=List.getElem?_eq_none (by rw [q060];omega)
  have e2:(sumL f z l i)[k]? =none:=List.getElem?_eq_none (by rw [q060];omega)
  rw [e1,e2]
  by_cases e:i+1=k
  ·subst e;rw [if_pos rfl,if_neg (by rw [q060];omega)]
  ·rw [if_neg e]
theorem q0z9 {α:Type} (f:List Item→α) (z:α) (l:List Item):sumL f z l l.length=preL f l (l.length+1):=by
 unfold sumL preL
 apply List.map_congr_left
 intro k hk
 have:=List.mem_range.1 hk
 rw [if_pos (by omega)]
theorem q0j9 {α:Type} (f:List Item→α) (z:α) (l:List Item) (h:f []=z):sumL f z l 0=List.replicate (l.length+1) z:=by
 apply List.ext_getElem?
 intro k
 by_cases hk:k<l.length+1
 ·simp only [sumL,List.getElem?_map,List.getElem?_range hk,Option.map_some,List.getElem?_replicate,if_pos hk]
  by_cases e:k≤0
  ·have:k=0:=by omega
   subst this;simp [h]
  ·rw [if_neg e]
 ·rw [List.getElem?_eq_none (by rw [q060];omega),List.getElem?_eq_none (by simp;omega)]
def suH (l:List Item) (i:Nat):Heap:=[DObj.row 6 (upV ((sumL totP zeroT l i).map q020)),DObj.row 1 (upV ((sumL boxP 0 l i).map encI))]
def suE (l:List Item) (i:Nat):St:=
 ⟨[(0,q006 l),(4,.lptr 21 0),(23,vI l.length),(24,vI i)],[(21,[q006 l,.row 0 (l.length+1) 0 (l.length+1),.row 1 (l.length+1) 0 (l.length+1)])],suH l i,0,[]⟩
def suX (l:List Item):Ex×St:=
 (.exit 0,⟨[(0,q006 l),(4,.lptr 21 0),(23,vI l.length),(24,vI l.length),(25,vB false)],[(21,[q006 l,.row 0 (l.length+1) 0 (l.length+1),.row 1 (l.length+1) 0 (l.length+1)])],suH l l.length,0,[]⟩)
set_option maxHeartbeats 1000000 in
theorem q0Eu (l:List Item) (hl:l.length≤4096) (hf: ∀x∈l,fairI x) (i:Nat) (x:Item) (hx:l[i]? =some x): ∃c,q0Wd= .loop [0,4,23,24] [21] c∧evD EE c (suE l i)=some (.normal,suE l (i+1)):=by
 refine ⟨_,rfl,?_⟩
 have hlt:=(List.getElem?_eq_some_iff.1 hx).1
 have w:IntKind.i64.wrap ((i:Int)+1)=((i+1:Nat):Int):=w64 (by omega) (by omega)
 have hix:=fun H k=>q00c H q004 (k:=k) (s:=7) hx rfl
 have ts:=q03n hx
 have fx:=hf x (List.mem_of_getElem? hx)
 have ft: ∀y∈l.take i,fairI y:=fun y hy=>hf y (List.mem_of_mem_take hy)
 have ft1: ∀y∈l.take (i+1),fairI y:=fun y hy=>hf y (List.mem_of_mem_take hy)
 have hlen:(l.take i).length=i:=by rw [List.length_take];omega
 have hlen1:(l.take (i+1)).length=i+1:=by rw [List.length_take];omega
 have t1:=q0iy (l.take i) x
 have b1:=q0v2 (l.take i) x
 rw [←ts] at t1 b1
 have q1:=q0hb _ ft
 have q2:=q0hb _ ft1
 have q3:=q0pp _ ft
 have q4:=q0pp _ ft1
 rw [hlen] at q1 q3
 rw [hlen1] at q2 q4
 have it:=fun H=>q0mx x H
 have sf:=fun H=>q0yy (totI x) (q0ch fx) H
 have ta:=fun H=>q0va (totP (l.take i)) (totI x) (q04g q1 (by omega)) (q04g (q0ch fx) (by omega)) (by rw [←t1];exact q04g q2 (by omega)) H
 rw [←t1] at ta
 have g1:(upV ((sumL totP zeroT l i).map q020))[i]? =some ((q020 (totP (l.take i))).map V.p):=by simp [q05v,q0n3 totP zeroT l i i (Nat.le_refl _) (by omega)]
 have g2:(upV ((sumL totP zeroT l i).map q020))[i+1]? =some ((q020 zeroT).map V.p):=by simp [q05v,q0n4 totP zeroT l i hlt]
 have g3:(upV ((sumL boxP 0 l i).map encI))[i]? =some [vI (boxP (l.take i))]:=by simp [q05v,q0n3 boxP 0 l i i (Nat.le_refl _) (by omega),encI]
 have g4:(upV ((sumL boxP 0 l i).map encI))[i+1]? =some [vI 0]:=by simp [q05v,q0n4 boxP 0 l i hlt,encI]
 have s1:(upV ((sumL totP zeroT l i).map q020)).set (i+1) ((q020 (totP (l.take (i+1)))).map V.p)=upV ((sumL totP zeroT l (i+1)).map q020):=by rw [q06r,q0n5]
 have s2:(upV ((sumL boxP 0 l i).map encI)).set (i+1) [vI (boxP (l.take (i+1)))]=upV ((sumL boxP 0 l (i+1)).map encI):=by
  have:=q06r encI (sumL boxP 0 l i) (i+1) (boxP (l.take (i+1)))
  rw [q0n5] at this
  exact this
 have n1:(upV ((sumL totP zeroT l i).map q020)).length=l.length+1:=by simp [q060]
 have n2:(upV ((sumL boxP 0 l i).map encI)).length=l.length+1:=by simp [q060]
 have hlt1:i<l.length+1:=by omega
 have hlt2:i+1<l.length+1:=by omega
 have x0: ∀a b:V,[a,b][0]? =some a:=fun _ _=>rfl
 have x1: ∀a b:V,[a,b][1]? =some b:=fun _ _=>rfl
 have wb:IntKind.i64.wrap (boxP (l.take i)+x.h)=boxP (l.take i)+x.h:=w64 (by have:=fx.h;omega) (by have:=fx.h;omega)
 unfold suE suH
 generalize totP (l.take (i+1))=T1 at*
 generalize totP (l.take i)=T0 at*
 generalize totI x=TI at*
 generalize hB1:boxP (l.take (i+1))=P1 at*
 generalize boxP (l.take i)=P0 at*
 generalize upV ((sumL totP zeroT l i).map q020)=A1 at*
 generalize upV ((sumL totP zeroT l (i+1)).map q020)=A2 at*
 generalize upV ((sumL boxP 0 l i).map encI)=B1 at*
 generalize upV ((sumL boxP 0 l (i+1)).map encI)=B2 at*
 simp only [q020,zeroT,List.map_cons,List.map_nil] at g1 g2 s1
 have g5: ∀v:List V,(B1.set (i+1) v)[i+1]? =some v:=fun v=>by rw [List.getElem?_set_self (by omega)]
 unfold boxI1 at b1
 have ir:=fun H id tot off len s=>q01f H id tot off len s .i64 (i+1)
 simp only [Int.natCast_add,Int.natCast_one] at ir
 by_cases k1:x.k=1
 ·rw [if_pos k1] at b1
  subst b1
  simp only [vItem,k1] at it
  simp [-getElem?_pos,hlt,hix,q004,subs,q001,w,it,sf,ta,g1,g2,g3,g4,g5,s1,s2,n1,n2,hlt1,hlt2,x0,x1,q01f,ir,k1,wb]
 ·rw [if_neg k1,Int.add_zero] at b1
  subst b1
  simp [-getElem?_pos,hlt,hix,q004,subs,q001,w,it,sf,ta,g1,g2,g3,g4,s1,s2,n1,n2,hlt1,hlt2,x0,x1,q01f,ir,k1]
theorem q0Ev (l:List Item) (hl:l.length≤4096) (hf: ∀x∈l,fairI x):evD EE q0Wd (suE l 0)=some (suX l):=by
 unfold q0Wd
 refine Eq.trans (q00u l (fun (_:Unit) i=>suE l i) (fun _ _=>True) (fun _ _ _=>()) (fun _=>suX l) (fun _ _=>rfl) ?_ ?_ () 0 trivial (Nat.zero_le _)) rfl
 ·rintro _ i x-hx
  obtain ⟨c',h1,h2⟩:=q0Eu l hl hf i x hx
  simp only [q0Wd,IC.loop.injEq] at h1
  obtain ⟨-,-,rfl⟩:=h1
  exact ⟨h2,trivial⟩
 ·rintro _-
  simp [suE,suX]
theorem q0vi (l:List Item) (hl:l.length≤4096) (hf: ∀x∈l,fairI x):zR (clD EE (.p (.fn 55)) [q006 l] [])=some (.tup [q00r l,vB true]):=by
 rw [q002 _ _ _ _ _ _ (noP _) fn55]
 have c:=q05o l (by omega)
 have k:=q0Ev l hl hf
 have w:IntKind.i64.wrap ((l.length:Int)+1)=((l.length+1:Nat):Int):=w64 (by omega) (by omega)
 have hm:l.length+1<most:=by unfold most;omega
 have h9: ¬(4096:Int)<l.length:=by omega
 have e1:List.replicate (l.length+1) [vI 0,vI 0,vI 0,vI 0,vI 0,vI 0]=upV ((sumL totP zeroT l 0).map q020):=by rw [q0j9 totP zeroT l rfl];simp [upV,q020,zeroT]
 have e2:List.replicate (l.length+1) [vI 0]=upV ((sumL boxP 0 l 0).map encI):=by rw [q0j9 boxP 0 l rfl];simp [upV,encI]
 have p0:0<(l.length:Int)+1:=by omega
 have pt:((l.length:Int)+1).toNat=l.length+1:=by omega
 simp only [suE,suX,suH,q0z9] at k
 have f1:=fun T=>q04f (H:=DObj.row 6 (upV ((preL totP l (l.length+1)).map q020))::T) (id:=0) (n:=l.length+1) rfl (by simp [q04d])
 have f2:=fun R T=>q04f (H:=R::DObj.row 1 (upV ((preL boxP l (l.length+1)).map encI))::T) (id:=1) (n:=l.length+1) rfl (by simp [q04d])
 generalize upV ((sumL totP zeroT l 0).map q020)=A at*
 generalize upV ((sumL boxP 0 l 0).map encI)=B at*
 simp at k
 simp [St.enter,q000,subs,q001,solN,sd,c,h9,w,hm,p0,pt,e1,e2,k,allO,q00r,f1,f2,q06z]
def anH (l:List Item) (fs:List Float) (n:Nat):Heap:=[DObj.row 1 (upV ((preL q01a l n).map encI)),DObj.row 3 (upV ((preL (q00n fs) l n).map encC3)),DObj.row 3 (upV ((preL (dueP fs) l n).map encC3))]
def anE (l:List Item) (fs:List Float) (i:Nat):St:=
 ⟨[(1,q005 fs),(5,.lptr 21 0),(22,q006 l),(23,vI l.length),(24,vI i)],[(21,[q006 l,.row 0 (i+1) 0 (i+1),.row 1 (i+1) 0 (i+1),.row 2 (i+1) 0 (i+1)])],anH l fs (i+1),0,[]⟩
def anX (l:List Item) (fs:List Float):Ex×St:=
 (.exit 0,⟨[(1,q005 fs),(5,.lptr 21 0),(22,q006 l),(23,vI l.length),(24,vI l.length),(25,vB false)],[(21,[q006 l,.row 0 (l.length+1) 0 (l.length+1),.row 1 (l.length+1) 0 (l.length+1),.row 2 (l.length+1) 0 (l.length+1)])],anH l fs (l.length+1),0,[]⟩)
theorem q0hd {α:Type} (enc:α→List PV) (f:List Item→α) (l:List Item) (n:Nat):upV ((preL f l n).map enc)++upV [enc (f (l.take n))]=upV ((preL f l (n+1)).map enc):=by
 rw [q0v1];simp [upV]
theorem q0za (l:List Item) (fs:List Float) (hl:l.length≤1000000) (i:Nat) (x:Item) (hx:l[i]? =some x): ∃c,q0We= .loop [1,5,22,23,24] [21] c∧evD EE c (anE l fs i)=some (.normal,anE l fs (i+1)):=by
 refine ⟨_,rfl,?_⟩
 have hlt:=(List.getElem?_eq_some_iff.1 hx).1
 have w:IntKind.i64.wrap ((i:Int)+1)=((i+1:Nat):Int):=w64 (by omega) (by omega)
 have hix:=fun H k=>q00c H q004 (k:=k) (s:=7) hx rfl
 have ts:=q03n hx
 have b1:=q0oa (l.take i) x
 have a1:=q0db fs (l.take i) x
 have d1:=q0bo fs (l.take i) x
 rw [←ts] at b1 a1 d1
 have g1:(upV ((preL q01a l (i+1)).map encI))[i]? =some [vI (q01a (l.take i))]:=by simp [q05v,q04e q01a l (i+1) i (by omega),encI]
 have g2:(upV ((preL (q00n fs) l (i+1)).map encC3))[i]? =some [vI (q00n fs (l.take i)).a,vI (q00n fs (l.take i)).b,vI (q00n fs (l.take i)).c]:=by simp [q05v,q04e (q00n fs) l (i+1) i (by omega),encC3]
 have g3:(upV ((preL (dueP fs) l (i+1)).map encC3))[i]? =some [vI (dueP fs (l.take i)).a,vI (dueP fs (l.take i)).b,vI (dueP fs (l.take i)).c]:=by simp [q05v,q04e (dueP fs) l (i+1) i (by omega),encC3]
 have p1:=q0hd encI q01a l (i+1)
 have p2:=q0hd encC3 (q00n fs) l (i+1)
 have p3:=q0hd encC3 (dueP fs) l (i+1)
 have n1:(upV ((preL q01a l (i+1)).map encI)).length=i+1:=by simp [q04d]
 have n2:(upV ((preL (q00n fs) l (i+1)).map encC3)).length=i+1:=by simp [q04d]
 have n3:(upV ((preL (dueP fs) l (i+1)).map encC3)).length=i+1:=by simp [q04d]
 have bb:=q0iw (l.take i)
 have ab:=q0ix fs (l.take i)
 have hlen:(l.take i).length=i:=by rw [List.length_take];omega
 rw [hlen] at bb ab
 have wb:IntKind.i64.wrap (q01a (l.take i)+1)=q01a (l.take i)+1:=w64 (by omega) (by omega)
 have wa:IntKind.i64.wrap ((q00n fs (l.take i)).a+1)=(q00n fs (l.take i)).a+1:=w64 (by omega) (by omega)
 have wb2:IntKind.i64.wrap ((q00n fs (l.take i)).b+1)=(q00n fs (l.take i)).b+1:=w64 (by omega) (by omega)
 have wc:IntKind.i64.wrap ((q00n fs (l.take i)).c+1)=(q00n fs (l.take i)).c+1:=w64 (by omega) (by omega)
 have hm:i+1+1<most:=by unfold most;omega
 have hat:=fun H=>at_ev fs x.n H
 have x0: ∀a b:V,[a,b][0]? =some a:=fun _ _=>rfl
 have x1: ∀a b:V,[a,b][1]? =some b:=fun _ _=>rfl
 simp only [encI,encC3,b1,a1,d1] at p1 p2 p3
 unfold anE anH
 generalize q01a (l.take i)=b at*
 generalize hA:q00n fs (l.take i)=A at*
 generalize hD:dueP fs (l.take i)=D at*
 generalize upV ((preL q01a l (i+1)).map encI)=B1 at*
 generalize upV ((preL (q00n fs) l (i+1)).map encC3)=A1 at*
 generalize upV ((preL (dueP fs) l (i+1)).map encC3)=D1 at*
 generalize upV ((preL q01a l (i+1+1)).map encI)=B2 at*
 generalize upV ((preL (q00n fs) l (i+1+1)).map encC3)=A2 at*
 generalize upV ((preL (dueP fs) l (i+1+1)).map encC3)=D2 at*
 unfold addAt at p2
 by_cases k5:x.k=5
 ·simp only [k5,if_true,show¬(5:Int)=6 by decide,show¬(5:Int)=7 by decide,if_false] at p1 p2 p3
  simp [-getElem?_pos,hlt,hix,q004,subs,q001,g1,g2,g3,n1,n2,n3,w,hm,p1,p2,p3,apoB,okEl,q01f,x0,x1,k5,wb]
 ·by_cases k6:x.k=6
  ·simp only [k6,if_true,show¬(6:Int)=5 by decide,show¬(6:Int)=7 by decide,if_false,Int.add_zero] at p1 p2 p3
   unfold ofS at p2
   cases hf:atF fs x.n with
   |none=>
    simp only [hf] at p2 hat
    simp [-getElem?_pos,hlt,hix,q004,subs,q001,g1,g2,g3,n1,n2,n3,w,hm,p1,p2,p3,apoB,okEl,q01f,x0,x1,k6,hat]
   |some f=>
    simp only [hf] at p2 hat
    unfold bump at p2
    by_cases d0:f.c=0
    ·simp only [d0,if_true] at p2
     simp [-getElem?_pos,hlt,hix,q004,subs,q001,g1,g2,g3,n1,n2,n3,w,hm,p1,p2,p3,apoB,okEl,q01f,x0,x1,k6,hat,d0,ixaV,q007,wa]
    ·by_cases d1:f.c=1
     ·simp only [d1,if_true,show¬(1:Int)=0 by decide,if_false] at p2
      simp [-getElem?_pos,hlt,hix,q004,subs,q001,g1,g2,g3,n1,n2,n3,w,hm,p1,p2,p3,apoB,okEl,q01f,x0,x1,k6,hat,d1,ixaV,q007,wb2]
     ·by_cases d2:f.c=2
      ·simp only [d2,if_true,show¬(2:Int)=0 by decide,show¬(2:Int)=1 by decide,if_false] at p2
       simp [-getElem?_pos,hlt,hix,q004,subs,q001,g1,g2,g3,n1,n2,n3,w,hm,p1,p2,p3,apoB,okEl,q01f,x0,x1,k6,hat,d2,ixaV,q007,wc]
      ·simp only [d0,d1,d2,if_false] at p2
       by_cases d3:f.c<0
       ·simp [-getElem?_pos,hlt,hix,q004,subs,q001,g1,g2,g3,n1,n2,n3,w,hm,p1,p2,p3,apoB,okEl,q01f,x0,x1,k6,hat,show¬0≤f.c by omega]
       ·simp [-getElem?_pos,hlt,hix,q004,subs,q001,g1,g2,g3,n1,n2,n3,w,hm,p1,p2,p3,apoB,okEl,q01f,x0,x1,k6,hat,show 0≤f.c by omega,show¬f.c<3 by omega]
  ·by_cases k7:x.k=7
   ·simp only [k7,if_true,show¬(7:Int)=5 by decide,show¬(7:Int)=6 by decide,if_false,Int.add_zero] at p1 p2 p3
    by_cases q1:D.a=A.a
    ·by_cases q2:D.b=A.b
     ·by_cases q3:D.c=A.c
      ·simp [-getElem?_pos,hlt,hix,q004,subs,q001,g1,g2,g3,n1,n2,n3,w,hm,p1,p2,p3,apoB,okEl,q01f,x0,x1,k7,q1,q2,q3]
      ·simp [-getElem?_pos,hlt,hix,q004,subs,q001,g1,g2,g3,n1,n2,n3,w,hm,p1,p2,p3,apoB,okEl,q01f,x0,x1,k7,q1,q2,q3]
     ·simp [-getElem?_pos,hlt,hix,q004,subs,q001,g1,g2,g3,n1,n2,n3,w,hm,p1,p2,p3,apoB,okEl,q01f,x0,x1,k7,q1,q2]
    ·simp [-getElem?_pos,hlt,hix,q004,subs,q001,g1,g2,g3,n1,n2,n3,w,hm,p1,p2,p3,apoB,okEl,q01f,x0,x1,k7,q1]
   ·simp only [k5,k6,k7,if_false,Int.add_zero] at p1 p2 p3
    simp [-getElem?_pos,hlt,hix,q004,subs,q001,g1,g2,g3,n1,n2,n3,w,hm,p1,p2,p3,apoB,okEl,q01f,x0,x1,k5,k6,k7]
theorem q0zb (l:List Item) (fs:List Float) (hl:l.length≤1000000):evD EE q0We (anE l fs 0)=some (anX l fs):=by
 unfold q0We
 refine Eq.trans (q00u l (fun (_:Unit) i=>anE l fs i) (fun _ _=>True) (fun _ _ _=>()) (fun _=>anX l fs) (fun _ _=>rfl) ?_ ?_ () 0 trivial (Nat.zero_le _)) rfl
 ·rintro _ i x-hx
  obtain ⟨c',h1,h2⟩:=q0za l fs hl i x hx
  simp only [q0We,IC.loop.injEq] at h1
  obtain ⟨-,-,rfl⟩:=h1
  exact ⟨h2,trivial⟩
 ·rintro _-
  simp [anE,anX]
theorem q0vj (l:List Item) (fs:List Float) (hl:l.length≤1000000):zR (clD EE (.p (.fn 57)) [q006 l,q005 fs] [])=some (vMapW l fs):=by
 rw [q002 _ _ _ _ _ _ (noP _) fn57]
 have c:=q05o l hl
 have k:=q0zb l fs hl
 have e1:upV ((preL q01a l 1).map encI)=[[vI 0]]:=by simp [preL,upV,encI,q01a,cnt]
 have e2:upV ((preL (q00n fs) l 1).map encC3)=[[vI 0,vI 0,vI 0]]:=by simp [preL,upV,encC3,q00n]
 have e3:upV ((preL (dueP fs) l 1).map encC3)=[[vI 0,vI 0,vI 0]]:=by simp [preL,upV,encC3,dueP]
 simp only [anE,anX,anH,Nat.zero_add,e1,e2,e3] at k
 simp at k
 have f1:=fun T=>q04f (H:=DObj.row 1 (upV ((preL q01a l (l.length+1)).map encI))::T) (id:=0) (n:=l.length+1) rfl (by simp [q04d])
 have f2:=fun R T=>q04f (H:=R::DObj.row 3 (upV ((preL (q00n fs) l (l.length+1)).map encC3))::T) (id:=1) (n:=l.length+1) rfl (by simp [q04d])
 have f3:=fun R R' T=>q04f (H:=R::R'::DObj.row 3 (upV ((preL (dueP fs) l (l.length+1)).map encC3))::T) (id:=2) (n:=l.length+1) rfl (by simp [q04d])
 simp [St.enter,q000,subs,q001,solN,sd,c,k,allO,vMapW,f1,f2,f3,rowI,okEl]
theorem q0zc (env:List (Nat×V)) (loc:List (Nat×List V)) (H:Heap) (l:List Note) (x:Note) (hm:l.length+1<most):
  appV ⟨env,loc,H++rowsG 2 q00e l,H.length,[]⟩ (q00k H.length l) (.p (.sl [q00e x])) 2=some (q00k H.length (l++[x]),⟨env,loc,H++rowsG 2 q00e (l++[x]),H.length,[]⟩):=
 q08t env loc H H.length [] 2 q00e l x rfl hm (Nat.le_refl _)
def q0n6:List V:=[vI 0,vI 0,vI 0,vI 0,vI 0,vI 0,vI 0,vI 0,vI 0,vI 0,vI 0,vI 0,vI 0,vI 0,vI 0,vI 0,vI 0,vI 0,vB false,.nils,.nils,.nils]
def cpE (j:Job) (H:Heap) (M:List Note) (i:Nat):St:=
 ⟨[(2,.lptr 2 0),(3,.lptr 3 0),(16,q00b j.notes),(17,vI j.notes.length),(18,vI i)],[(2,q0n6),(3,cGeom j.g++[q006 j.items,q00k H.length M,q005 j.floats])],H++rowsG 2 q00e M,H.length,[]⟩
def cpX (j:Job) (H:Heap):Ex×St:=
 (.exit 0,⟨[(2,.lptr 2 0),(3,.lptr 3 0),(16,q00b j.notes),(17,vI j.notes.length),(18,vI j.notes.length),(19,vB false)],[(2,q0n6),(3,cGeom j.g++[q006 j.items,q00k H.length j.notes,q005 j.floats])],H++rowsG 2 q00e j.notes,H.length,[]⟩)
theorem cp_lp (j:Job) (n2:j.notes.length≤1000000) (hn: ∀n∈j.notes,n.lines.length≤1000000∧n.pens.length≤1000000) (H:Heap):evD EE q0Xe (cpE j H [] 0)=some (cpX j H):=by
 unfold q0Xe
 refine Eq.trans (q00u j.notes (fun (_:Unit) i=>cpE j H (j.notes.take i) i) (fun _ _=>True) (fun _ _ _=>()) (fun _=>cpX j H) (fun _ _=>rfl) ?_ ?_ () 0 trivial (Nat.zero_le _)) rfl
 ·rintro _ i x-hx
  refine ⟨?_,trivial⟩
  have hlt:=(List.getElem?_eq_some_iff.1 hx).1
  have w:IntKind.i64.wrap ((i:Int)+1)=((i+1:Nat):Int):=w64 (by omega) (by omega)
  have hix:=fun H k=>q00c H q00e (k:=k) (s:=2) hx rfl
  obtain ⟨l1,l2⟩:=hn x (List.mem_of_getElem? hx)
  have c1:=q0rj x.lines l1
  have c2:=q0ob x.pens l2
  have hlen:(j.notes.take i).length=i:=by rw [List.length_take];omega
  have ha:=fun env loc=>q0zc env loc H (j.notes.take i) x (by rw [hlen];unfold most;omega)
  rw [q03n hx]
  generalize j.notes.take i=M at*
  simp only [q00e] at hix ha
  simp only [cpE,cGeom,List.cons_append,List.nil_append]
  simp [-q08l,hlt,hix,subs,q001,solN,sd,w,c1,c2,ha]
 ·rintro _-
  simp only [cpE,cpX,List.take_length]
  simp [subs]
theorem q0vk (j:Job) (n1:j.items.length≤1000000) (n2:j.notes.length≤1000000) (n3:j.floats.length≤1000000) (hn: ∀n∈j.notes,n.lines.length≤1000000∧n.pens.length≤1000000) (H:Heap):clD EE (.p (.fn 53)) [vJob j] H=some (vJob j,none):=by
 rw [q002 _ _ _ _ _ _ (noP _) fn53]
 have c1:=q05o j.items n1
 have c2:=q0jx j.floats n3
 have k:=cp_lp j n2 hn H
 have f2:=fun env loc=>q07b env loc (H++rowsG 2 q00e j.notes) H.length [] H.length 2 q00e j.notes (by
  have:=q09q 2 q00e H [] j.notes
  simpa using this) (Nat.le_refl _)
 simp only [cpE,cpX,q0n6,cGeom,List.cons_append,List.nil_append] at k
 simp only [vJob,cGeom,List.cons_append,List.nil_append]
 generalize hu:q00k H.length j.notes=u at*
 have o:u.oneB=true:=by rw [←hu];simp
 have p:u.cells=[u]:=by rw [←hu];simp
 clear hu
 generalize H++rowsG 2 q00e j.notes=G at*
 simp at k
 simp [St.enter,q000,subs,q001,solN,sd,c1,c2,k,f2,o,p]
def encNp (n:Note):List Int×List Int:=(n.lines,n.pens)
theorem q0n7 (l:List Note):q037 (l.map encNp)=lineN l:=by
 induction l with
 |nil=>rfl
 |cons n r ih=>simp only [List.map_cons,q037,List.foldr_cons,lineN,List.sum_cons] at ih⊢;rw [ih];rfl
theorem q0n8 (l:List Note) (H:Heap) (hl:l.length≤1000000) (hs:lineN l≤9223372036854775807):clD EE (.p (.fn 59)) [q00b l] H=some (vI (lineN l),none):=by
 have h:=q0yl (l.map encNp) H (by simpa using hl) (by rw [q0n7];exact hs)
 rw [q0n7] at h
 unfold notes at h
 rw [List.map_map] at h
 exact h
theorem q0zd (l:List Note) (h: ∀n∈l,n.lines.length≤1000000):0≤lineN l∧lineN l≤1000000*l.length:=by
 induction l with
 |nil=>simp [lineN]
 |cons n r ih=>
  have h1:=h n List.mem_cons_self
  have h2:=ih fun m hm=>h m (List.mem_cons_of_mem _ hm)
  simp only [lineN,List.map_cons,List.sum_cons,List.length_cons] at h2⊢
  omega
def cutV {α:Type} (enc:α→List PV) (l:List α) (p:Nat):V:=if p=0 then .nils else .p (.sl ((l.take p).map enc))
section
variable {α:Type} (enc:α→List PV) (l:List α) (p:Nat)
@[simp] theorem q0R9:(cutV enc l p).oneB=true:=by unfold cutV;split<;>rfl
@[simp] theorem q0Nu:(cutV enc l p).cells=[cutV enc l p] :=by unfold cutV;split<;>rfl
@[simp] theorem q0Ra:(cutV enc l p).notL=true:=by unfold cutV;split<;>rfl
@[simp] theorem q0Nv:normC (cutV enc l p)= .p (.sl ((l.take p).map enc)):=by
  unfold cutV;split
  ·rename_i h0;subst h0;rfl
  ·rfl
theorem q0ze (s:Nat) (hs: ∀x,(enc x).length=s) (H:Heap) (k:IntKind) (h:p≤l.length):slcI H s (.p (.sl (l.map enc))) none (some (.p (.int k (p:Int))))=some (.p (.sl ((l.take p).map enc))):=by
 have hh:q066 s (l.map enc)=true:=by
  cases l with
  |nil=>rfl
  |cons x r=>simp [q066,hs]
 have h2:(p:Int)≤l.length:=by omega
 simp [slcI,slcV,hh,h2]
end
end Go.EnvOf
