/- The program's functions and the document's, evaluated. -/
import Derived.Test.YtjjdmlpdgcdehaaGreatText7
import Derived.Test.YtjjdmlpdgcdehaaGreatText3
import Derived.Test.YtjjdmlpdgcdehaaGreatText5
import Derived.Test.YtjjdmlpdgcdehaaGreatText2
set_option linter.unusedSimpArgs false
set_option linter.unusedVariables false
namespace Go.EnvOf
open Go Go.Eng
set_option maxRecDepth 100000
theorem q07e (j:Job) (H:Heap):clD EE (.p (.fn 115)) [vW j] H=some (q00d j.items,none):=by
 rw [q002 _ _ _ _ _ _ (noP _) fn115]
 have p: ∀H,clD EE (.p (.fn 229)) [vW j] H=some (q00o j,none):=by
  intro H
  rw [q002 _ _ _ _ _ _ (noP _) fn229]
  simp [vW,zEc]
 have q: ∀H,clD EE (.p (.fn 230)) [q00o j] H=some (q00d j.items,none):=by
  intro H
  rw [q002 _ _ _ _ _ _ (noP _) fn230]
  simp [q00o,zEc]
 simp [zEa,p,q]
theorem q0z0 (j:Job) (H:Heap):clD EE (.p (.fn 215)) [vW j] H=some (q00r j.items,none):=by
 rw [q002 _ _ _ _ _ _ (noP _) fn215]
 have p: ∀H,clD EE (.p (.fn 229)) [vW j] H=some (q00o j,none):=by
  intro H
  rw [q002 _ _ _ _ _ _ (noP _) fn229]
  simp [vW,zEc]
 have q: ∀H,clD EE (.p (.fn 287)) [q00o j] H=some (q00r j.items,none):=by
  intro H
  rw [q002 _ _ _ _ _ _ (noP _) fn287]
  simp [q00o,zEc]
 simp [zEa,p,q]
def sumT (l:List Item) (a b:Int):Tot:=if max a 0<min b l.length then subT (totP (l.take (min b l.length).toNat)) (totP (l.take (max a 0).toNat)) else zeroT
theorem q0rm (l:List Item) (H:Heap):clD EE (.p (.fn 348)) [q00r l] H=some (vI l.length,none):=by
 rw [q002 _ _ _ _ _ _ (noP _) fn348]
 simp [q00r,zEc]
theorem q0rn (l:List Item) (a b:Int) (H:Heap):clD EE (.p (.fn 288)) [q00r l,vI a,vI b] H=some (.tup [vI (max a 0),vI (min b l.length),vB (decide (max a 0<min b l.length))],none):=by
 rw [q002 _ _ _ _ _ _ (noP _) fn288]
 have h:=fun H=>q0rm l H
 simp [zEc,h]
theorem q0vc (a b:Tot) (ha:inT64 a) (hb:inT64 b) (hc:inT64 (subT a b)) (H:Heap):clD EE (.p (.fn 289)) [vTot a,vTot b] H=some (.tup [vTot (subT a b),vB true],none):=by
 rw [q002 _ _ _ _ _ _ (noP _) fn289]
 have one: ∀(x y:Int) (H:Heap),I64 x->I64 y->I64 (x-y)->clD EE (.p (.fn 320)) [vI x,vI y] H=some (resT (some (x-y)),none):=by
  intro x y H hx hy hz
  rw [q0u9 x y H hx hy,q0Ck hz]
 have h:=fun H=>q0pr 320 a b (subT a b) H (fun x y z H hm=>by
  simp only [ZI,Prod.mk.injEq,List.not_mem_nil,or_false] at hm
  rcases hm with ⟨rfl,rfl,rfl⟩|⟨rfl,rfl,rfl⟩|⟨rfl,rfl,rfl⟩|⟨rfl,rfl,rfl⟩|⟨rfl,rfl,rfl⟩|⟨rfl,rfl,rfl⟩
  ·exact one _ _ _ ha.nat hb.nat hc.nat
  ·exact one _ _ _ ha.s0 hb.s0 hc.s0
  ·exact one _ _ _ ha.s1 hb.s1 hc.s1
  ·exact one _ _ _ ha.s2 hb.s2 hc.s2
  ·exact one _ _ _ ha.s3 hb.s3 hc.s3
  ·exact one _ _ _ ha.shr hb.shr hc.shr)
 generalize subT a b=c at*
 simp [zEc,h]
theorem q0Cl {m k:Int} {a b:Tot} (ha:inT m a) (hb:inT k b) (hm:m<=9223372036854775807) (hk:k<=9223372036854775807):inT64 (subT a b):=by
 obtain ⟨⟨a1,a2⟩,⟨a3,a4⟩,⟨a5,a6⟩,⟨a7,a8⟩,⟨a9,b1⟩,⟨b2,b3⟩⟩:=ha
 obtain ⟨⟨c1,c2⟩,⟨c3,c4⟩,⟨c5,c6⟩,⟨c7,c8⟩,⟨c9,d1⟩,⟨d2,d3⟩⟩:=hb
 constructor<;>constructor<;>simp only [subT]<;>omega
theorem q0my (l:List Item) (hl:l.length<=1000000) (hf: ∀x∈l,fairI x) (n:Nat):inT 4294967296000000 (totP (l.take n)):=by
 have h:=q0hb (l.take n) (fun x hx=>hf x (Z6 hx))
 have hn:(l.take n).length<=1000000:=by rw [ZC];omega
 have hm:4294967296*((l.take n).length:Int)<=4294967296000000:=by omega
 obtain ⟨⟨a1,a2⟩,⟨a3,a4⟩,⟨a5,a6⟩,⟨a7,a8⟩,⟨a9,b1⟩,⟨b2,b3⟩⟩:=h
 constructor<;>constructor<;>omega
theorem q0vd (l:List Item) (hl:l.length<=1000000) (hf: ∀x∈l,fairI x) (a b:Int) (H:Heap):clD EE (.p (.fn 216)) [q00r l,vI a,vI b] H=some (vTot (sumT l a b),none):=by
 rw [q002 _ _ _ _ _ _ (noP _) fn216]
 have hw:=fun H=>q0rn l a b H
 unfold sumT
 by_cases c:max a 0<min b l.length
 ·have ha:(preL totP l (l.length+1))[(max a 0).toNat]? =some (totP (l.take (max a 0).toNat)):=q04e _ _ _ _ (by omega)
  have hb:(preL totP l (l.length+1))[(min b l.length).toNat]? =some (totP (l.take (min b l.length).toNat)):=q04e _ _ _ _ (by omega)
  have ia:=fun H k=>q024 H q020 (k:=k) (s:=6) (i:=max a 0) (by omega) ha rfl
  have ib:=fun H k=>q024 H q020 (k:=k) (s:=6) (i:=min b l.length) (by omega) hb rfl
  have i1:=q0my l hl hf (min b l.length).toNat
  have i2:=q0my l hl hf (max a 0).toNat
  have hs:=fun H=>q0vc _ _ (q04g i1 (by omega)) (q04g i2 (by omega)) (q0Cl i1 i2 (by omega) (by omega)) H
  rw [if_pos c]
  generalize totP (l.take (min b l.length).toNat)=t1 at*
  generalize totP (l.take (max a 0).toNat)=t2 at*
  generalize subT t1 t2=t3 at*
  generalize max a 0=a' at*
  generalize min b l.length=b' at*
  simp only [q020] at ia ib
  simp only [q00r] at hw⊢
  simp [zEc,hw,c,ia,ib,hs]
 ·rw [if_neg c]
  simp [zEc,hw,c,zeroT]
structure Setg where
 how:Int
 ord:Int
 by_:Int
 of_:Int
 left:Int
 deriving Inhabited,DecidableEq
def zeroG:Setg:=⟨0,0,0,0,0⟩
abbrev vSet (s:Setg):V:= .agg [vI s.how,vI s.ord,vI s.by_,vI s.of_,vI s.left]
def fairL (n:Int):Bool:=decide (0<=n)&&decide (n<=1125899906842624)
def q03k (t:Tot):Bool:=fairL t.s0&&fairL t.s1&&fairL t.s2&&fairL t.s3&&fairL t.nat&&fairL t.shr
def q04u (t:Tot) (h:Int):Bool:=q03k t&&decide (-1125899906842624<=h)&&decide (h<=1125899906842624)
def ordT (t:Tot):Int:=if t.s3≠0 then 3 else if t.s2≠0 then 2 else if t.s1≠0 then 1 else 0
def strT (t:Tot) (o:Int):Int:=if o=3 then t.s3 else if o=2 then t.s2 else if o=1 then t.s1 else t.s0
def q07f (t:Tot) (h:Int) (last:Bool):Setg:=
 if q04u t h=true then
  if h-t.nat=0 then zeroG
  else if 0<h-t.nat/\0<strT t (ordT t)/\ ¬(last=true/\ordT t=0) then ⟨1,ordT t,h-t.nat,strT t (ordT t),0⟩
  else if 0<h-t.nat then ⟨0,0,0,0,h-t.nat⟩
  else if 0<=t.shr+(h-t.nat) then ⟨2,0,-(h-t.nat),t.shr,0⟩
  else ⟨3,0,t.shr,t.shr,t.shr+(h-t.nat)⟩
 else zeroG
theorem q0z1 (n:Int) (H:Heap):clD EE (.p (.fn 381)) [vI n] H=some (vB (fairL n),none):=by
 rw [q002 _ _ _ _ _ _ (noP _) fn381]
 unfold fairL
 by_cases h:0<=n<;>simp [zEa,h]
theorem q0ro (t:Tot) (H:Heap):clD EE (.p (.fn 347)) [vTot t] H=some (vB (q03k t),none):=by
 rw [q002 _ _ _ _ _ _ (noP _) fn347]
 have f:=fun n H=>q0z1 n H
 have w1:IntKind.i64.wrap 1=1:=by decide
 have w2:IntKind.i64.wrap 2=2:=by decide
 have w3:IntKind.i64.wrap 3=3:=by decide
 have w4:IntKind.i64.wrap 4=4:=by decide
 unfold q03k
 cases c0:fairL t.s0 with
 |false=>simp [zEc,f,q0Vv,q003,ixvV,ixaV,q007,w1,w2,w3,w4,c0]
 |true=>
  cases c1:fairL t.s1 with
  |false=>simp [zEc,f,q0Vv,q003,ixvV,ixaV,q007,w1,w2,w3,w4,c0,c1]
  |true=>
   cases c2:fairL t.s2 with
   |false=>simp [zEc,f,q0Vv,q003,ixvV,ixaV,q007,w1,w2,w3,w4,c0,c1,c2]
   |true=>
    cases c3:fairL t.s3 with
    |false=>simp [zEc,f,q0Vv,q003,ixvV,ixaV,q007,w1,w2,w3,w4,c0,c1,c2,c3]
    |true=>
     cases c4:fairL t.nat<;>simp [zEc,f,q0Vv,q003,ixvV,ixaV,q007,w1,w2,w3,w4,c0,c1,c2,c3,c4]
theorem q0ve (t:Tot) (h:Int) (H:Heap):clD EE (.p (.fn 285)) [vTot t,vI h] H=some (vB (q04u t h),none):=by
 rw [q002 _ _ _ _ _ _ (noP _) fn285]
 have f:=fun H=>q0ro t H
 unfold q04u
 cases c:q03k t with
 |false=>simp [zEc,f,c]
 |true=>by_cases d: -1125899906842624<=h<;>simp [zEc,f,c,d]
theorem q0Cm (t:Tot) (H:Heap):clD EE (.p (.fn 286)) [vTot t] H=some (vI (ordT t),none):=by
 rw [q002 _ _ _ _ _ _ (noP _) fn286]
 have w0:IntKind.i64.wrap 0=0:=by decide
 have w1:IntKind.i64.wrap 1=1:=by decide
 have w2:IntKind.i64.wrap 2=2:=by decide
 unfold ordT
 by_cases c3:t.s3=0
 ·by_cases c2:t.s2=0
  ·by_cases c1:t.s1=0
   ·simp [zEc,q0Wa,q003,ixaV,q007,w0,w1,w2,c3,c2,c1]
   ·simp [zEc,q0Wa,q003,ixaV,q007,w0,w1,w2,c3,c2,c1]
  ·simp [zEc,q0Wa,q003,ixaV,q007,w0,w1,w2,c3,c2]
 ·simp [zEc,q0Wa,q003,ixaV,q007,w0,w1,w2,c3]
theorem q0j5 {t:Tot} {h:Int} (r:q04u t h=true):(0<=t.nat/\t.nat<=1125899906842624)/\(0<=t.shr/\t.shr<=1125899906842624)/\ -1125899906842624<=h/\h<=1125899906842624:=by
 unfold q04u q03k fairL at r
 simp at r
 omega
theorem q0vf (t:Tot) (h:Int) (last:Bool) (H:Heap):clD EE (.p (.fn 214)) [vTot t,vI h,vB last] H=some (vSet (q07f t h last),none):=by
 rw [q002 _ _ _ _ _ _ (noP _) fn214]
 have r:=fun H=>q0ve t h H
 have o:=fun H=>q0Cm t H
 unfold q07f
 cases c:q04u t h with
 |false=>simp [zEc,r,c,zeroG]
 |true=>
  have bd:=q0j5 c
  obtain ⟨need,hneed⟩: ∃n,h-t.nat=n:=⟨_,rfl⟩
  have w1:IntKind.i64.wrap (h-t.nat)=need:=by rw [hneed];exact w64 (by omega) (by omega)
  have w2:IntKind.i64.wrap (t.shr+need)=t.shr+need:=w64 (by omega) (by omega)
  have w3:IntKind.i64.wrap (-need)= -need:=w64 (by omega) (by omega)
  have ho:(ordT t=0/\strT t (ordT t)=t.s0)\/(ordT t=1/\strT t (ordT t)=t.s1)\/(ordT t=2/\strT t (ordT t)=t.s2)\/(ordT t=3/\strT t (ordT t)=t.s3):=by
   unfold ordT
   (repeat' split)<;>simp [strT]
  simp only [hneed]
  clear hneed bd
  generalize strT t (ordT t)=str at*
  generalize ordT t=od at*
  simp only [if_true]
  by_cases n0:need=0
  ·subst n0
   simp [zEc,r,c,o,w1,zeroG]
  ·by_cases n1:0<need
   ·rcases ho with ⟨rfl,rfl⟩|⟨rfl,rfl⟩|⟨rfl,rfl⟩|⟨rfl,rfl⟩
    ·by_cases s:0<t.s0
     ·cases last<;>simp [zEc,ixaV,q007,r,c,o,w1,w2,n0,n1,s]
     ·simp [zEc,ixaV,q007,r,c,o,w1,w2,n0,n1,s]
    ·by_cases s:0<t.s1
     ·cases last<;>simp [zEc,ixaV,q007,r,c,o,w1,w2,n0,n1,s]
     ·simp [zEc,ixaV,q007,r,c,o,w1,w2,n0,n1,s]
    ·by_cases s:0<t.s2
     ·cases last<;>simp [zEc,ixaV,q007,r,c,o,w1,w2,n0,n1,s]
     ·simp [zEc,ixaV,q007,r,c,o,w1,w2,n0,n1,s]
    ·by_cases s:0<t.s3
     ·cases last<;>simp [zEc,ixaV,q007,r,c,o,w1,w2,n0,n1,s]
     ·simp [zEc,ixaV,q007,r,c,o,w1,w2,n0,n1,s]
   ·by_cases n2:0<=t.shr+need
    ·simp [zEc,r,c,o,w1,w2,w3,n0,n1,n2]
    ·simp [zEc,r,c,o,w1,w2,n0,n1,n2]
def highA (g:Geom) (fs:List Float) (a b:List Int):Int:=IntKind.i64.wrap (highQ fs a g.sep+highQ fs b g.sep)
def q05p (g:Geom) (fs:List Float) (a:List Int):Int:=if highQ fs a g.sep=0 then 0 else IntKind.i64.wrap (highQ fs a g.sep-min (max g.sep 0) 1125899906842624)
theorem q0oc (g:Geom) (fs:List Float) (a b:List Int) (ha:a.length<=9223372036854775807) (hb:b.length<=9223372036854775807) (H:Heap):clD EE (.p (.fn 210)) [vGeom g,q005 fs,.agg [sli a,sli b]] H=some (vI (highA g fs a b),none):=by
 rw [q002 _ _ _ _ _ _ (noP _) fn210]
 have h1:=fun H=>q0Vw fs a g.sep H ha
 have h2:=fun H=>q0Vw fs b g.sep H hb
 unfold highA
 simp [zEc,h1,h2]
theorem q0mz (g:Geom) (fs:List Float) (a:List Int) (ha:a.length<=9223372036854775807) (H:Heap):clD EE (.p (.fn 211)) [vGeom g,q005 fs,sli a] H=some (vI (q05p g fs a),none):=by
 rw [q002 _ _ _ _ _ _ (noP _) fn211]
 have h1:=fun H=>q0Vw fs a g.sep H ha
 unfold q05p
 by_cases c:highQ fs a g.sep=0<;>simp [zEc,h1,c]
def lastC (l:List Item) (c:Colm):Bool:=decide (c.k=1)&&(decide (c.to=l.length)||match q02g l c.to with|some x=>decide (0<c.to)&&q05z x|none=>false)
theorem q0z2 (j:Job) (c:Colm) (H:Heap):clD EE (.p (.fn 213)) [vW j,vColm c] H=some (vB (lastC j.items c),none):=by
 rw [q002 _ _ _ _ _ _ (noP _) fn213]
 have l1:=fun H=>q07e j H
 have l2:=fun H=>q021 j.items H
 have l3:=fun H=>q07s j.items c.to H
 have f:=fun x H=>q0j4 x H
 unfold lastC
 by_cases k:c.k=1
 ·by_cases e:c.to=j.items.length
  ·cases h:q02g j.items c.to with
   |none=>rw [h] at l3;simp [zEc,l1,l2,l3,k,<-e]
   |some x=>rw [h] at l3;simp [zEc,l1,l2,l3,k,<-e]
  ·cases h:q02g j.items c.to with
   |none=>rw [h] at l3;simp [zEc,l1,l2,l3,k,e]
   |some x=>
    rw [h] at l3
    by_cases p:0<c.to<;>simp [zEc,l1,l2,l3,k,e,p,f]
 ·simp [zEc,k]
structure Fcts where
 notes:Int
 floats:Int
 room:Int
 last:Bool
 over:Bool
 set_:Setg
def zeroF:Fcts:=⟨0,0,0,false,false,zeroG⟩
abbrev vFcts (f:Fcts):V:= .agg [vI f.notes,vI f.floats,vI f.room,vB f.last,vB f.over,vI f.set_.how,vI f.set_.ord,vI f.set_.by_,vI f.set_.of_,vI f.set_.left]
def q05b (j:Job) (c:Colm):Int:=if c.k=1 then highA j.g j.floats c.top c.bot else if c.k=2 then q05p j.g j.floats c.top else 0
def roomC (j:Job) (s:Stt) (c:Colm):Int:=IntKind.i64.wrap (IntKind.i64.wrap (highS j s-highP j.notes c.notes j.g.rule)-q05b j c)
def fullC (j:Job) (c:Colm):Bool:=decide (0<c.notes.length)&&decide (j.g.noteMost<highP j.notes c.notes j.g.rule)
def setC (j:Job) (s:Stt) (c:Colm):Setg:=q07f (sumT j.items s.at_ c.to) (roomC j s c) (lastC j.items c)
def q02r (j:Job) (s:Stt) (c:Colm):Fcts:=
 if q01g j s=true then
  ⟨highP j.notes c.notes j.g.rule,q05b j c,roomC j s c,lastC j.items c,
   if c.k=1 then fullC j c||decide ((setC j s c).how=3) else fullC j c||decide (roomC j s c<0),
   if c.k=1 then setC j s c else zeroG⟩
 else zeroF
theorem q0Xp (j:Job) (w:okW j) (hf: ∀x∈j.items,fairI x) (s:Stt) (c:Colm) (c1:c.notes.length<=1000000) (c2:c.top.length<=9223372036854775807) (c3:c.bot.length<=9223372036854775807) (H:Heap):
  clD EE (.p (.fn 100)) [vW j,vStt s,vColm c] H=some (vFcts (q02r j s c),none):=by
 rw [q002 _ _ _ _ _ _ (noP _) fn100]
 have r:=fun H=>q03r j w s H
 have pl:=fun H=>q07d j H
 have sh:=fun H=>q0mv j.notes c.notes j.g.rule w.lines c1 H
 have ah:=fun H=>q0oc j.g j.floats c.top c.bot c2 c3 H
 have as:=fun H=>q0mz j.g j.floats c.top c2 H
 have hi:=fun H=>q0v9 j w s H
 have la:=fun H=>q0z2 j c H
 have su:=fun H=>q0z0 j H
 have so:=fun H=>q0vd j.items w.n1 hf s.at_ c.to H
 have gs:=fun H=>q0vf (sumT j.items s.at_ c.to) (roomC j s c) (lastC j.items c) H
 unfold q02r
 cases b:q01g j s with
 |false=>
  rw [b] at r
  simp [zEc,r,zeroF,zeroG]
 |true=>
  rw [b] at r
  have e:setC j s c=q07f (sumT j.items s.at_ c.to) (roomC j s c) (lastC j.items c):=rfl
  rw [<-e] at gs
  have hr:roomC j s c=IntKind.i64.wrap (IntKind.i64.wrap (highS j s-highP j.notes c.notes j.g.rule)-q05b j c):=rfl
  generalize setC j s c=G at*
  have hfu:fullC j c=(decide (0<c.notes.length)&&decide (j.g.noteMost<highP j.notes c.notes j.g.rule)):=rfl
  have hfl:q05b j c=if c.k=1 then highA j.g j.floats c.top c.bot else if c.k=2 then q05p j.g j.floats c.top else 0:=rfl
  generalize lastC j.items c=L at*
  generalize highA j.g j.floats c.top c.bot=A1 at*
  generalize q05p j.g j.floats c.top=A2 at*
  generalize sumT j.items s.at_ c.to=T at*
  generalize roomC j s c=R at*
  generalize highP j.notes c.notes j.g.rule=hp at*
  generalize highS j s=hs at*
  generalize q05b j c=F at*
  generalize fullC j c=U at*
  simp only [vJob,vGeom,cGeom,Zd,Zf] at pl ah as
  have hn:(0:Int)<c.notes.length↔0<c.notes.length:=by omega
  by_cases k1:c.k=1
  ·rw [if_pos k1] at hfl
   subst hfl
   simp only [vColm,k1] at la
   by_cases n0:0<c.notes.length
   ·simp only [n0,decide_true,ZV] at hfu
    by_cases q:j.g.noteMost<hp<;>simp only [q,decide_true,decide_false] at hfu<;>subst hfu<;>
     simp [zEc,fldvV,r,pl,sh,ah,hi,la,su,so,gs,k1,hn,n0,<-hr,q]
   ·simp only [n0,decide_false,Bool.false_and] at hfu
    subst hfu
    simp [zEc,fldvV,r,pl,sh,ah,hi,la,su,so,gs,k1,hn,n0,<-hr]
  ·rw [if_neg k1] at hfl
   by_cases k2:c.k=2
   ·rw [if_pos k2] at hfl
    subst hfl
    simp only [vColm,k2] at la
    by_cases n0:0<c.notes.length
    ·simp only [n0,decide_true,ZV] at hfu
     by_cases q:j.g.noteMost<hp<;>simp only [q,decide_true,decide_false] at hfu<;>subst hfu<;>
      simp [zEc,fldvV,r,pl,sh,as,hi,la,k1,k2,hn,n0,<-hr,q,zeroG]
    ·simp only [n0,decide_false,Bool.false_and] at hfu
     subst hfu
     simp [zEc,fldvV,r,pl,sh,as,hi,la,k1,k2,hn,n0,<-hr,zeroG]
   ·rw [if_neg k2] at hfl
    subst hfl
    rw [Int.sub_zero] at hr
    by_cases n0:0<c.notes.length
    ·simp only [n0,decide_true,ZV] at hfu
     by_cases q:j.g.noteMost<hp<;>simp only [q,decide_true,decide_false] at hfu<;>subst hfu<;>
      simp [zEc,fldvV,r,pl,sh,hi,la,k1,k2,hn,n0,<-hr,q,zeroG]
    ·simp only [n0,decide_false,Bool.false_and] at hfu
     subst hfu
     simp [zEc,fldvV,r,pl,sh,hi,la,k1,k2,hn,n0,<-hr,zeroG]
theorem q0z3 (j:Job) (w:okW j) (hf: ∀x∈j.items,fairI x) (s:Stt) (c:Colm) (c1:c.notes.length<=1000000) (c2:c.top.length<=1000000) (c3:c.bot.length<=1000000) (H:Heap):
  clD EE (.p (.fn 100)) [vW j,vStt s,vColm c] H=some (vFcts (q02r j s c),none):=q0Xp j w hf s c c1 (by omega) (by omega) H
def forbX (x:Item):Bool:=decide (x.k=3)&&decide (10000<=x.n)
theorem q0Cn (x:Item) (H:Heap):clD EE (.p (.fn 293)) [vItem x] H=some (vB (forbX x),none):=by
 rw [q002 _ _ _ _ _ _ (noP _) fn293]
 unfold forbX
 by_cases h:x.k=3<;>simp [zEc,h]
def mayV (l:List Item) (n:Int):Bool:=
 if n<1\/(l.length:Int)<n then false else match q02g l n with
  |none=>true
  |some x=>if x.k=2 then !q0fl (rd l (n-1)) else if x.k=3 then !forbX x else false
theorem q0Co (l:List Item) (hl:l.length<=1000000) (n:Int) (H:Heap):clD EE (.p (.fn 219)) [q00d l,vI n] H=some (vB (mayV l n),none):=by
 rw [q002 _ _ _ _ _ _ (noP _) fn219]
 have l2:=fun H=>q021 l H
 have l3:=fun H=>q07s l n H
 have f:=fun x H=>q0Cn x H
 have lo:=fun x H=>q0yz x H
 unfold mayV
 by_cases c1:n<1
 ·cases h:q02g l n with
  |none=>rw [h] at l3;simp [zEc,l2,l3,c1]
  |some x=>rw [h] at l3;simp [zEc,l2,l3,c1]
 ·by_cases c2:(l.length:Int)<n
  ·cases h:q02g l n with
   |none=>rw [h] at l3;simp [zEc,l2,l3,c1,c2]
   |some x=>rw [h] at l3;simp [zEc,l2,l3,c1,c2]
  ·cases h:q02g l n with
   |none=>rw [h] at l3;simp [zEc,l2,l3,c1,c2]
   |some x=>
    rw [h] at l3
    have w:IntKind.i64.wrap (n-1)=n-1:=w64 (by omega) (by omega)
    have hx:=q026 l (n-1) (by omega) (by omega)
    have hix:=fun H k=>q024 H q004 (k:=k) (s:=7) (by omega) hx rfl
    simp only [q004] at hix
    by_cases k2:x.k=2
    ·simp only [q00d] at l2 l3⊢
     simp [zEc,l2,l3,c1,c2,k2,w,hix,lo]
    ·by_cases k3:x.k=3
     ·have f1:=fun H=>f x H
      simp only [vItem,k3] at f1
      simp [zEc,l2,l3,c1,c2,k3,f1]
     ·simp [zEc,l2,l3,c1,c2,k2,k3]
def fwdB:List Item->Nat->Int
 |[],_=> -1
 |x::r,i=>if x.k=1 then i else fwdB r (i+1)
def bwdB (l:List Item):Nat->Int
 |0=> -1
 |n+1=>if (rd l (n:Int)).k=1 then n else bwdB l n
theorem q12a (l:List Item) (hl:l.length<=1000000) (H:Heap) (B:Nat): ∀(n i:Nat),l.length-i=n->
  ∃env,evD EE q112 ⟨[(0,q00d l),(2,vI 1),(7,vI (-1)),(8,vI i)],[],H,B,[]⟩=some (.exit 0,⟨env,[],H,B,[]⟩)/\getE env 7=vI (fwdB (l.drop i) i)
 |0,i,hn=>by
  have l2:=fun H=>q021 l H
  have c: ¬i<l.length:=by omega
  refine ⟨[(0,q00d l),(2,vI 1),(7,vI (-1)),(8,vI i),(19,vB false)],?_,?_⟩
  ·unfold q112
   rw [q003]
   simp [l2,c]
  ·rw [List.drop_eq_nil_of_le (by omega)];simp [fwdB]
 |n+1,i,hn=>by
  have l2:=fun H=>q021 l H
  have c:i<l.length:=by omega
  have l3:=fun H=>q07s l i H
  have hx:l[i]? =some l[i]:=Zl c
  rw [q06n,hx] at l3
  rw [ZA c,fwdB]
  generalize l[i]=x at*
  have w:IntKind.i64.wrap ((i:Int)+1)=((i+1:Nat):Int):=w64 (by omega) (by omega)
  by_cases k:x.k=1
  ·refine ⟨[(7,vI i)],?_,by rw [if_pos k];simp⟩
   unfold q112
   rw [q003]
   simp [l2,l3,c,k,subs,q001]
  ·obtain ⟨env,h1,h2⟩:=q12a l hl H B n (i+1) (by omega)
   refine ⟨env,?_,by rw [if_neg k];exact h2⟩
   rw [<-h1]
   conv=>lhs;unfold q112
   rw [q003]
   simp [l2,l3,c,k,subs,q001,w]
   rfl
theorem q12b (l:List Item) (hl:l.length<=1000000) (H:Heap) (B:Nat): ∀(n:Nat),n<=l.length->
  ∃env,evD EE q112 ⟨[(0,q00d l),(2,vI (-1)),(7,vI (-1)),(8,vI ((n:Int)-1))],[],H,B,[]⟩=some (.exit 0,⟨env,[],H,B,[]⟩)/\getE env 7=vI (bwdB l n)
 |0,hn=>by
  refine ⟨[(0,q00d l),(2,vI (-1)),(7,vI (-1)),(8,vI (-1)),(19,vB false)],?_,by simp [bwdB]⟩
  unfold q112
  rw [q003]
  simp
 |n+1,hn=>by
  have l2:=fun H=>q021 l H
  have l3:=fun H=>q07s l n H
  have c:n<l.length:=by omega
  have hx:l[n]? =some l[n]:=Zl c
  have hr:rd l (n:Int)=l[n]:=by
   have:=q026 l (n:Int) (by omega) (by omega)
   simp at this
   rw [hx] at this;simpa using this.symm
  rw [q06n,hx] at l3
  rw [bwdB,hr]
  generalize l[n]=x at*
  have e:((n+1:Nat):Int)-1=n:=by omega
  rw [e]
  have w:IntKind.i64.wrap ((n:Int)+ -1)=(n:Int)-1:=w64 (by omega) (by omega)
  by_cases k:x.k=1
  ·refine ⟨[(7,vI n)],?_,by rw [if_pos k];simp⟩
   unfold q112
   rw [q003]
   simp [l2,l3,c,k,subs,q001]
  ·obtain ⟨env,h1,h2⟩:=q12b l hl H B n (by omega)
   refine ⟨env,?_,by rw [if_neg k];exact h2⟩
   rw [<-h1]
   conv=>lhs;unfold q112
   rw [q003]
   simp [l2,l3,c,k,subs,q001,w]
   rfl
def behL (l:List Item) (b:Int):Int:=fwdB (l.drop (max b 0).toNat) (max b 0).toNat
def ahL (l:List Item) (b:Int):Int:=if b<1 then-1 else bwdB l (min b l.length).toNat
theorem q134 (l:List Item) (hl:l.length<=1000000) (b:Int) (H:Heap):clD EE (.p (.fn 296)) [q00d l,vI b] H=some (vI (behL l b),none):=by
 rw [q002 _ _ _ _ _ _ (noP _) fn296]
 have s: ∀H,clD EE (.p (.fn 351)) [q00d l,vI (max b 0),vI 1] H=some (vI (behL l b),none):=by
  intro H
  rw [q002 _ _ _ _ _ _ (noP _) fn351]
  obtain ⟨env,h1,h2⟩:=q12a l hl H H.length _ (max b 0).toNat rfl
  have e:((max b 0).toNat:Int)=max b 0:=by omega
  rw [e] at h1
  simp [zEa,h1,h2,behL]
 simp [zEa,s]
theorem q13f (l:List Item) (hl:l.length<=1000000) (b:Int) (H:Heap):clD EE (.p (.fn 295)) [q00d l,vI b] H=some (vI (ahL l b),none):=by
 rw [q002 _ _ _ _ _ _ (noP _) fn295]
 have l2:=fun H=>q021 l H
 unfold ahL
 by_cases c:b<1
 ·simp [zEa,c]
 ·have w:IntKind.i64.wrap (min b l.length-1)=min b l.length-1:=w64 (by omega) (by omega)
  have s: ∀H,clD EE (.p (.fn 351)) [q00d l,vI (min b l.length-1),vI (-1)] H=some (vI (bwdB l (min b l.length).toNat),none):=by
   intro H
   rw [q002 _ _ _ _ _ _ (noP _) fn351]
   obtain ⟨env,h1,h2⟩:=q12b l hl H H.length (min b l.length).toNat (by omega)
   have e:((min b l.length).toNat:Int)=min b l.length:=by omega
   rw [e] at h1
   simp [zEa,h1,h2]
  simp [zEa,c,l2,w,s]
def isAt (l:List Item) (f:Int) (t:Int):Bool:=match q02g l t with|some x=>decide (x.f=f)|none=>false
theorem q12h (l:List Item) (f t:Int) (p q:Nat) (H:Heap) (h1:Eng.boxAt H p=some [q00d l]) (h2:Eng.boxAt H q=some [vI f]):clD EE (.fn (.func 350) [] [.ptr p 0,.ptr q 0]) [vI t] H=some (vB (isAt l f t),none):=by
 rw [q02m,q002 _ _ _ _ _ _ (noP _) fn350]
 have l3:=fun H=>q07s l t H
 have e1:subs [q00d l] 0 1=some [q00d l]:=rfl
 unfold isAt
 cases h:q02g l t with
 |none=>rw [h] at l3;simp [zEc,h1,h2,l3]
 |some x=>rw [h] at l3;simp [zEc,h1,h2,l3]
theorem q12q (l:List Item) (f:Int) (H:Heap):clD EE (.p (.fn 294)) [q00d l,vI f] H=some (.fn (.func 350) [] [.ptr H.length 0,.ptr (H.length+1) 0],some (H++[.box [q00d l],.box [vI f]],[])):=by
 rw [q002 _ _ _ _ _ _ (noP _) fn294]
 simp [zEc]
theorem q135 (l:List Item) (hl:l.length<=1000000) (b:Int) (H:Heap):clD EE (.p (.fn 221)) [q00d l,vI b] H=some (vB (isAt l 1 (ahL l b)),none):=by
 rw [q002 _ _ _ _ _ _ (noP _) fn221]
 have a:=fun H=>q13f l hl b H
 have i:=fun H=>q12q l 1 H
 have k:=fun t=>q12h l 1 t H.length (H.length+1) (H++[.box [q00d l],.box [vI 1]]) (by simp) (by simp)
 simp [zEa,a,i,k]
theorem q12u (l:List Item) (hl:l.length<=1000000) (b:Int) (H:Heap):clD EE (.p (.fn 222)) [q00d l,vI b] H=some (vB (isAt l 2 (behL l b)),none):=by
 rw [q002 _ _ _ _ _ _ (noP _) fn222]
 have a:=fun H=>q134 l hl b H
 have i:=fun H=>q12q l 2 H
 have k:=fun t=>q12h l 2 t H.length (H.length+1) (H++[.box [q00d l],.box [vI 2]]) (by simp) (by simp)
 simp [zEa,a,i,k]
def paraF (g:Geom) (l:List Item) (b:Int):Int:=
 match q02g l b with
 |none=>0
 |some x=>if mayV l b=false\/q05z x=true then 0 else
   let n:=if x.k=3 then max x.n 0 else 0
   let n:=if isAt l 1 (ahL l b)=true then IntKind.i64.wrap (n+max g.club 0) else n
   if isAt l 2 (behL l b)=true then IntKind.i64.wrap (n+max g.widow 0) else n
theorem q12v (g:Geom) (l:List Item) (hl:l.length<=1000000) (b:Int) (H:Heap):clD EE (.p (.fn 114)) [vGeom g,q00d l,vI b] H=some (vI (paraF g l b),none):=by
 rw [q002 _ _ _ _ _ _ (noP _) fn114]
 have l3:=fun H=>q07s l b H
 have m:=fun H=>q0Co l hl b H
 have f:=fun x H=>q0j4 x H
 have cl:=fun H=>q135 l hl b H
 have wi:=fun H=>q12u l hl b H
 unfold paraF
 generalize isAt l 1 (ahL l b)=C at*
 generalize isAt l 2 (behL l b)=Wd at*
 cases h:q02g l b with
 |none=>rw [h] at l3;simp [zEc,l3]
 |some x=>
  rw [h] at l3
  cases q:mayV l b with
  |false=>rw [q] at m;simp [zEc,l3,m]
  |true=>
   rw [q] at m
   cases u:q05z x with
   |true=>
    have f1:=fun H=>f x H
    rw [u] at f1
    simp [zEc,l3,m,f1,u]
   |false=>
    have f1:=fun H=>f x H
    rw [u] at f1
    by_cases k3:x.k=3
    ·simp only [vItem,k3] at f1
     cases C<;>cases Wd<;>simp [zEc,l3,m,f1,k3,cl,wi,u]
    ·cases C<;>cases Wd<;>simp [zEc,l3,m,f1,k3,cl,wi,u]
def tornF (l:List Note) (p:List Piece):Int:=
 let x:=rd p ((p.length:Int)-1)
 if x.n<0\/(l.length:Int)<=x.n then 0 else penF (rd l x.n).lines (rd l x.n).pens x.to
theorem q12w (j:Job) (p:List Piece) (hp:0<p.length) (hp2:p.length<=1000000) (hn: ∀n∈j.notes,n.lines.length<=1000000) (H:Heap):clD EE (.p (.fn 118)) [vJob j,q00v p] H=some (vI (tornF j.notes p),none):=by
 rw [q002 _ _ _ _ _ _ (noP _) fn118]
 have w:IntKind.i64.wrap ((p.length:Int)-1)=(p.length:Int)-1:=w64 (by omega) (by omega)
 have hx:=q026 p ((p.length:Int)-1) (by omega) (by omega)
 have hix:=fun H k=>q024 H q00g (k:=k) (s:=3) (by omega) hx rfl
 unfold tornF
 simp only [q00g] at hix
 generalize rd p ((p.length:Int)-1)=x at*
 simp only [vJob,cGeom,Zd,Zf]
 by_cases c1:x.n<0
 ·simp [zEc,w,hix,c1]
 ·by_cases c2:(j.notes.length:Int)<=x.n
  ·simp [zEc,w,hix,c1,c2]
  ·have hy:=q026 j.notes x.n (by omega) (by omega)
   have hiy:=fun H k=>q024 H q00e (k:=k) (s:=2) (by omega) hy rfl
   have pe:=fun H=>q13e (rd j.notes x.n).lines (rd j.notes x.n).pens x.to H (by have:=hn _ (Zp hy);omega)
   generalize rd j.notes x.n=y at*
   simp only [q00e] at hiy
   simp only [note,sli] at pe
   simp [zEc,w,hix,c1,c2,hiy,pe]
def heldN (n:Int):Int:=min (max n 0) 1125899906842624
def addM (a b:Int):Int:=heldN (heldN a+heldN b)
theorem q0Tq (n:Int):0<=heldN n/\heldN n<=1125899906842624:=by unfold heldN;omega
theorem q0Uz (n:Int) (H:Heap):clD EE (.p (.fn 352)) [vI n] H=some (vI (heldN n),none):=by
 rw [q002 _ _ _ _ _ _ (noP _) fn352]
 unfold heldN
 simp [zEa]
theorem q0V0 (n:Int) (H:Heap):clD EE (.p (.fn 353)) [vI n] H=some (vI (heldN n),none):=by
 rw [q002 _ _ _ _ _ _ (noP _) fn353]
 unfold heldN
 simp [zEa]
theorem q0V1 (a b:Int) (H:Heap):clD EE (.p (.fn 299)) [vI a,vI b] H=some (vI (addM a b),none):=by
 rw [q002 _ _ _ _ _ _ (noP _) fn299]
 have h:=fun n H=>q0Uz n H
 have b1:=q0Tq a
 have b2:=q0Tq b
 have w:IntKind.i64.wrap (heldN a+heldN b)=heldN a+heldN b:=w64 (by omega) (by omega)
 unfold addM
 simp [zEa,h,w]
theorem q0V2 (a b:Int) (H:Heap):clD EE (.p (.fn 300)) [vI a,vI b] H=some (vI (addM a b),none):=by
 rw [q002 _ _ _ _ _ _ (noP _) fn300]
 have h:=fun n H=>q0V0 n H
 have b1:=q0Tq a
 have b2:=q0Tq b
 have w:IntKind.i64.wrap (heldN a+heldN b)=heldN a+heldN b:=w64 (by omega) (by omega)
 unfold addM
 simp [zEa,h,w]
abbrev vCost (o s:Int):V:= .agg [vI o,vI s]
theorem q0Uk (a b c d:Int) (H:Heap):clD EE (.p (.fn 228)) [vCost a b,vCost c d] H=some (vCost (addM a c) (addM b d),none):=by
 rw [q002 _ _ _ _ _ _ (noP _) fn228]
 have h1:=fun H=>q0V1 a c H
 have h2:=fun H=>q0V2 b d H
 simp [zEc,h1,h2]
theorem q0Uf (p:Nat) (o s a b:Int) (H:Heap) (h:Eng.boxAt H p=some [vI o,vI s]):clD EE (.p (.fn 110)) [.ptr p 0,vCost a b] H=some (.tup [],some (H.set p (.box [vI (addM o a),vI (addM s b)]),[p])):=by
 rw [q002 _ _ _ _ _ _ (noP _) fn110]
 have hlt:=q02y h
 have k:=fun H=>q0Uk o s a b H
 simp [zEc,h,k,hlt]
theorem q0U0 (p:Nat) (o s:Int) (H:Heap) (h:Eng.boxAt H p=some [vI o,vI s]):clD EE (.p (.fn 63)) [.ptr p 0] H=some (vCost o s,none):=by
 rw [q002 _ _ _ _ _ _ (noP _) fn63]
 simp [zEc,h]
def coS (st:Int×Int) (_:Nat) (n:Int):Int×Int:=(addM st.1 0,addM st.2 n)
def q0Tp (over:Bool) (l:List Int):Int×Int:=fold coS (if over=true then (1,0) else (0,0)) 0 l
def coFn (H:Heap):V:= .fn (.func 110) [.ptr H.length 0] []
@[simp] theorem q0Je (H:Heap) (k:Nat):q00s (coFn H) k=true:=rfl
theorem q0Tw (K:Heap) (v:V) (H:Heap):clD EE (coFn K) [v] H=clD EE (.p (.fn 110)) [.ptr K.length 0,v] H:=by unfold coFn;rw [q02m];rfl
def coE (H:Heap) (v:V) (n:Nat) (st:Int×Int) (i:Nat):St:=⟨[(4,.lptr 4 0),(5,.ptr H.length 0),(6,coFn H),(14,v),(15,vI n),(16,vI i)],[(4,[vI 0,vI 0])],H++[.box [vI st.1,vI st.2]],H.length,[]⟩
def coX (H:Heap) (v:V) (n:Nat) (st:Int×Int):Ex×St:=(.exit 0,⟨[(4,.lptr 4 0),(5,.ptr H.length 0),(6,coFn H),(14,v),(15,vI n),(16,vI n),(17,vB false)],[(4,[vI 0,vI 0])],H++[.box [vI st.1,vI st.2]],H.length,[]⟩)
theorem co_lp (H:Heap) (l:List Int) (hl:l.length<=1000000) (id:Nat) (hr:Go.Eng.rowAt H id=some (1,upV (l.map encI))) (st0:Int×Int):
  evD EE q110 (coE H (.row id l.length 0 l.length) l.length st0 0)=some (coX H (.row id l.length 0 l.length) l.length (fold coS st0 0 l)):=by
 unfold q110
 refine q00u l (fun st i=>coE H (.row id l.length 0 l.length) l.length st i) (fun _ _=>True) coS (fun st=>coX H (.row id l.length 0 l.length) l.length st) (fun _ _=>rfl) ?_ ?_ st0 0 trivial (Zj _)
 ·rintro st i x-hx
  refine ⟨?_,trivial⟩
  have hlt:=(Za.1 hx).1
  have w:IntKind.i64.wrap ((i:Int)+1)=((i+1:Nat):Int):=w64 (by omega) (by omega)
  have hid:id<H.length:=by
   unfold Go.Eng.rowAt at hr
   rcases Z2 id H.length with g|g
   ·exact g
   ·rw [ZF g] at hr;cases hr
  have hr2: ∀T,Go.Eng.rowAt (H++T) id=some (1,upV (l.map encI)):=fun T=>by
   unfold Go.Eng.rowAt;rw [Zw hid];exact hr
  have hix: ∀T,ixsI (H++T) (.row id l.length 0 l.length) (vI i) 1=some (.rptr id l.length i 0):=fun T=>by
   rw [q01f,hr2,q0Qw];simp [upV,hlt]
  have hux:(upV (l.map encI))[i]? =some [vI x]:=by simp [upV,encI,hx]
  have hgx: ∀h:i<(upV (l.map encI)).length,(upV (l.map encI))[i]'h=[vI x]:=fun h=>(Za.1 hux).2
  have p:=q0Uf H.length st.1 st.2 0 x (H++[.box [vI st.1,vI st.2]]) (by simp)
  rw [<-q0Tw] at p
  have ad:addD H.length H.length []=[]:=by unfold addD;rw [if_neg (by omega)]
  simp [coE,coS,hlt,hix,hr2,hgx,subs,q001,w,p,ad]
 ·rintro st-
  refine ⟨?_,by simp [coX]⟩
  simp [coE,coX]
theorem q12r (H:Heap) (over:Bool) (l:List Int) (hl:l.length<=1000000) (id:Nat) (hr:Go.Eng.rowAt H id=some (1,upV (l.map encI))):
  clD EE (.p (.fn 120)) [vB over,.row id l.length 0 l.length] H=some (vCost (q0Tp over l).1 (q0Tp over l).2,none):=by
 rw [q002 _ _ _ _ _ _ (noP _) fn120]
 have ad:addD H.length H.length []=[]:=by unfold addD;rw [if_neg (by omega)]
 have sc:=fun a b=>q0U0 H.length a b (H++[.box [vI a,vI b]]) (by simp)
 have a1:addM 0 1=1:=by decide
 have a0:addM 0 0=0:=by decide
 have k:=fun st=>co_lp H l hl id hr st
 unfold q0Tp
 cases over with
 |true=>
  have p:=q0Uf H.length 0 0 1 0 (H++[.box [vI 0,vI 0]]) (by simp)
  rw [<-q0Tw] at p
  have k1:=k (1,0)
  simp only [if_true]
  generalize fold coS (1,0) 0 l=q at*
  simp [coE,coX,coFn] at k1 p
  simp [zEc,p,a1,a0,ad,k1,sc]
 |false=>
  have k1:=k (0,0)
  simp only [Zh,if_false]
  generalize fold coS (0,0) 0 l=q at*
  simp [coE,coX,coFn] at k1
  simp [zEc,ad,k1,sc]
theorem q0Ui (over:Bool) (l:List Int):(q0Tp over l).1=if over=true then 1 else 0:=by
 have: ∀(l:List Int) (i:Nat) (a b:Int),(a=0\/a=1)->(fold coS (a,b) i l).1=a:=by
  intro l
  induction l with
  |nil=>intro i a b _;rfl
  |cons x r ih=>
   intro i a b h
   simp only [fold,coS]
   have:addM a 0=a:=by rcases h with rfl|rfl<;>decide
   rw [this];exact ih (i+1) a _ h
 unfold q0Tp
 cases over with
 |true=>simp only [if_true];exact this l 0 1 0 (.inr rfl)
 |false=>simp only [Zh,if_false];exact this l 0 0 0 (.inl rfl)
theorem q0j6 (x:Item) (H:Heap):clD EE (.p (.fn 17)) [vItem x] H=some (vB (q04c x),none):=by
 rw [q002 _ _ _ _ _ _ (noP _) fn17]
 unfold q04c
 by_cases h:x.k=2<;>simp [zEc,h]
theorem q0z4 (l:List Item) (hl:l.length<=1000000) (H:Heap) (B:Nat): ∀(k a:Nat),a<=l.length->l.length-a=k->
  evD EE q0ey ⟨[(0,q006 l),(5,vI a)],[],H,B,[]⟩=some (.exit 0,⟨[(0,q006 l),(5,vI (trimN l a)),(21,vB false)],[],H,B,[]⟩):=by
 intro k
 induction k with
 |zero=>
  intro a h1 h2
  have e:a=l.length:=by omega
  subst e
  have ht:trimN l l.length=l.length:=q09t (by unfold stayB;rw [ZF (Zm _)])
  unfold q0ey
  rw [q003]
  simp [ht]
 |succ k ih=>
  intro a h1 h2
  have hlt:a<l.length:=by omega
  have hx:l[a]? =some l[a]:=Zl hlt
  have hix:=fun H k=>q00c H q004 (k:=k) (s:=7) hx rfl
  have w:IntKind.i64.wrap ((a:Int)+1)=((a+1:Nat):Int):=w64 (by omega) (by omega)
  have lo:=fun H=>q0j6 l[a] H
  generalize l[a]=x at*
  by_cases hb:q04c x=true
  ·have ht:=q0da hx hb
   have key:=ih (a+1) (by omega) (by omega)
   rw [ht,<-key]
   conv=>lhs;unfold q0ey
   rw [q003]
   simp [hlt,hix,q004,subs,lo,hb,w]
   rfl
  ·have ht:trimN l a=a:=q09t (by unfold stayB;rw [hx];simpa using hb)
   have hb':q04c x=false:=by simpa using hb
   rw [ht]
   unfold q0ey
   rw [q003]
   simp [hlt,hix,q004,subs,lo,hb']
theorem q0z5 (l:List Item) (n:Int) (hl:l.length<=1000000) (H:Heap):clD EE (.p (.fn 78)) [q006 l,vI n] H=some (vI (trimF l n),none):=by
 rw [q002 _ _ _ _ _ _ (noP _) fn78]
 have hk:max 0 (min n (l.length:Int))=(putN l n:Int):=by unfold putN;omega
 have k:=q0z4 l hl H H.length _ (putN l n) (q08v l n) rfl
 unfold trimF
 simp [zEa,hk,k]
def numsL (k a b:Int):Nat->List Item->List Int
 |_,[]=>[]
 |i,x::r=>(if a<=i/\(i:Int)<b/\x.k=k then [x.n] else [])++numsL k a b (i+1) r
theorem q0j7 (k:Int) (b:Int): ∀(l:List Item) (i:Nat),(numsL k 0 b i l).length=cnt k (l.take (b.toNat-i))
 |[],i=>by simp [numsL,cnt]
 |x::r,i=>by
  have ih:=q0j7 k b r (i+1)
  simp only [numsL,Zt,ih]
  by_cases h:(i:Int)<b
  ·have e:b.toNat-i=(b.toNat-(i+1))+1:=by omega
   rw [e,ZZ,q0dz]
   by_cases hk:x.k=k
   ·rw [if_pos ⟨by omega,h,hk⟩,if_pos hk];simp
   ·rw [if_neg (fun hh=>hk hh.2.2),if_neg hk];simp
  ·have e:b.toNat-i=0:=by omega
   have e2:b.toNat-(i+1)=0:=by omega
   rw [if_neg (fun hh=>h hh.2.1),e,e2];simp [cnt]
theorem q0fm (k a b:Int): ∀(l:List Item) (i:Nat) (x:Item),numsL k a b i (l++[x])=numsL k a b i l++(if a<=((i+l.length:Nat):Int)/\((i+l.length:Nat):Int)<b/\x.k=k then [x.n] else [])
 |[],i,x=>by simp [numsL]
 |y::r,i,x=>by
  simp only [Zd,numsL,q0fm k a b r (i+1) x,Zx,Zg]
  rw [show i+1+r.length=i+(r.length+1) by omega]
def nuE (l:List Item) (k a b:Int) (H:Heap) (M:List Int) (i:Nat):St:=⟨[(0,q006 l),(1,vI k),(2,vI a),(3,vI b),(9,.row H.length M.length 0 M.length),(10,vI i)],[],H++[DObj.row 1 (upV (M.map encI))],H.length,[]⟩
def nuX (l:List Item) (k a b:Int) (H:Heap) (M:List Int):Ex×St:=(.exit 0,⟨[(0,q006 l),(1,vI k),(2,vI a),(3,vI b),(9,.row H.length M.length 0 M.length),(10,vI l.length),(14,vB false)],[],H++[DObj.row 1 (upV (M.map encI))],H.length,[]⟩)
theorem q0Cp (l:List Item) (k a b:Int) (hl:l.length<=1000000) (H:Heap):evD EE q0X2 (nuE l k a b H [] 0)=some (nuX l k a b H (numsL k a b 0 l)):=by
 unfold q0X2
 refine Eq.trans (q00u l (fun (_:Unit) i=>nuE l k a b H (numsL k a b 0 (l.take i)) i) (fun _ _=>True) (fun _ _ _=>()) (fun _=>nuX l k a b H (numsL k a b 0 l)) (fun _ _=>rfl) ?_ ?_ () 0 trivial (Zj _)) rfl
 ·rintro _ i x-hx
  refine ⟨?_,trivial⟩
  have hlt:=(Za.1 hx).1
  have w:IntKind.i64.wrap ((i:Int)+1)=((i+1:Nat):Int):=w64 (by omega) (by omega)
  have hix:=fun H k=>q00c H q004 (k:=k) (s:=7) hx rfl
  have e:=q0fm k a b (l.take i) 0 x
  have hlen:(l.take i).length=i:=by rw [ZC];omega
  rw [hlen,Zs] at e
  have hM:(numsL k a b 0 (l.take i)).length<=1000000:=by
   have: ∀(l:List Item) (i:Nat),(numsL k a b i l).length<=l.length:=by
    intro l
    induction l with
    |nil=>intro i;simp [numsL]
    |cons y r ih=>intro i;simp only [numsL,Zt,Zg];have:=ih (i+1);split<;>simp<;>omega
   have:=this (l.take i) 0
   omega
  rw [q03n hx]
  simp only [e]
  generalize numsL k a b 0 (l.take i)=M at*
  have hm:M.length+1<most:=by unfold most;omega
  have e3:upV (M.map encI)++[[V.p (.int .i64 x.n)]]=upV ((M++[x.n]).map encI):=by simp [upV,encI]
  by_cases c1:a<=(i:Int)
  ·by_cases c2:(i:Int)<b
   ·by_cases c3:x.k=k
    ·simp [nuE,hlt,hix,q004,subs,q001,w,c1,c2,c3,hm,e3,encI,upV,okEl]
    ·simp [nuE,hlt,hix,q004,subs,q001,w,c1,c2,c3]
   ·simp [nuE,hlt,hix,q004,subs,q001,w,c1,c2]
  ·simp [nuE,hlt,hix,q004,subs,q001,w,c1]
 ·rintro _-
  simp [nuE,nuX]
theorem q0Cq (l:List Item) (k a b:Int) (hl:l.length<=1000000) (H:Heap):clD EE (.p (.fn 247)) [q006 l,vI k,vI a,vI b] H=some (sli (numsL k a b 0 l),none):=by
 rw [q002 _ _ _ _ _ _ (noP _) fn247]
 have key:=q0Cp l k a b hl H
 generalize numsL k a b 0 l=M at*
 simp [nuE,nuX] at key
 simp [zEa,key]
theorem q0br (j:Job) (n:Int) (hl:j.items.length<=1000000) (H:Heap):clD EE (.p (.fn 147)) [vJob j,vI n] H=some (vI (q00z j n),none):=by
 rw [q002 _ _ _ _ _ _ (noP _) fn147]
 have h:=fun H=>q0Cq j.items 5 0 n hl H
 have e:((numsL 5 0 n 0 j.items).length:Int)=q00z j n:=by
  rw [q0j7]
  unfold q00z q01a putN
  have e2:j.items.take (n.toNat-0)=j.items.take (min (max n 0) j.items.length).toNat:=by
   rcases Nat.le_total n.toNat j.items.length with h|h
   ·congr 1;omega
   ·rw [Zy (by omega),Zy (by omega)]
  rw [e2]
 simp only [vJob,cGeom,Zd,Zf]
 simp [zEc,h,e]
def rwS (fs:List Float) (n:Int) (c:C3) (i:Nat) (x:Item):C3:=if (i:Int)<n then addAt fs c x else c
def rwE (l:List Item) (fs:List Float) (n:Int) (H:Heap) (c:C3) (i:Nat):St:=⟨[(0,q006 l),(1,q005 fs),(2,vI n),(6,.lptr 6 0),(7,.lptr 7 0),(8,vI i)],[(6,[vI 0,vI 0,vI 0]),(7,[vI c.a,vI c.b,vI c.c])],H,H.length,[]⟩
def rwX (l:List Item) (fs:List Float) (n:Int) (H:Heap) (c:C3):Ex×St:=(.exit 0,⟨[(0,q006 l),(1,q005 fs),(2,vI n),(6,.lptr 6 0),(7,.lptr 7 0),(8,vI l.length),(13,vB false)],[(6,[vI 0,vI 0,vI 0]),(7,[vI c.a,vI c.b,vI c.c])],H,H.length,[]⟩)
theorem q0ps (fs:List Float) (n:Int): ∀(l:List Item) (c:C3) (i:Nat),fold (rwS fs n) c i l=(l.take (n.toNat-i)).foldl (addAt fs) c
 |[],c,i=>by simp [fold]
 |x::r,c,i=>by
  simp only [fold,q0ps fs n r]
  unfold rwS
  by_cases h:(i:Int)<n
  ·rw [if_pos h,show n.toNat-i=(n.toNat-(i+1))+1 by omega,ZZ,ZT]
  ·rw [if_neg h,show n.toNat-i=0 by omega,show n.toNat-(i+1)=0 by omega];simp
theorem q0vg (l:List Item) (fs:List Float) (n:Int) (hl:l.length<=1000000) (H:Heap):evD EE q0Wt (rwE l fs n H ⟨0,0,0⟩ 0)=some (rwX l fs n H (fold (rwS fs n) ⟨0,0,0⟩ 0 l)):=by
 unfold q0Wt
 refine Eq.trans (q00u l (rwE l fs n H) (fun c i=>0<=c.a/\0<=c.b/\0<=c.c/\c.a<=i/\c.b<=i/\c.c<=i) (rwS fs n) (rwX l fs n H) (fun _ _=>rfl) ?_ ?_ ⟨0,0,0⟩ 0 (by simp) (Zj _)) (by rw [ZG])
 ·intro c i x hc hx
  have hlt:=(Za.1 hx).1
  refine ⟨?_,?_⟩
  ·have w:IntKind.i64.wrap ((i:Int)+1)=((i+1:Nat):Int):=w64 (by omega) (by omega)
   have wa:IntKind.i64.wrap (c.a+1)=c.a+1:=w64 (by omega) (by omega)
   have wb:IntKind.i64.wrap (c.b+1)=c.b+1:=w64 (by omega) (by omega)
   have wc:IntKind.i64.wrap (c.c+1)=c.c+1:=w64 (by omega) (by omega)
   have hix:=fun H k=>q00c H q004 (k:=k) (s:=7) hx rfl
   unfold rwS addAt ofS atF bump
   by_cases c1:(i:Int)<n
   ·by_cases c2:x.k=6
    ·by_cases c3:0<=x.n
     ·by_cases c4:x.n<(fs.length:Int)
      ·have hf:=q026 fs x.n (by omega) (by omega)
       have hif:=fun H k=>q024 H q009 (k:=k) (s:=3) (by omega) hf rfl
       generalize rd fs x.n=f at*
       by_cases d0:f.c=0
       ·simp [rwE,hlt,hix,q004,subs,q001,w,c1,c2,c3,c4,hif,q009,d0,ixaV,q007,wa]
       ·by_cases d1:f.c=1
        ·simp [rwE,hlt,hix,q004,subs,q001,w,c1,c2,c3,c4,hif,q009,d1,ixaV,q007,wb]
        ·by_cases d2:f.c=2
         ·simp [rwE,hlt,hix,q004,subs,q001,w,c1,c2,c3,c4,hif,q009,d2,ixaV,q007,wc]
         ·by_cases d3:f.c<0
          ·simp [rwE,hlt,hix,q004,subs,q001,w,c1,c2,c3,c4,hif,q009,d0,d1,d2,show¬0<=f.c by omega]
          ·simp [rwE,hlt,hix,q004,subs,q001,w,c1,c2,c3,c4,hif,q009,d0,d1,d2,show 0<=f.c by omega,show¬f.c<3 by omega]
      ·simp [rwE,hlt,hix,q004,subs,q001,w,c1,c2,c3,c4]
     ·simp [rwE,hlt,hix,q004,subs,q001,w,c1,c2,c3]
    ·simp [rwE,hlt,hix,q004,subs,q001,w,c1,c2]
   ·simp [rwE,hlt,hix,q004,subs,q001,w,c1]
  ·unfold rwS
   split
   ·have:=q0e2 fs c x i (by omega)
    simpa using this
   ·simp only [Int.natCast_add,Int.natCast_one];omega
 ·intro c _
  simp [rwE,rwX]
theorem q07u (l:List Item) (fs:List Float) (n:Int) (hl:l.length<=1000000) (H:Heap):clD EE (.p (.fn 149)) [q006 l,q005 fs,vI n] H=some (vC (q00n fs (l.take (putN l n))),none):=by
 rw [q002 _ _ _ _ _ _ (noP _) fn149]
 have key:=q0vg l fs n hl H
 have e:fold (rwS fs n) ⟨0,0,0⟩ 0 l=q00n fs (l.take (putN l n)):=by
  rw [q0ps]
  unfold q00n putN
  congr 1
  rcases Nat.le_total n.toNat l.length with h|h
  ·congr 1;omega
  ·rw [Zy (by omega),Zy (by omega)]
 rw [e] at key
 simp [rwE,rwX] at key
 simp [zEc,key]
def rzqE (fs:List Float) (xs:List Int) (H:Heap) (c:C3) (i:Nat):St:=⟨[(0,q005 fs),(1,sli xs),(4,.lptr 4 0),(5,.lptr 5 0),(6,vI i)],[(4,[vI 0,vI 0,vI 0]),(5,[vI c.a,vI c.b,vI c.c])],H,H.length,[]⟩
def rzqX (fs:List Float) (xs:List Int) (H:Heap) (c:C3):Ex×St:=(.exit 0,⟨[(0,q005 fs),(1,sli xs),(4,.lptr 4 0),(5,.lptr 5 0),(6,vI xs.length),(11,vB false)],[(4,[vI 0,vI 0,vI 0]),(5,[vI c.a,vI c.b,vI c.c])],H,H.length,[]⟩)
theorem q0Et (fs:List Float) (xs:List Int) (hl:xs.length<=1000000) (H:Heap):evD EE q0l8 (rzqE fs xs H ⟨0,0,0⟩ 0)=some (rzqX fs xs H (ofL fs xs)):=by
 have hf: ∀(xs:List Int) (s:C3) (i:Nat),fold (fun s _ x=>ofS fs s x) s i xs=xs.foldl (ofS fs) s:=by
  intro xs
  induction xs with
  |nil=>intro s i;rfl
  |cons x r ih=>intro s i;simp only [fold,ZT,ih]
 unfold ofL
 rw [<-hf xs ⟨0,0,0⟩ 0]
 unfold q0l8
 refine Eq.trans (q00u xs (rzqE fs xs H) (fun c i=>0<=c.a/\0<=c.b/\0<=c.c/\c.a<=i/\c.b<=i/\c.c<=i) (fun s _ x=>ofS fs s x) (rzqX fs xs H) (fun _ _=>rfl) ?_ ?_ ⟨0,0,0⟩ 0 (by simp) (Zj _)) (by rw [ZG])
 ·intro c i x hc hx
  have hlt:=(Za.1 hx).1
  refine ⟨?_,?_⟩
  ·have w:IntKind.i64.wrap ((i:Int)+1)=((i+1:Nat):Int):=w64 (by omega) (by omega)
   have wa:IntKind.i64.wrap (c.a+1)=c.a+1:=w64 (by omega) (by omega)
   have wb:IntKind.i64.wrap (c.b+1)=c.b+1:=w64 (by omega) (by omega)
   have wc:IntKind.i64.wrap (c.c+1)=c.c+1:=w64 (by omega) (by omega)
   have hix:=fun H k=>q00c H encI (k:=k) (s:=1) hx rfl
   unfold ofS atF bump
   by_cases c3:0<=x
   ·by_cases c4:x<(fs.length:Int)
    ·have hf:=q026 fs x (by omega) (by omega)
     have hif:=fun H k=>q024 H q009 (k:=k) (s:=3) (by omega) hf rfl
     generalize rd fs x=f at*
     by_cases d0:f.c=0
     ·simp [rzqE,hlt,hix,encI,subs,q001,w,c3,c4,hif,q009,d0,ixaV,q007,wa]
     ·by_cases d1:f.c=1
      ·simp [rzqE,hlt,hix,encI,subs,q001,w,c3,c4,hif,q009,d1,ixaV,q007,wb]
      ·by_cases d2:f.c=2
       ·simp [rzqE,hlt,hix,encI,subs,q001,w,c3,c4,hif,q009,d2,ixaV,q007,wc]
       ·by_cases d3:f.c<0
        ·simp [rzqE,hlt,hix,encI,subs,q001,w,c3,c4,hif,q009,d0,d1,d2,show¬0<=f.c by omega]
        ·simp [rzqE,hlt,hix,encI,subs,q001,w,c3,c4,hif,q009,d0,d1,d2,show 0<=f.c by omega,show¬f.c<3 by omega]
    ·simp [rzqE,hlt,hix,encI,subs,q001,w,c3,c4]
   ·simp [rzqE,hlt,hix,encI,subs,q001,w,c3]
  ·have:=q0e2 fs c ⟨6,0,0,0,0,0,x⟩ i (by omega)
   simpa [addAt] using this
 ·intro c _
  simp [rzqE,rzqX]
theorem q0n0 (fs:List Float) (xs:List Int) (hl:xs.length<=1000000) (H:Heap):clD EE (.p (.fn 80)) [q005 fs,sli xs] H=some (vC (ofL fs xs),none):=by
 rw [q002 _ _ _ _ _ _ (noP _) fn80]
 have key:=q0Et fs xs hl H
 simp [rzqE,rzqX] at key
 simp [zEc,key]
theorem q0n1 (j:Job) (s:Stt) (hr:q00z j s.at_<=j.notes.length):
  ((decide (s.note=q00z j s.at_)&&decide (s.line=0))||(decide (s.note=q00z j s.at_-1)&&decide (0<=s.note)&&decide (1<=s.line)&&(decide (s.line<(rd j.notes s.note).lines.length)&&mayF (rd j.notes s.note).lines (rd j.notes s.note).pens s.line)))=q03q j s:=by
 unfold q03q
 by_cases h0:s.line=0
 ·simp [h0]
 ·rw [if_neg h0]
  by_cases h1:s.note≠q00z j s.at_-1\/s.note<0\/s.line<1
  ·rw [if_pos h1]
   rcases h1 with h1|h1|h1
   ·simp [h0,h1]
   ·simp [h0,show¬0<=s.note by omega]
   ·simp [h0,show¬1<=s.line by omega]
  ·rw [if_neg h1]
   have q1:s.note=q00z j s.at_-1:=by omega
   have q2:0<=s.note:=by omega
   have q3:1<=s.line:=by omega
   simp [h0,q1,show 0<=q00z j s.at_-1 by omega,show 1<=q00z j s.at_ by omega,q3]
section
variable (j:Job) (w:okW j)
include w in
theorem q025 (s:Stt) (H:Heap):clD EE (.p (.fn 68)) [vJob j,vStt s] H=some (vB (q01g j s),none):=by
 rw [q002 _ _ _ _ _ _ (noP _) fn68]
 have ht:=fun H=>q0z5 j.items s.at_ w.n1 H
 have hb:=fun H=>q0br j s.at_ w.n1 H
 have ha:=fun H=>q07u j.items j.floats s.at_ w.n1 H
 change∀H,clD EE _ _ H=some (vC (q01i j s.at_),none) at ha
 have i1:=fun H=>q0f7 zeroC s.h H
 have i2:=fun H=>q0f7 s.h (q01i j s.at_) H
 have hle:=q03o w s.at_
 have hge:=q0bq j s.at_
 have hoc:=q0n1 j s hle
 have w1:IntKind.i64.wrap (q00z j s.at_-1)=q00z j s.at_-1:=w64 (by have:=w.n2;omega) (by have:=w.n2;omega)
 unfold q01g
 simp only [vJob,cGeom,Zd,Zf,zeroC] at hb i1⊢
 by_cases h1:s.at_<0
 ·simp [zEc,h1]
 ·by_cases h2:(j.items.length:Int)<s.at_
  ·simp [zEc,h1,h2]
  ·by_cases h3:(trimF j.items s.at_:Int)=s.at_
   ·by_cases h4:s.col<0
    ·simp [zEc,h1,h2,ht,h3,h4]
    ·by_cases h5:j.g.cols<s.col
     ·simp [zEc,h1,h2,ht,h3,h4,h5]
     ·simp only [h1,h2,h3,h4,h5,not_true_eq_false,or_false,if_false,ne_eq]
      rw [<-hoc]
      generalize q00z j s.at_=b at*
      by_cases n0:s.note=b-1/\0<=s.note/\1<=s.line
      ·obtain ⟨n1,n2,n3⟩:=n0
       have hx:=q026 j.notes s.note (by omega) (by omega)
       have hix:=fun H k=>q024 H q00e (k:=k) (s:=2) (by omega) hx rfl
       have hl:=w.lines _ (Zp hx)
       have hm:=fun H=>q0pk (rd j.notes s.note).lines (rd j.notes s.note).pens s.line H (by omega)
       simp only [q00e] at hix
       simp only [note,sli] at hm
       have n4: ¬s.note=b:=by omega
       have n5:decide (s.note=b-1)=true:=by simpa using n1
       generalize rd j.notes s.note=nt at*
       by_cases h6:s.line<(nt.lines.length:Int)
       ·cases c1:mayF nt.lines nt.pens s.line with
        |false=>simp [zEc,h1,h2,ht,h3,h4,h5,hb,w1,n4,n5,n2,n3,hix,h6,hm,c1,ha]
        |true=>
         cases c2:inC ⟨0,0,0⟩ s.h with
         |false=>simp [zEc,h1,h2,ht,h3,h4,h5,hb,w1,n4,n5,n2,n3,hix,h6,hm,c1,ha,i1,c2]
         |true=>simp [zEc,h1,h2,ht,h3,h4,h5,hb,w1,n4,n5,n2,n3,hix,h6,hm,c1,ha,i1,c2,i2]
       ·simp [zEc,h1,h2,ht,h3,h4,h5,hb,w1,n4,n5,n2,n3,hix,h6,ha]
      ·by_cases a1:s.note=b-1
       ·have a4:decide (s.note=b-1)=true:=by simpa using a1
        have a5: ¬s.note=b:=by omega
        by_cases a2:0<=s.note
        ·have a3: ¬1<=s.line:=by omega
         simp [zEc,h1,h2,ht,h3,h4,h5,hb,w1,a4,a5,a2,a3,ha]
        ·simp [zEc,h1,h2,ht,h3,h4,h5,hb,w1,a4,a5,a2,ha]
       ·by_cases m1:s.note=b
        ·have m3:decide (s.note=b)=true:=by simpa using m1
         by_cases m2:s.line=0
         ·have m4:decide (s.line=0)=true:=by simpa using m2
          cases c2:inC ⟨0,0,0⟩ s.h with
          |false=>simp [zEc,h1,h2,ht,h3,h4,h5,hb,w1,a1,m3,m4,ha,i1,c2]
          |true=>simp [zEc,h1,h2,ht,h3,h4,h5,hb,w1,a1,m3,m4,ha,i1,c2,i2]
         ·simp [zEc,h1,h2,ht,h3,h4,h5,hb,w1,a1,m3,m2,ha]
        ·simp [zEc,h1,h2,ht,h3,h4,h5,hb,w1,a1,m1,ha]
   ·simp [zEc,h1,h2,ht,h3]
end
def mustV (l:List Item) (n:Int):Bool:=match q02g l n with|some x=>decide (1<=n)&&q05z x|none=>false
theorem q0n2 (l:List Item) (n:Int) (H:Heap):clD EE (.p (.fn 107)) [q006 l,vI n] H=some (vB (mustV l n),none):=by
 rw [q002 _ _ _ _ _ _ (noP _) fn107]
 unfold mustV q02g q05z
 by_cases c1:1<=n
 ·by_cases c2:n<l.length
  ·have hx:=q026 l n (by omega) (by omega)
   have hix:=fun H k=>q024 H q004 (k:=k) (s:=7) (by omega) hx rfl
   simp only [q004] at hix
   rw [if_pos ⟨by omega,c2⟩]
   generalize rd l n=x at*
   by_cases k:x.k=3<;>simp [zEb,c1,c2,hix,k]
  ·rw [if_neg (fun h=>c2 h.2)]
   simp [zEa,c1,c2]
 ·have:(match (if 0<=n/\n<l.length then some (rd l n) else none) with|some x=>decide (1<=n)&&(decide (x.k=3)&&decide (x.n<= -10000))|none=>false)=false:=by
   split<;>simp [c1]
  rw [this]
  simp [zEa,c1]
theorem q0j8 (l:List Item) (hl:l.length<=1000000) (n:Int) (H:Heap):clD EE (.p (.fn 106)) [q006 l,vI n] H=some (vB (mayV l n),none):=by
 rw [q002 _ _ _ _ _ _ (noP _) fn106]
 have lo:=fun x H=>q0j6 x H
 unfold mayV q02g
 by_cases c1:n<1
 ·simp [zEa,c1]
 ·by_cases c2:(l.length:Int)<n
  ·simp [zEa,c1,c2]
  ·by_cases c3:n=l.length
   ·rw [if_neg (by omega),if_neg (by omega)]
    simp only
    have c1': ¬(l.length:Int)<1:=by omega
    subst c3
    simp [zEa,c1']
   ·have hx:=q026 l n (by omega) (by omega)
    have hix:=fun H k=>q024 H q004 (k:=k) (s:=7) (by omega) hx rfl
    have w:IntKind.i64.wrap (n-1)=n-1:=w64 (by omega) (by omega)
    have hy:=q026 l (n-1) (by omega) (by omega)
    have hiy:=fun H k=>q024 H q004 (k:=k) (s:=7) (by omega) hy rfl
    simp only [q004] at hix hiy
    rw [if_neg (by omega),if_pos ⟨by omega,by omega⟩]
    simp only [forbX]
    generalize rd l n=x at*
    have e:q0fl (rd l (n-1))=q04c (rd l (n-1)):=rfl
    rw [e]
    generalize rd l (n-1)=y at*
    by_cases k2:x.k=2
    ·simp [zEc,c1,c2,c3,hix,hiy,k2,w,lo]
    ·by_cases k3:x.k=3
     ·simp [zEc,c1,c2,c3,hix,k3];by_cases z:x.n<10000<;>simp [z]<;>omega
     ·simp [zEc,c1,c2,c3,hix,k2,k3]
def rahS (b:Int) (at_:Int) (i:Nat) (x:Item):Int:=if (i:Int)<b/\x.k=1 then i else at_
theorem q0fn {α τ:Type} (f:τ->Nat->α->τ): ∀(l:List α) (s:τ) (i n:Nat) (x:α),l[n]? =some x->fold f s i (l.take (n+1))=f (fold f s i (l.take n)) (i+n) x
 |[],s,i,n,x,h=>by simp at h
 |y::r,s,i,0,x,h=>by simp at h;subst h;simp [fold]
 |y::r,s,i,n+1,x,h=>by
  simp only [ZZ,fold]
  rw [q0fn f r _ (i+1) n x (by simpa using h)]
  congr 1;omega
theorem ra_ah (l:List Item) (b:Int):fold (rahS b) (-1) 0 l=ahL l b:=by
 have key: ∀n,n<=l.length->fold (rahS b) (-1) 0 (l.take n)=bwdB l (min (max b 0).toNat n):=by
  intro n
  induction n with
  |zero=>intro _;simp [fold,bwdB]
  |succ n ih=>
   intro hn
   have hx:l[n]? =some l[n]:=Zl (by omega)
   rw [q0fn _ l _ 0 n _ hx,ih (by omega),Zs]
   have hr:rd l (n:Int)=l[n]:=by
    have:=q026 l (n:Int) (by omega) (by omega)
    simp at this
    rw [hx] at this;simpa using this.symm
   unfold rahS
   by_cases c:(n:Int)<b
   ·have e1:min (max b 0).toNat (n+1)=n+1:=by omega
    have e2:min (max b 0).toNat n=n:=by omega
    rw [e1,e2,bwdB,hr]
    by_cases k:l[n].k=1
    ·rw [if_pos ⟨c,k⟩,if_pos k]
    ·rw [if_neg (fun h=>k h.2),if_neg k]
   ·have e:min (max b 0).toNat (n+1)=min (max b 0).toNat n:=by omega
    rw [if_neg (fun h=>c h.1),e]
 have h:=key l.length (Zm _)
 rw [List.take_length] at h
 rw [h]
 unfold ahL
 by_cases c:b<1
 ·rw [if_pos c]
  have e:min (max b 0).toNat l.length=0:=by omega
  rw [e,bwdB]
 ·rw [if_neg c];congr 1;omega
def rahE (l:List Item) (b:Int) (H:Heap) (a:Int) (i:Nat):St:=⟨[(0,q006 l),(1,vI b),(5,vI a),(6,vI i)],[],H,H.length,[]⟩
def rahX (l:List Item) (b:Int) (H:Heap) (a:Int):Ex×St:=(.exit 0,⟨[(0,q006 l),(1,vI b),(5,vI a),(6,vI l.length),(10,vB false)],[],H,H.length,[]⟩)
theorem q16c (l:List Item) (hl:l.length<=1000000) (b:Int) (H:Heap):clD EE (.p (.fn 226)) [q006 l,vI b] H=some (vI (ahL l b),none):=by
 rw [q002 _ _ _ _ _ _ (noP _) fn226]
 have k:evD EE q0oy (rahE l b H (-1) 0)=some (rahX l b H (ahL l b)):=by
  unfold q0oy
  refine Eq.trans (q00u l (fun a i=>rahE l b H a i) (fun _ _=>True) (rahS b) (fun a=>rahX l b H a) (fun _ _=>rfl) ?_ ?_ (-1) 0 trivial (Zj _)) (by rw [ZG,ra_ah])
  ·rintro a i x-hx
   refine ⟨?_,trivial⟩
   have hlt:=(Za.1 hx).1
   have w:IntKind.i64.wrap ((i:Int)+1)=((i+1:Nat):Int):=w64 (by omega) (by omega)
   have hix:=fun H k=>q00c H q004 (k:=k) (s:=7) hx rfl
   simp only [q004] at hix
   unfold rahS
   by_cases c:(i:Int)<b
   ·by_cases k1:x.k=1
    ·simp [rahE,hlt,hix,subs,w,c,k1]
    ·simp [rahE,hlt,hix,subs,w,c,k1]
   ·simp [rahE,hlt,hix,subs,w,c]
  ·rintro a-
   simp [rahE,rahX]
 simp [rahE,rahX] at k
 simp [zEa,k]
def fwdR (b:Int):List Item->Nat->Int
 |[],_=> -1
 |x::r,i=>if b<=i/\x.k=1 then i else fwdR b r (i+1)
theorem q15o (b:Int): ∀(l:List Item) (i:Nat),fwdR b l i=fwdB (l.drop ((max b 0).toNat-i)) (max i (max b 0).toNat)
 |[],i=>by simp [fwdR,fwdB]
 |x::r,i=>by
  rw [fwdR,q15o b r (i+1)]
  by_cases c:b<=i
  ·have e1:(max b 0).toNat-i=0:=by omega
   have e2:(max b 0).toNat-(i+1)=0:=by omega
   have e3:max i (max b 0).toNat=i:=by omega
   have e4:max (i+1) (max b 0).toNat=i+1:=by omega
   rw [e1,e2,e3,e4,ZG,ZG,fwdB]
   by_cases k:x.k=1
   ·rw [if_pos ⟨c,k⟩,if_pos k]
   ·rw [if_neg (fun h=>k h.2),if_neg k]
  ·have e1:(max b 0).toNat-i=((max b 0).toNat-(i+1))+1:=by omega
   have e3:max i (max b 0).toNat=(max b 0).toNat:=by omega
   have e4:max (i+1) (max b 0).toNat=(max b 0).toNat:=by omega
   rw [if_neg (fun h=>c h.1),e1,e3,e4,List.drop_succ_cons]
theorem q15t (l:List Item) (b:Int):fwdR b l 0=behL l b:=by
 rw [q15o];unfold behL;simp
def rbhE (l:List Item) (b:Int) (H:Heap) (i:Nat):St:=⟨[(0,q006 l),(1,vI b),(5,vI i)],[],H,H.length,[]⟩
def rbhX (l:List Item) (b:Int) (H:Heap):Ex×St:=(.exit 0,⟨[(0,q006 l),(1,vI b),(5,vI l.length),(9,vB false)],[],H,H.length,[]⟩)
def rbhS (b:Int) (H:Heap) (_:Unit) (i:Nat) (x:Item):Unit⊕(Ex×St):=if b<=i/\x.k=1 then .inr (.ret,⟨[(4,vI i)],[],H,H.length,[]⟩) else .inl ()
theorem q156 (b:Int) (H:Heap) (fin:Ex×St): ∀(l:List Item) (i:Nat),rng (rbhS b H) (fun _=>fin) () i l=if fwdR b l i= -1 then fin else (.ret,⟨[(4,vI (fwdR b l i))],[],H,H.length,[]⟩)
 |[],_=>by simp [rng,fwdR]
 |x::r,i=>by
  simp only [rng,rbhS,fwdR]
  by_cases c:b<=(i:Int)/\x.k=1
  ·simp only [if_pos c];rw [if_neg (by omega)]
  ·simp only [if_neg c];exact q156 b H fin r (i+1)
theorem q164 (l:List Item) (hl:l.length<=1000000) (b:Int) (H:Heap):clD EE (.p (.fn 227)) [q006 l,vI b] H=some (vI (behL l b),none):=by
 rw [q002 _ _ _ _ _ _ (noP _) fn227]
 have k:evD EE q14k (rbhE l b H 0)=some (rng (rbhS b H) (fun _=>rbhX l b H) () 0 l):=by
  unfold q14k
  refine q013 l (fun (_:Unit) i=>rbhE l b H i) (fun _ _=>True) (rbhS b H) (fun _=>rbhX l b H) (fun _ _=>rfl) ?_ ?_ () 0 trivial (Zj _)
  ·rintro _ i x-hx
   have hlt:=(Za.1 hx).1
   have w:IntKind.i64.wrap ((i:Int)+1)=((i+1:Nat):Int):=w64 (by omega) (by omega)
   have hix:=fun H k=>q00c H q004 (k:=k) (s:=7) hx rfl
   simp only [q004] at hix
   unfold rbhS
   by_cases c:b<=(i:Int)
   ·by_cases k1:x.k=1
    ·simp [rbhE,hlt,hix,subs,w,c,k1]
    ·simp [rbhE,hlt,hix,subs,w,c,k1]
   ·simp [rbhE,hlt,hix,subs,w,c]
  ·rintro _-
   simp [rbhE,rbhX]
 rw [q156,q15t] at k
 by_cases c:behL l b= -1
 ·rw [if_pos c] at k
  simp [rbhE,rbhX] at k
  rw [c]
  simp [zEa,k]
 ·rw [if_neg c] at k
  simp [rbhE] at k
  simp [zEa,k]
theorem q157 (l:List Item): ∀n:Nat,-1<=bwdB l n/\bwdB l n<n
 |0=>by simp [bwdB]
 |n+1=>by
  have:=q157 l n
  rw [bwdB];split<;>omega
theorem q158: ∀(l:List Item) (i:Nat),-1<=fwdB l i/\fwdB l i<i+l.length
 |[],i=>by simp [fwdB];omega
 |x::r,i=>by
  have:=q158 r (i+1)
  rw [fwdB,Zg]
  split<;>push_cast at* <;>omega
theorem q16d (l:List Item) (b:Int): -1<=ahL l b/\(ahL l b<l.length):=by
 unfold ahL
 split
 ·constructor<;>omega
 ·have:=q157 l (min b l.length).toNat
  omega
theorem q165 (l:List Item) (b:Int): -1<=behL l b/\(behL l b<l.length):=by
 unfold behL
 have:=q158 (l.drop (max b 0).toNat) (max b 0).toNat
 rw [List.length_drop] at this
 by_cases c:(max b 0).toNat<=l.length
 ·omega
 ·rw [List.drop_eq_nil_of_le (by omega)]
  simp [fwdB];omega
theorem q15u (l:List Item) (hl:l.length<=1000000) (b:Int) (H:Heap):clD EE (.p (.fn 108)) [q006 l,vI b] H=some (vB (isAt l 1 (ahL l b)),none):=by
 rw [q002 _ _ _ _ _ _ (noP _) fn108]
 have a:=fun H=>q16c l hl b H
 have bd:=q16d l b
 generalize ahL l b=t at*
 unfold isAt q02g
 by_cases c:0<=t
 ·have hx:=q026 l t (by omega) (by omega)
  have hix:=fun H k=>q024 H q004 (k:=k) (s:=7) (by omega) hx rfl
  simp only [q004] at hix
  rw [if_pos ⟨c,bd.2⟩]
  simp [zEb,a,c,hix]
 ·rw [if_neg (fun h=>c h.1)]
  simp [zEa,a,c]
theorem q15p (l:List Item) (hl:l.length<=1000000) (b:Int) (H:Heap):clD EE (.p (.fn 109)) [q006 l,vI b] H=some (vB (isAt l 2 (behL l b)),none):=by
 rw [q002 _ _ _ _ _ _ (noP _) fn109]
 have a:=fun H=>q164 l hl b H
 have bd:=q165 l b
 generalize behL l b=t at*
 unfold isAt q02g
 by_cases c:0<=t
 ·have hx:=q026 l t (by omega) (by omega)
  have hix:=fun H k=>q024 H q004 (k:=k) (s:=7) (by omega) hx rfl
  simp only [q004] at hix
  rw [if_pos ⟨c,bd.2⟩]
  simp [zEb,a,c,hix]
 ·rw [if_neg (fun h=>c h.1)]
  simp [zEa,a,c]
theorem q15v (g:Geom) (l:List Item) (hl:l.length<=1000000) (b:Int) (H:Heap):clD EE (.p (.fn 71)) [vGeom g,q006 l,vI b] H=some (vI (paraF g l b),none):=by
 rw [q002 _ _ _ _ _ _ (noP _) fn71]
 have m:=fun H=>q0j8 l hl b H
 have f:=fun H=>q0n2 l b H
 have cl:=fun H=>q15u l hl b H
 have wi:=fun H=>q15p l hl b H
 unfold paraF
 generalize isAt l 1 (ahL l b)=C at*
 generalize isAt l 2 (behL l b)=Wd at*
 cases q:mayV l b with
 |false=>
  rw [q] at m
  cases q02g l b<;>simp [zEc,m]
 |true=>
  rw [q] at m
  have hr:1<=b/\b<=l.length:=by
   unfold mayV at q
   by_cases c:b<1\/(l.length:Int)<b
   ·rw [if_pos c] at q;cases q
   ·omega
  by_cases e:b=l.length
  ·have:q02g l b=none:=by unfold q02g;rw [if_neg (by omega)]
   rw [this]
   subst e
   simp [zEc,m]
  ·have hx:=q026 l b (by omega) (by omega)
   have hix:=fun H k=>q024 H q004 (k:=k) (s:=7) (by omega) hx rfl
   simp only [q004] at hix
   have hi:q02g l b=some (rd l b):=by unfold q02g;rw [if_pos ⟨by omega,by omega⟩]
   have hm:mustV l b=q05z (rd l b):=by unfold mustV;rw [hi];simp [hr.1]
   rw [hm] at f
   rw [hi]
   generalize rd l b=x at*
   cases u:q05z x with
   |true=>rw [u] at f;simp [zEc,m,f,e,u]
   |false=>
    rw [u] at f
    have mc:max 0 g.club=max g.club 0:=Int.max_comm _ _
    have mw:max 0 g.widow=max g.widow 0:=Int.max_comm _ _
    by_cases k3:x.k=3
    ·by_cases p:0<x.n
     ·have e1:max x.n 0=x.n:=by omega
      cases C<;>cases Wd<;>simp [zEc,m,f,e,u,hix,k3,p,cl,wi,e1,mc,mw]
     ·have e1:max x.n 0=0:=by omega
      cases C<;>cases Wd<;>simp [zEc,m,f,e,u,hix,k3,p,cl,wi,e1,mc,mw]
    ·cases C<;>cases Wd<;>simp [zEc,m,f,e,u,hix,k3,cl,wi,mc,mw]
theorem q0Uq (n:Int) (H:Heap):clD EE (.p (.fn 67)) [vI n] H=some (vI (heldN n),none):=by
 rw [q002 _ _ _ _ _ _ (noP _) fn67]
 unfold heldN
 by_cases a:n<0
 ·have e:min (max n 0) 1125899906842624=0:=by omega
  rw [e];simp [zEa,a]
 ·by_cases b:1125899906842624<n
  ·have e:min (max n 0) 1125899906842624=1125899906842624:=by omega
   rw [e];simp [zEa,a,b]
  ·have e:min (max n 0) 1125899906842624=n:=by omega
   rw [e];simp [zEa,a,b]
theorem q0Tv (a b c d:Int) (H:Heap):clD EE (.p (.fn 20)) [vCost a b,vCost c d] H=some (vCost (addM a c) (addM b d),none):=by
 rw [q002 _ _ _ _ _ _ (noP _) fn20]
 have h:=fun n H=>q0Uq n H
 have b1:=q0Tq a
 have b2:=q0Tq b
 have b3:=q0Tq c
 have b4:=q0Tq d
 have w1:IntKind.i64.wrap (heldN a+heldN c)=heldN a+heldN c:=w64 (by omega) (by omega)
 have w2:IntKind.i64.wrap (heldN b+heldN d)=heldN b+heldN d:=w64 (by omega) (by omega)
 unfold addM
 simp [zEc,h,w1,w2]
def mustP (l:List Item) (n:Nat):Bool:=match l[n]? with|some x=>q05z x|none=>true
def mayN (l:List Item) (n:Nat):Bool:=mayV l n
def pos (a:Int):Nat:=(max a 0).toNat
def q010 (l:List Item) (a:Int):Int:=seekP (mustP l) (l.length-pos a) (pos a+1)
def q015 (l:List Item) (a:Int):Int:=seekP (mayN l) (l.length-pos a) (pos a+1)
def brkN (l:List Item) (a:Int):List Nat:=(List.range' (pos a+1) (l.length-pos a)).filter fun (m:Nat)=>decide ((m:Int)<=q010 l a)&&mayN l m
def brkF (l:List Item) (a:Int):List Int:=(brkN l a).map Int.ofNat
theorem q07g (p:Nat->Bool): ∀(k n:Nat),seekP p k n= -1\/((n:Int)<=seekP p k n/\seekP p k n<n+k/\p (seekP p k n).toNat=true)
 |0,n=> .inl rfl
 |k+1,n=>by
  rw [seekP]
  by_cases h:p n=true
  ·rw [if_pos h];exact .inr ⟨by omega,by omega,by simpa using h⟩
  ·rw [if_neg h]
   rcases q07g p k (n+1) with h1|⟨h1,h2,h3⟩
   ·exact .inl h1
   ·exact .inr ⟨by omega,by omega,h3⟩
theorem q0z6 (l:List Item) (hl:l.length<=1000000) (n:Nat) (hn:n<=l.length) (H:Heap):clD EE (.fn (.func 336) [q00d l] []) [vI n] H=some (vB (mustP l n),none):=by
 rw [q02m,q002 _ _ _ _ _ _ (noP _) fn336]
 have l3:=fun H=>q07s l n H
 have f:=fun x H=>q0j4 x H
 rw [q06n] at l3
 unfold mustP
 cases h:l[n]? with
 |none=>rw [h] at l3;simp [zEc,l3]
 |some x=>rw [h] at l3;simp [zEc,l3,f]
theorem q0Cr (l:List Item) (hl:l.length<=1000000) (n:Nat) (H:Heap):clD EE (.fn (.func 219) [q00d l] []) [vI n] H=some (vB (mayN l n),none):=by
 rw [q02m];exact q0Co l hl n H
theorem q0z7 (l:List Item) (hl:l.length<=1000000) (a:Int) (H:Heap):clD EE (.p (.fn 271)) [q00d l,vI a] H=some (vI (q010 l a),none):=by
 rw [q002 _ _ _ _ _ _ (noP _) fn271]
 have l2:=fun H=>q021 l H
 unfold q010 pos
 by_cases c:(l.length:Int)<=a
 ·have e:l.length-(max a 0).toNat=0:=by omega
  rw [e]
  simp [zEa,l2,c,seekP]
 ·have w:IntKind.i64.wrap (max a 0+1)=(((max a 0).toNat+1:Nat):Int):=by
   have e:(((max a 0).toNat+1:Nat):Int)=max a 0+1:=by omega
   rw [e];exact w64 (by omega) (by omega)
  by_cases d:(max a 0).toNat+1<=l.length+1
  ·have s:=fun H=>q0hc l ((max a 0).toNat+1) (.fn (.func 336) [q00d l] []) (mustP l) hl H (fun n hn=>q0z6 l hl n hn H) d rfl rfl
   have e:l.length+1-((max a 0).toNat+1)=l.length-(max a 0).toNat:=by omega
   rw [e] at s
   generalize (max a 0).toNat+1=z at*
   simp only [q00d] at l2 s⊢
   simp [zEa,l2,c,w,s]
  ·omega
theorem q0bs (l:List Item) (hl:l.length<=1000000) (a:Int) (H:Heap):clD EE (.p (.fn 259)) [q00d l,vI a] H=some (vI (q015 l a),none):=by
 rw [q002 _ _ _ _ _ _ (noP _) fn259]
 have l2:=fun H=>q021 l H
 unfold q015 pos
 by_cases c:(l.length:Int)<=a
 ·have e:l.length-(max a 0).toNat=0:=by omega
  rw [e]
  simp [zEa,l2,c,seekP]
 ·have w:IntKind.i64.wrap (max a 0+1)=(((max a 0).toNat+1:Nat):Int):=by
   have e:(((max a 0).toNat+1:Nat):Int)=max a 0+1:=by omega
   rw [e];exact w64 (by omega) (by omega)
  by_cases d:(max a 0).toNat+1<=l.length+1
  ·have s:=fun H=>q0hc l ((max a 0).toNat+1) (.fn (.func 219) [q00d l] []) (mayN l) hl H (fun n hn=>q0Cr l hl n H) d rfl rfl
   have e:l.length+1-((max a 0).toNat+1)=l.length-(max a 0).toNat:=by omega
   rw [e] at s
   generalize (max a 0).toNat+1=z at*
   simp only [q00d] at l2 s⊢
   simp [zEa,l2,c,w,s]
  ·omega
end Go.EnvOf
