/- The program's functions and the document's, evaluated. -/
import Derived.Test.YtjjdmlpdgcdehaaGreatText8
import Derived.Test.YtjjdmlpdgcdehaaGreatText9
import Derived.Test.YtjjdmlpdgcdehaaGreatText3
import Derived.Test.YtjjdmlpdgcdehaaGreatText7
import Derived.Test.YtjjdmlpdgcdehaaGreatText5
set_option linter.unusedSimpArgs false
set_option linter.unusedVariables false
namespace Go.EnvOf
open Go Go.Eng
set_option maxRecDepth 100000
abbrev cFcts (f:Fcts):List V:=[vI f.notes,vI f.floats,vI f.room,vB f.last,vB f.over,vI f.set_.how,vI f.set_.ord,vI f.set_.by_,vI f.set_.of_,vI f.set_.left]
abbrev cColm (c:Colm):List V:=[vI c.k,vI c.frm,vI c.to,q00v c.notes,sli c.top,sli c.bot]
abbrev cStt (s:Stt):List V:=[vI s.at_,vI s.col,vI s.note,vI s.line,vI s.h.a,vI s.h.b,vI s.h.c]
section
variable (j:Job) (H:Heap)
theorem q12y (f:Fcts) (hf:f.set_.of_<=9223372036854775807) (p q:Nat) (h1:Eng.boxAt H p=some (cFcts f)) (h2:Eng.boxAt H q=some (cJobW j)):
  clD EE (.fn (.func 112) [] [.ptr p 0,.ptr q 0]) [] H=some (vI (badG f.set_ j.g.grid f.last),none):=by
 rw [q02m,q002 _ _ _ _ _ _ (noP _) fn112]
 have b:=fun H=>q12k f.set_ j.g.grid f.last hf H
 simp only [cJobW,cGeom,Zd,Zf] at h2
 simp [zEc,h1,h2,b]
theorem q12z (hl:j.items.length<=1000000) (c:Colm) (q w r:Nat) (h2:Eng.boxAt H q=some (cJobW j)) (h3:Eng.boxAt H w=some [vW j]) (h4:Eng.boxAt H r=some (cColm c)):
  clD EE (.fn (.func 113) [] [.ptr q 0,.ptr w 0,.ptr r 0]) [] H=some (vI (paraF j.g j.items c.to),none):=by
 rw [q02m,q002 _ _ _ _ _ _ (noP _) fn113]
 have b:=fun H=>q12v j.g j.items hl c.to H
 have l:=fun H=>q07e j H
 have e:subs [vW j] 0 1=some [vW j]:=rfl
 simp only [vGeom,cGeom] at b
 simp only [cJobW,cGeom,Zd,Zf] at h2
 simp [zEc,h2,h3,h4,b,l]
theorem q130 (q:Nat) (h2:Eng.boxAt H q=some (cJobW j)):clD EE (.fn (.func 116) [] [.ptr q 0]) [] H=some (vI j.g.spare,none):=by
 rw [q02m,q002 _ _ _ _ _ _ (noP _) fn116]
 simp only [cJobW,cGeom,Zd,Zf] at h2
 simp [zEc,h2]
theorem q131 (hn: ∀n∈j.notes,n.lines.length<=1000000) (c:Colm) (hc:0<c.notes.length) (hc2:c.notes.length<=1000000) (q r:Nat) (h2:Eng.boxAt H q=some (cJobW j)) (h4:Eng.boxAt H r=some (cColm c)):
  clD EE (.fn (.func 117) [] [.ptr q 0,.ptr r 0]) [] H=some (vI (W64 (j.g.split+tornF j.notes c.notes)),none):=by
 rw [q02m,q002 _ _ _ _ _ _ (noP _) fn117]
 have b:=fun H=>q12w j c.notes hc hc2 hn H
 simp only [vJob,cGeom,Zd,Zf] at b
 simp only [cJobW,cGeom,Zd,Zf] at h2
 unfold W64
 simp [zEc,h2,h4,b]
theorem q132 (o:okW j) (t:Stt) (q w r:Nat) (h2:Eng.boxAt H q=some (cJobW j)) (h3:Eng.boxAt H w=some [vW j]) (h4:Eng.boxAt H r=some (cStt t)):
  clD EE (.fn (.func 119) [] [.ptr q 0,.ptr w 0,.ptr r 0]) [] H=some (vI (W64 (j.g.defer*sumC (q120 j t))),none):=by
 rw [q02m,q002 _ _ _ _ _ _ (noP _) fn119]
 have b:=fun H=>q12j j o t H
 have s:=fun H=>q13d (q120 j t) H
 have e:subs [vW j] 0 1=some [vW j]:=rfl
 simp only [cJobW,cGeom,Zd,Zf] at h2
 unfold W64
 generalize sumC (q120 j t)=z at*
 simp [zEc,h2,h3,h4,b,s]
end
def q12c (j:Job) (s:Stt) (c:Colm):List Int:=
 (if c.k=1/\(q02r j s c).over=false then [badG (q02r j s c).set_ j.g.grid (q02r j s c).last] else [])++
 (if c.k=1 then [paraF j.g j.items c.to] else [])++
 (if c.k=1 then [] else [j.g.spare])++
 (if 0<c.notes.length/\0<(nextS j s c).line then [W64 (j.g.split+tornF j.notes c.notes)] else [])++
 [W64 (j.g.defer*sumC (q120 j (nextS j s c)))]
def costC (j:Job) (s:Stt) (c:Colm):Int×Int:=if q01g j s=true then q0Tp (q02r j s c).over (q12c j s c) else (0,0)
theorem q11z (x y:List PV) (r:List (List PV)):upV (x::y::r)=upV [x]++upV (y::r):=rfl
theorem q139 {t:Tot} (h:q03k t=true) (o:Int):strT t o<=1125899906842624:=by
 unfold q03k fairL at h
 simp at h
 unfold strT
 (repeat' split)<;>omega
theorem q13a (j:Job) (s:Stt) (c:Colm):(q02r j s c).set_.of_<=9223372036854775807:=by
 have z: ∀t h l,(q07f t h l).of_<=9223372036854775807:=by
  intro t h l
  unfold q07f
  by_cases r:q04u t h=true
  ·have bd:=q0j5 r
   have f:q03k t=true:=by unfold q04u at r;simp at r;exact r.1.1
   have sb:=q139 f (ordT t)
   rw [if_pos r]
   (repeat' split)<;>simp only [zeroG]<;>omega
  ·rw [if_neg r];simp [zeroG]
 unfold q02r
 split
 ·simp only
  split
  ·exact z _ _ _
  ·simp [zeroG]
 ·simp [zeroF,zeroG]
theorem q133 (j:Job) (w:okW j) (hf: ∀x∈j.items,fairI x) (s:Stt) (c:Colm) (c1:c.notes.length<=1000000) (c2:c.top.length<=9223372036854775807) (c3:c.bot.length<=9223372036854775807) (H:Heap):
  clD EE (.p (.fn 46)) [vW j,vStt s,vColm c] H=some (vCost (costC j s c).1 (costC j s c).2,none):=by
 rw [q002 _ _ _ _ _ _ (noP _) fn46]
 have r:=fun H=>q03r j w s H
 have pl:=fun H=>q07d j H
 have fa:=fun H=>q0Xp j w hf s c c1 c2 c3 H
 have nx:=fun H=>q100 j w s c c1 c2 c3 H
 unfold costC
 have e:subs [vW j] 0 1=some [vW j]:=rfl
 cases b:q01g j s with
 |false=>
  rw [b] at r
  simp [zEc,r]
 |true=>
  rw [b] at r
  have k1:=fun H p q=>q12y j H (q02r j s c) (q13a j s c) p q
  have k2:=fun H p q r=>q12z j H w.n1 c p q r
  have k3:=fun H p=>q130 j H p
  have k4:=fun h H p q=>q131 j H w.lines c h c1 p q
  have k5:=fun H p q r=>q132 j H w (nextS j s c) p q r
  have po:q12c j s c=(if c.k=1/\(q02r j s c).over=false then [badG (q02r j s c).set_ j.g.grid (q02r j s c).last] else [])++
   (if c.k=1 then [paraF j.g j.items c.to] else [])++(if c.k=1 then [] else [j.g.spare])++
   (if 0<c.notes.length/\0<(nextS j s c).line then [W64 (j.g.split+tornF j.notes c.notes)] else [])++[W64 (j.g.defer*sumC (q120 j (nextS j s c)))]:=rfl
  generalize badG (q02r j s c).set_ j.g.grid (q02r j s c).last=v1 at*
  generalize paraF j.g j.items c.to=v2 at*
  generalize W64 (j.g.split+tornF j.notes c.notes)=v4 at*
  generalize W64 (j.g.defer*sumC (q120 j (nextS j s c)))=v5 at*
  generalize q02r j s c=F at*
  generalize nextS j s c=N at*
  generalize q12c j s c=P at*
  have K1:=fun T=>k1 (H++(DObj.box [vW j]::DObj.box [vI c.k,vI c.frm,vI c.to,q00v c.notes,sli c.top,sli c.bot]::DObj.box [vI F.notes,vI F.floats,vI F.room,vB F.last,vB F.over,vI F.set_.how,vI F.set_.ord,vI F.set_.by_,vI F.set_.of_,vI F.set_.left]::DObj.box (cJobW j)::DObj.box [vI N.at_,vI N.col,vI N.note,vI N.line,vI N.h.a,vI N.h.b,vI N.h.c]::T)) (H.length+2) (H.length+3) (by simp) (by simp)
  have K2:=fun T=>k2 (H++(DObj.box [vW j]::DObj.box [vI c.k,vI c.frm,vI c.to,q00v c.notes,sli c.top,sli c.bot]::DObj.box [vI F.notes,vI F.floats,vI F.room,vB F.last,vB F.over,vI F.set_.how,vI F.set_.ord,vI F.set_.by_,vI F.set_.of_,vI F.set_.left]::DObj.box (cJobW j)::DObj.box [vI N.at_,vI N.col,vI N.note,vI N.line,vI N.h.a,vI N.h.b,vI N.h.c]::T)) (H.length+3) H.length (H.length+1) (by simp) (by simp) (by simp)
  have K3:=fun T=>k3 (H++(DObj.box [vW j]::DObj.box [vI c.k,vI c.frm,vI c.to,q00v c.notes,sli c.top,sli c.bot]::DObj.box [vI F.notes,vI F.floats,vI F.room,vB F.last,vB F.over,vI F.set_.how,vI F.set_.ord,vI F.set_.by_,vI F.set_.of_,vI F.set_.left]::DObj.box (cJobW j)::DObj.box [vI N.at_,vI N.col,vI N.note,vI N.line,vI N.h.a,vI N.h.b,vI N.h.c]::T)) (H.length+3) (by simp)
  have K4:=fun h T=>k4 h (H++(DObj.box [vW j]::DObj.box [vI c.k,vI c.frm,vI c.to,q00v c.notes,sli c.top,sli c.bot]::DObj.box [vI F.notes,vI F.floats,vI F.room,vB F.last,vB F.over,vI F.set_.how,vI F.set_.ord,vI F.set_.by_,vI F.set_.of_,vI F.set_.left]::DObj.box (cJobW j)::DObj.box [vI N.at_,vI N.col,vI N.note,vI N.line,vI N.h.a,vI N.h.b,vI N.h.c]::T)) (H.length+3) (H.length+1) (by simp) (by simp)
  have K5:=fun T=>k5 (H++(DObj.box [vW j]::DObj.box [vI c.k,vI c.frm,vI c.to,q00v c.notes,sli c.top,sli c.bot]::DObj.box [vI F.notes,vI F.floats,vI F.room,vB F.last,vB F.over,vI F.set_.how,vI F.set_.ord,vI F.set_.by_,vI F.set_.of_,vI F.set_.left]::DObj.box (cJobW j)::DObj.box [vI N.at_,vI N.col,vI N.note,vI N.line,vI N.h.a,vI N.h.b,vI N.h.c]::T)) (H.length+3) H.length (H.length+4) (by simp) (by simp) (by simp)
  have CS:=fun (P':List Int) (hl:P'.length<=1000000)=>q12r (H++(DObj.box [vW j]::DObj.box [vI c.k,vI c.frm,vI c.to,q00v c.notes,sli c.top,sli c.bot]::DObj.box [vI F.notes,vI F.floats,vI F.room,vB F.last,vB F.over,vI F.set_.how,vI F.set_.ord,vI F.set_.by_,vI F.set_.of_,vI F.set_.left]::DObj.box (cJobW j)::DObj.box [vI N.at_,vI N.col,vI N.note,vI N.line,vI N.h.a,vI N.h.b,vI N.h.c]::[DObj.row 1 (upV (P'.map encI))])) F.over P' hl (H.length+5) (by simp [Go.Eng.rowAt])
  clear k1 k2 k3 k4 k5
  simp only [vJob,cJobW,cGeom,Zd,Zf] at pl K1 K2 K3 K4 K5 CS
  have w1:IntKind.i64.wrap 1=1:=by decide
  have w2:IntKind.i64.wrap 2=2:=by decide
  have w3:IntKind.i64.wrap 3=3:=by decide
  have w4:IntKind.i64.wrap 4=4:=by decide
  have w5:IntKind.i64.wrap 5=5:=by decide
  have m1:1<most:=by decide
  have m2:2<most:=by decide
  have m3:3<most:=by decide
  have m4:4<most:=by decide
  have m5:5<most:=by decide
  by_cases q1:c.k=1
  ·have fa1:=fa
   have nx1:=nx
   simp only [vColm,q1] at fa1 nx1
   simp only [q1] at K1 K2 K3 K4 K5 CS
   cases ov:F.over with
   |true=>
    simp only [vFcts,ov] at fa1
    simp only [ov] at K1 K2 K3 K4 K5 CS
    by_cases n0:0<c.notes.length
    ·have K4':=K4 n0
     by_cases n1:0<N.line
     ·have cs:=CS [v2,v4,v5] (by simp)
      have eP:P=[v2,v4,v5]:=by rw [po];simp [q1,ov,n0,n1]
      subst eP
      generalize q0Tp true [v2,v4,v5]=Q at*
      simp only [Zg,Zq,Zo,ZL,Zs,Nat.reduceAdd,encI,q11z] at cs
      simp [zEc,r,pl,fa1,nx1,q1,ov,n0,n1,e,q11a,q003,ixsI,ixsV,w1,w2,w3,w4,w5,m1,m2,m3,m4,m5,K1,K2,K3,K4',K5,cs]
     ·have cs:=CS [v2,v5] (by simp)
      have eP:P=[v2,v5]:=by rw [po];simp [q1,ov,n0,n1]
      subst eP
      generalize q0Tp true [v2,v5]=Q at*
      simp only [Zg,Zq,Zo,ZL,Zs,Nat.reduceAdd,encI,q11z] at cs
      simp [zEc,r,pl,fa1,nx1,q1,ov,n0,n1,e,q11a,q003,ixsI,ixsV,w1,w2,w3,w4,w5,m1,m2,m3,m4,m5,K1,K2,K3,K4',K5,cs]
    ·have cs:=CS [v2,v5] (by simp)
     have eP:P=[v2,v5]:=by rw [po];simp [q1,ov,n0]
     subst eP
     generalize q0Tp true [v2,v5]=Q at*
     simp only [Zg,Zq,Zo,ZL,Zs,Nat.reduceAdd,encI,q11z] at cs
     simp [zEc,r,pl,fa1,nx1,q1,ov,n0,e,q11a,q003,ixsI,ixsV,w1,w2,w3,w4,w5,m1,m2,m3,m4,m5,K1,K2,K3,K5,cs]
   |false=>
    simp only [vFcts,ov] at fa1
    simp only [ov] at K1 K2 K3 K4 K5 CS
    by_cases n0:0<c.notes.length
    ·have K4':=K4 n0
     by_cases n1:0<N.line
     ·have cs:=CS [v1,v2,v4,v5] (by simp)
      have eP:P=[v1,v2,v4,v5]:=by rw [po];simp [q1,ov,n0,n1]
      subst eP
      generalize q0Tp false [v1,v2,v4,v5]=Q at*
      simp only [Zg,Zq,Zo,ZL,Zs,Nat.reduceAdd,encI,q11z] at cs
      simp [zEc,r,pl,fa1,nx1,q1,ov,n0,n1,e,q11a,q003,ixsI,ixsV,w1,w2,w3,w4,w5,m1,m2,m3,m4,m5,K1,K2,K3,K4',K5,cs]
     ·have cs:=CS [v1,v2,v5] (by simp)
      have eP:P=[v1,v2,v5]:=by rw [po];simp [q1,ov,n0,n1]
      subst eP
      generalize q0Tp false [v1,v2,v5]=Q at*
      simp only [Zg,Zq,Zo,ZL,Zs,Nat.reduceAdd,encI,q11z] at cs
      simp [zEc,r,pl,fa1,nx1,q1,ov,n0,n1,e,q11a,q003,ixsI,ixsV,w1,w2,w3,w4,w5,m1,m2,m3,m4,m5,K1,K2,K3,K4',K5,cs]
    ·have cs:=CS [v1,v2,v5] (by simp)
     have eP:P=[v1,v2,v5]:=by rw [po];simp [q1,ov,n0]
     subst eP
     generalize q0Tp false [v1,v2,v5]=Q at*
     simp only [Zg,Zq,Zo,ZL,Zs,Nat.reduceAdd,encI,q11z] at cs
     simp [zEc,r,pl,fa1,nx1,q1,ov,n0,e,q11a,q003,ixsI,ixsV,w1,w2,w3,w4,w5,m1,m2,m3,m4,m5,K1,K2,K3,K5,cs]
  ·by_cases n0:0<c.notes.length
   ·have K4':=K4 n0
    by_cases n1:0<N.line
    ·have cs:=CS [j.g.spare,v4,v5] (by simp)
     have eP:P=[j.g.spare,v4,v5]:=by rw [po];simp [q1,n0,n1]
     subst eP
     generalize q0Tp F.over [j.g.spare,v4,v5]=Q at*
     simp only [Zg,Zq,Zo,ZL,Zs,Nat.reduceAdd,encI,q11z] at cs
     simp [zEc,r,pl,fa,nx,q1,n0,n1,e,q11a,q003,ixsI,ixsV,w1,w2,w3,w4,w5,m1,m2,m3,m4,m5,K1,K2,K3,K4',K5,cs]
    ·have cs:=CS [j.g.spare,v5] (by simp)
     have eP:P=[j.g.spare,v5]:=by rw [po];simp [q1,n0,n1]
     subst eP
     generalize q0Tp F.over [j.g.spare,v5]=Q at*
     simp only [Zg,Zq,Zo,ZL,Zs,Nat.reduceAdd,encI,q11z] at cs
     simp [zEc,r,pl,fa,nx,q1,n0,n1,e,q11a,q003,ixsI,ixsV,w1,w2,w3,w4,w5,m1,m2,m3,m4,m5,K1,K2,K3,K4',K5,cs]
   ·have cs:=CS [j.g.spare,v5] (by simp)
    have eP:P=[j.g.spare,v5]:=by rw [po];simp [q1,n0]
    subst eP
    generalize q0Tp F.over [j.g.spare,v5]=Q at*
    simp only [Zg,Zq,Zo,ZL,Zs,Nat.reduceAdd,encI,q11z] at cs
    simp [zEc,r,pl,fa,nx,q1,n0,e,q11a,q003,ixsI,ixsV,w1,w2,w3,w4,w5,m1,m2,m3,m4,m5,K1,K2,K3,K5,cs]
theorem q13b (j:Job) (w:okW j) (hf: ∀x∈j.items,fairI x) (s:Stt) (c:Colm) (c1:c.notes.length<=1000000) (c2:c.top.length<=1000000) (c3:c.bot.length<=1000000) (H:Heap):
  clD EE (.p (.fn 46)) [vW j,vStt s,vColm c] H=some (vCost (costC j s c).1 (costC j s c).2,none):=q133 j w hf s c c1 (by omega) (by omega) H
def tearB (j:Job) (s:Stt) (c:Colm):Prop:=0<c.notes.length/\0<(nextS j s c).line
instance (j:Job) (s:Stt) (c:Colm):Decidable (tearB j s c):=inferInstanceAs (Decidable (_/\_))
theorem q0x6 (n:Int) (H:Heap):clD EE (.p (.fn 325)) [vI n] H=some (vI (hz n),none):=by
 rw [q002 _ _ _ _ _ _ (noP _) fn325]
 have e:max 0 (min n 1125899906842624)=hz n:=by simp only [hz,fz];omega
 simp [zEa,e]
def rqhE (l:List Float) (xs:List Int) (sep:Int) (H:Heap) (s:Int) (i:Nat):St:=
 ⟨[(0,q005 l),(1,sli xs),(2,vI sep),(7,vI s),(8,vI i)],[],H,H.length,[]⟩
def rqhX (l:List Float) (xs:List Int) (sep:Int) (H:Heap) (s:Int):Ex×St:=
 (.exit 0,⟨[(0,q005 l),(1,sli xs),(2,vI sep),(7,vI s),(8,vI xs.length),(12,vB false)],[],H,H.length,[]⟩)
theorem q0qy (l:List Float) (xs:List Int) (sep:Int) (H:Heap) (hx:xs.length<=1000000):evD EE q0X3 (rqhE l xs sep H 0 0)=some (rqhX l xs sep H (highQ l xs sep)):=by
 unfold q0X3
 refine Eq.trans (q00u xs (rqhE l xs sep H) (fun s _=>0<=s/\s<=fz) (fun s _ x=>hiS l sep s x) (rqhX l xs sep H) (fun _ _=>rfl) ?_ ?_ 0 0 (by simp) (Zj _)) (by rw [ZG,foldG];rfl)
 ·intro s i x hi hp
  have hlt:=(Za.1 hp).1
  have hix:=fun H k=>q00c H encI (k:=k) (s:=1) hp rfl
  have w:IntKind.i64.wrap ((i:Int)+1)=((i+1:Nat):Int):=w64 (by omega) (by omega)
  unfold hiS atF
  by_cases h0:0<=x
  ·by_cases h1:x<l.length
   ·rw [if_pos ⟨h0,h1⟩]
    have hg:=q026 l x h0 h1
    have hiy:=fun H k=>q024 H q009 (k:=k) (s:=3) h0 hg rfl
    generalize rd l x=f at*
    refine ⟨?_,hz_in _⟩
    have b1:=hz_in f.h
    have b2:=hz_in sep
    simp only [fz] at b1 b2 hi
    have w1:IntKind.i64.wrap (s+hz f.h)=s+hz f.h:=w64 (by omega) (by omega)
    have w2:IntKind.i64.wrap (s+hz f.h+hz sep)=s+hz f.h+hz sep:=w64 (by omega) (by omega)
    simp [rqhE,hlt,hix,hiy,encI,q009,subs,q001,h0,h1,w,q0x6,w1,w2]
   ·rw [if_neg (fun h=>h1 h.2)]
    refine ⟨?_,hi⟩
    simp [rqhE,hlt,hix,encI,subs,q001,h0,h1,w]
  ·rw [if_neg (fun h=>h0 h.1)]
   refine ⟨?_,hi⟩
   simp [rqhE,hlt,hix,encI,subs,q001,h0,w]
 ·intro s hi
  refine ⟨?_,by simp [rqhX]⟩
  simp [rqhE,rqhX]
theorem q06k (l:List Float) (xs:List Int) (sep:Int) (H:Heap) (hx:xs.length<=1000000):clD EE (.p (.fn 249)) [q005 l,sli xs,vI sep] H=some (vI (highQ l xs sep),none):=by
 rw [q002 _ _ _ _ _ _ (noP _) fn249]
 have k:=q0qy l xs sep H hx
 simp [rqhE,rqhX] at k
 simp [zEa,k]
theorem q0lq (g:Geom) (fs:List Float) (a b:List Int) (ha:a.length<=1000000) (hb:b.length<=1000000) (H:Heap):clD EE (.p (.fn 152)) [vGeom g,q005 fs,.agg [sli a,sli b]] H=some (vI (highA g fs a b),none):=by
 rw [q002 _ _ _ _ _ _ (noP _) fn152]
 have h1:=fun H=>q06k fs a g.sep H ha
 have h2:=fun H=>q06k fs b g.sep H hb
 unfold highA
 simp [zEc,h1,h2]
theorem q0jm (g:Geom) (fs:List Float) (a:List Int) (ha:a.length<=1000000) (H:Heap):clD EE (.p (.fn 153)) [vGeom g,q005 fs,sli a] H=some (vI (q05p g fs a),none):=by
 rw [q002 _ _ _ _ _ _ (noP _) fn153]
 have h1:=fun H=>q06k fs a g.sep H ha
 have e:max 0 (min g.sep 1125899906842624)=min (max g.sep 0) 1125899906842624:=by omega
 unfold q05p
 by_cases c:highQ fs a g.sep=0<;>simp [zEc,h1,c,e]
section
variable (j:Job) (w:okW j)
include w in
theorem q0qz (s:Stt) (H:Heap):clD EE (.p (.fn 154)) [vJob j,vStt s] H=some (vI (highS j s),none):=by
 rw [q002 _ _ _ _ _ _ (noP _) fn154]
 have hr:=fun H=>q025 j w s H
 unfold highS
 simp only [vJob,cGeom,Zd,Zf] at hr⊢
 cases c:q01g j s with
 |false=>
  rw [c] at hr
  simp [zEc,hr]
 |true=>
  rw [c] at hr
  by_cases h:s.col<j.g.cols
  ·simp [zEc,hr,h]
  ·simp [zEc,hr,h]
include w in
theorem q14x (s:Stt) (H:Heap):clD EE (.p (.fn 74)) [vJob j,vStt s] H=some (vC (q120 j s),none):=by
 rw [q002 _ _ _ _ _ _ (noP _) fn74]
 have hr:=fun H=>q025 j w s H
 have ha:=fun H=>q07u j.items j.floats s.at_ w.n1 H
 change∀H,clD EE _ _ H=some (vC (q01i j s.at_),none) at ha
 have re:=fun H=>q15n s.h (q01i j s.at_) H
 unfold q120
 simp only [vJob,cGeom,Zd,Zf] at hr⊢
 cases c:q01g j s with
 |false=>
  rw [c] at hr
  simp [zEc,hr,zeroC]
 |true=>
  rw [c] at hr
  simp [zEc,hr,ha,re]
end
theorem q0r0 (l:List Item) (c:Colm):lastC l c=(decide (c.k=1)&&(decide (c.to=l.length)||mustV l c.to)):=by
 unfold lastC mustV
 cases q02g l c.to with
 |none=>rfl
 |some x=>
  have:decide (0<c.to)=decide (1<=c.to):=by congr 1
  simp only [this]
theorem q0i7 (j:Job) (w:okW j) (hf: ∀x∈j.items,fairI x) (s:Stt) (c:Colm) (c1:c.notes.length<=1000000) (c2:c.top.length<=1000000) (c3:c.bot.length<=1000000) (H:Heap):
  clD EE (.p (.fn 69)) [vJob j,vStt s,vColm c] H=some (vFcts (q02r j s c),none):=by
 rw [q002 _ _ _ _ _ _ (noP _) fn69]
 have r:=fun H=>q025 j w s H
 have sh:=fun H=>q0jw j.notes c.notes j.g.rule w.lines c1 H
 have ah:=fun H=>q0lq j.g j.floats c.top c.bot c2 c3 H
 have as:=fun H=>q0jm j.g j.floats c.top c2 H
 have hi:=fun H=>q0qz j w s H
 have mu:=fun H=>q0n2 j.items c.to H
 have la:=q0r0 j.items c
 have so:=fun H=>q0ti j.items w.n1 hf s.at_ c.to H
 have gs:=fun H=>q0qx (sumT j.items s.at_ c.to) (roomC j s c) (lastC j.items c) H
 unfold q02r
 simp only [vJob,vGeom,cGeom,Zd,Zf] at r ah as hi⊢
 cases b:q01g j s with
 |false=>
  rw [b] at r
  simp [zEc,r,zeroF,zeroG]
 |true=>
  rw [b] at r
  have e:setC j s c=q07f (sumT j.items s.at_ c.to) (roomC j s c) (lastC j.items c):=rfl
  rw [<-e] at gs
  have hr:roomC j s c=IntKind.i64.wrap (IntKind.i64.wrap (highS j s-highP j.notes c.notes j.g.rule)-q05b j c):=rfl
  generalize setC j s c=G at*
  have hfu:fullC j c=(decide (0<c.notes.length)&&decide (j.g.noteMost<highP j.notes c.notes j.g.rule)):=rfl
  have hfl:q05b j c=if c.k=1 then highA j.g j.floats c.top c.bot else if c.k=2 then q05p j.g j.floats c.top else 0:=rfl
  generalize lastC j.items c=L at*
  generalize mustV j.items c.to=M at*
  generalize highA j.g j.floats c.top c.bot=A1 at*
  generalize q05p j.g j.floats c.top=A2 at*
  generalize sumT j.items s.at_ c.to=T at*
  generalize roomC j s c=R at*
  generalize highP j.notes c.notes j.g.rule=hp at*
  generalize highS j s=hs at*
  generalize q05b j c=F at*
  generalize fullC j c=U at*
  have hn:(0:Int)<c.notes.length↔0<c.notes.length:=by omega
  by_cases k1:c.k=1
  ·rw [if_pos k1] at hfl
   subst hfl
   by_cases n0:0<c.notes.length
   ·simp only [n0,decide_true,ZV] at hfu
    by_cases e1:c.to=j.items.length
    ·simp only [k1,e1,decide_true,ZV,Bool.true_or] at la
     subst la
     by_cases q:j.g.noteMost<hp<;>simp only [q,decide_true,decide_false] at hfu<;>subst hfu<;>
      simp [zEc,fldvV,r,sh,ah,hi,<-e1,so,gs,k1,hn,n0,<-hr,q]
    ·simp only [k1,e1,decide_true,decide_false,ZV,Bool.false_or] at la
     subst la
     by_cases q:j.g.noteMost<hp<;>simp only [q,decide_true,decide_false] at hfu<;>subst hfu<;>
      simp [zEc,fldvV,r,sh,ah,hi,e1,mu,so,gs,k1,hn,n0,<-hr,q]
   ·simp only [n0,decide_false,Bool.false_and] at hfu
    subst hfu
    by_cases e1:c.to=j.items.length
    ·simp only [k1,e1,decide_true,ZV,Bool.true_or] at la
     subst la
     simp [zEc,fldvV,r,sh,ah,hi,<-e1,so,gs,k1,hn,n0,<-hr]
    ·simp only [k1,e1,decide_true,decide_false,ZV,Bool.false_or] at la
     subst la
     simp [zEc,fldvV,r,sh,ah,hi,e1,mu,so,gs,k1,hn,n0,<-hr]
  ·rw [if_neg k1] at hfl
   simp only [k1,decide_false,Bool.false_and] at la
   subst la
   by_cases k2:c.k=2
   ·rw [if_pos k2] at hfl
    subst hfl
    by_cases n0:0<c.notes.length
    ·simp only [n0,decide_true,ZV] at hfu
     by_cases q:j.g.noteMost<hp<;>simp only [q,decide_true,decide_false] at hfu<;>subst hfu<;>
      simp [zEc,fldvV,r,sh,as,hi,k1,k2,hn,n0,<-hr,q,zeroG]
    ·simp only [n0,decide_false,Bool.false_and] at hfu
     subst hfu
     simp [zEc,fldvV,r,sh,as,hi,k1,k2,hn,n0,<-hr,zeroG]
   ·rw [if_neg k2] at hfl
    subst hfl
    rw [Int.sub_zero] at hr
    by_cases n0:0<c.notes.length
    ·simp only [n0,decide_true,ZV] at hfu
     by_cases q:j.g.noteMost<hp<;>simp only [q,decide_true,decide_false] at hfu<;>subst hfu<;>
      simp [zEc,fldvV,r,sh,hi,k1,k2,hn,n0,<-hr,q,zeroG]
    ·simp only [n0,decide_false,Bool.false_and] at hfu
     subst hfu
     simp [zEc,fldvV,r,sh,hi,k1,k2,hn,n0,<-hr,zeroG]
theorem q15q (need has:Int) (hh:has<=9223372036854775807) (H:Heap):clD EE (.p (.fn 255)) [vI need,vI has] H=some (vI (quarQ need has),none):=by
 rw [q002 _ _ _ _ _ _ (noP _) fn255]
 unfold quarQ
 by_cases c1:need<1
 ·simp [zEa,c1];rfl
 ·by_cases c2:has<1
  ·simp [zEa,c1,c2]
  ·have hz: ¬has=0:=by omega
   by_cases c3:need<=7230584
   ·have e:297*need=need*297:=Int.mul_comm _ _
    unfold W64
    by_cases g:1290<IntKind.i64.wrap ((IntKind.i64.wrap (need*297)).tdiv has)
    ·have m:min (IntKind.i64.wrap ((IntKind.i64.wrap (need*297)).tdiv has)) 1291=1291:=by omega
     simp [zEa,c1,c2,c3,hz,e,g,m]
    ·have m:min (IntKind.i64.wrap ((IntKind.i64.wrap (need*297)).tdiv has)) 1291=IntKind.i64.wrap ((IntKind.i64.wrap (need*297)).tdiv has):=by omega
     simp [zEa,c1,c2,c3,hz,e,g,m]
   ·by_cases c4:1663497<=has
    ·have b1:1<=has.tdiv 297:=by rw [Int.tdiv_eq_ediv_of_nonneg (by omega)];omega
     have b2:has.tdiv 297<=9223372036854775807:=by rw [Int.tdiv_eq_ediv_of_nonneg (by omega)];omega
     have w:IntKind.i64.wrap (has.tdiv 297)=has.tdiv 297:=w64 (by omega) (by omega)
     have z: ¬has.tdiv 297=0:=by omega
     unfold W64
     rw [w]
     by_cases g:1290<IntKind.i64.wrap (need.tdiv (has.tdiv 297))
     ·have m:min (IntKind.i64.wrap (need.tdiv (has.tdiv 297))) 1291=1291:=by omega
      simp [zEa,c1,c2,c3,c4,z,w,g,m]
     ·have m:min (IntKind.i64.wrap (need.tdiv (has.tdiv 297))) 1291=IntKind.i64.wrap (need.tdiv (has.tdiv 297)):=by omega
      simp [zEa,c1,c2,c3,c4,z,w,g,m]
    ·have g:1290<need:=by omega
     have m:min need 1291=1291:=by omega
     simp [zEa,c1,c2,c3,c4,g,m]
theorem q15r (r:Int) (H:Heap):clD EE (.p (.fn 254)) [vI r] H=some (vI (cubeQ r),none):=by
 rw [q002 _ _ _ _ _ _ (noP _) fn254]
 unfold cubeQ
 by_cases c1:1290<r
 ·simp [zEa,c1]
 ·by_cases c2:r<1
  ·simp [zEa,c1,c2]
  ·have m1:1<=r*r:=by have:=Int.mul_le_mul (show (1:Int)<=r by omega) (show (1:Int)<=r by omega) (by omega) (by omega);omega
   have m2:r*r<=1664100:=by have:=Int.mul_le_mul (show r<=1290 by omega) (show r<=1290 by omega) (by omega) (by omega);omega
   have m3:1<=r*r*r:=by have:=Int.mul_le_mul m1 (show (1:Int)<=r by omega) (by omega) (by omega);omega
   have m4:r*r*r<=2146689000:=by have:=Int.mul_le_mul m2 (show r<=1290 by omega) (by omega) (by omega);omega
   have w1:IntKind.i64.wrap (r*r)=r*r:=w64 (by omega) (by omega)
   have w2:IntKind.i64.wrap (r*r*r)=r*r*r:=w64 (by omega) (by omega)
   have w3:IntKind.i64.wrap (r*r*r+131072)=r*r*r+131072:=w64 (by omega) (by omega)
   have td:(r*r*r+131072).tdiv 262144=(r*r*r+131072)/262144:=Int.tdiv_eq_ediv_of_nonneg (by omega)
   have w4:IntKind.i64.wrap ((r*r*r+131072)/262144)=(r*r*r+131072)/262144:=w64 (by omega) (by omega)
   simp [zEa,c1,c2,w1,w2,w3,w4,td]
theorem q14d (need has:Int) (hh:has<=9223372036854775807) (H:Heap):clD EE (.p (.fn 157)) [vI need,vI has] H=some (vI (badQ need has),none):=by
 rw [q002 _ _ _ _ _ _ (noP _) fn157]
 have q:=fun H=>q15q need has hh H
 have c:=fun H=>q15r (quarQ need has) H
 unfold badQ
 simp [zEa,q,c]
theorem q14y (s:Setg) (spare:Int) (last:Bool) (h:s.of_<=9223372036854775807) (H:Heap):clD EE (.p (.fn 70)) [vSet s,vI spare,vB last] H=some (vI (badG s spare last),none):=by
 rw [q002 _ _ _ _ _ _ (noP _) fn70]
 have e:max 0 (min spare 1125899906842624)=min (max spare 0) 1125899906842624:=by omega
 have b1:=fun H=>q14d s.left (min (max spare 0) 1125899906842624) (by omega) H
 have b3:=fun H=>q14d s.by_ s.of_ h H
 have b2:=fun H=>q14d s.by_ (W64 (s.of_+min (max spare 0) 1125899906842624)) (q136 _) H
 unfold badG
 unfold W64 at b2⊢
 by_cases h0:s.how=0
 ·by_cases l0:s.left=0
  ·simp [zEc,h0,l0,e]
  ·cases last<;>simp [zEc,h0,l0,e,b1]
 ·by_cases h1:s.how=1
  ·by_cases o:0<s.ord
   ·cases last<;>simp [zEc,h0,h1,o,e]
   ·cases last<;>simp [zEc,h0,h1,o,e,b2]
  ·by_cases h2:s.how=2
   ·cases last<;>simp [zEc,h0,h1,h2,e,b3]
   ·cases last<;>simp [zEc,h0,h1,h2,e]
def Keep (A:List Nat) (H H':Heap):Prop:=H.length<=H'.length/\ ∀k,k<H.length->k∉A->H'[k]? =H[k]?
def Stay (A:List Nat) (H H':Heap):Prop:=H.length<=H'.length/\ ∀k∈A,H'[k]? =H[k]?
theorem Keep.refl (A:List Nat) (H:Heap):Keep A H H:=⟨Zm _,fun _ _ _=>rfl⟩
theorem Keep.app (A:List Nat) (H T:Heap):Keep A H (H++T):=⟨by simp,fun _ h _=>Zw h⟩
theorem Stay.app (A:List Nat) (H T:Heap) (h: ∀k∈A,k<H.length):Stay A H (H++T):=⟨by simp,fun k hk=>Zw (h k hk)⟩
theorem Keep.set (A:List Nat) (H:Heap) (i:Nat) (o:DObj) (h:i∈A\/H.length<=i):Keep A H (H.set i o):=by
 refine ⟨by simp,fun k hk hA=>Zr ?_⟩
 rintro rfl
 rcases h with h|h
 ·exact hA h
 ·omega
theorem Stay.set (A:List Nat) (H:Heap) (i:Nat) (o:DObj) (h:i∉A):Stay A H (H.set i o):=⟨by simp,fun k hk=>Zr (by rintro rfl;exact h hk)⟩
theorem Stay.trans {A:List Nat} {H K L:Heap} (h:Stay A H K) (g:Stay A K L):Stay A H L:=⟨Nat.le_trans h.1 g.1,fun k hk=>(g.2 k hk).trans (h.2 k hk)⟩
theorem Keep.trans {A B:List Nat} {H K L:Heap} (h:Keep A H K) (g:Keep B K L) (hB: ∀k∈B,k∈A\/H.length<=k):Keep A H L:=by
 refine ⟨Nat.le_trans h.1 g.1,fun k hk hA=> ?_⟩
 rw [g.2 k (by have:=h.1;omega) ?_,h.2 k hk hA]
 intro hb
 rcases hB k hb with h|h
 ·exact hA h
 ·omega
theorem Keep.row {A:List Nat} {H K:Heap} (h:Keep A H K) {id s:Nat} {es:List (List V)} (hr:Eng.rowAt H id=some (s,es)) (hA:id∉A):Eng.rowAt K id=some (s,es):=by
 unfold Eng.rowAt at*
 rw [h.2 id (q09d (H:=H) (by unfold Eng.rowAt;exact hr)) hA];exact hr
theorem Keep.box {A:List Nat} {H K:Heap} (h:Keep A H K) {id:Nat} {cs:List V} (hr:Eng.boxAt H id=some cs) (hA:id∉A):Eng.boxAt K id=some cs:=by
 have hl:=q02y hr
 unfold Eng.boxAt at*
 rw [h.2 id hl hA];exact hr
theorem Stay.row {A:List Nat} {H K:Heap} (h:Stay A H K) {id s:Nat} {es:List (List V)} (hr:Eng.rowAt H id=some (s,es)) (hA:id∈A):Eng.rowAt K id=some (s,es):=by
 unfold Eng.rowAt at*
 rw [h.2 id hA];exact hr
theorem Stay.box {A:List Nat} {H K:Heap} (h:Stay A H K) {id:Nat} {cs:List V} (hr:Eng.boxAt H id=some cs) (hA:id∈A):Eng.boxAt K id=some cs:=by
 unfold Eng.boxAt at*
 rw [h.2 id hA];exact hr
structure Eats {α:Type} (rep:α->V->Heap->List Nat->Prop) (q:Nat) (L:List α) (R:Nat->List Nat->Heap->Prop) (F:List Nat->Heap->Prop):Prop where
 stay: ∀i A H H',R i A H->Stay A H H'->R i A H'
 bel: ∀i A H,R i A H-> ∀k∈A,k<H.length
 step: ∀i A H x v B,L[i]? =some x->R i A H->rep x v H B->(∀k∈B,k∉A/\q<k)->
  ∃b H' ds A',clD EE (.yld q) [v] H=some (vB b,some (H',ds))/\q∈ds/\Keep A H H'/\(∀k∈ds,k∈A\/H.length<=k)/\(∀k∈A',k∈A\/k∈B\/H.length<=k)/\
   (b=true->R (i+1) A' H')/\(b=false->F A' H')
def Gave {α:Type} (L:List α) (R:Nat->List Nat->Heap->Prop) (F:List Nat->Heap->Prop) (A:List Nat) (H:Heap) (r:Option (Heap×List Nat)):Prop:=
 ∃A',Keep A H (hpOf H r)/\(∀k∈dsOf r,k∈A\/H.length<=k)/\(∀k∈A',k∈A\/H.length<=k)/\(R L.length A' (hpOf H r)\/F A' (hpOf H r))
theorem q0vo {α:Type} {E:Env} {ks kl:List Nat} {c:IC} (L:List α) (R:Nat->St->Prop) (F:Ex×St->Prop)
  (hk: ∀i S,R i S->S.keep ks kl=S)
  (hstep: ∀i x S,R i S->L[i]? =some x->(∃S',evD E c S=some (.normal,S')/\R (i+1) S')\/ ∃r,evD E c S=some r/\r.1≠ .normal/\F r)
  (hend: ∀S,R L.length S-> ∃r,evD E c S=some r/\r.1≠ .normal/\F r):
  ∀(n i:Nat) S,L.length-i=n->R i S->i<=L.length-> ∃r,evD E (.loop ks kl c) S=some r/\F r:=by
 have stop: ∀S i,R i S->(∃r,evD E c S=some r/\r.1≠ .normal/\F r)-> ∃r,evD E (.loop ks kl c) S=some r/\F r:=by
  rintro S i hR ⟨⟨x,S'⟩,h1,h2,h3⟩
  refine ⟨(x,S'),?_,h3⟩
  rw [q003,hk _ _ hR,h1]
  cases x with
  |normal=>exact absurd rfl h2
  |_=>rfl
 intro n
 induction n with
 |zero=>
  intro i S hn hR hi
  have e:i=L.length:=by omega
  subst e
  exact stop S _ hR (hend S hR)
 |succ n ih=>
  intro i S hn hR hi
  have hlt:i<L.length:=by omega
  rcases hstep i _ S hR (Zl hlt) with ⟨S',h1,h2⟩|h
  ·rw [q003,hk _ _ hR,h1,q061]
   exact ih (i+1) S' (by omega) h2 hlt
  ·exact stop S _ hR h
def exSt:LSt->Ex
 | .done x=>x
 |_=> .normal
theorem q0n9 {env:List (Nat×V)} {loc:List (Nat×List V)} {hp:Heap} {base:Nat} {dirty:List Nat} {x:Arg} {ps:List Nat} {a b:IC} {it:V} (hv:(∃f,it= .p (.fn f))\/ ∃f u v,it= .fn (.func f) u v)
  (hx:St.arg ⟨env,loc,hp,base,dirty⟩ x=it) {r:Option (Heap×List Nat)} (h:clD EE it [.yld hp.length] (hp++[DObj.loop .ready (outE env) ps a b])=some (.tup [],r))
  {st:LSt} {e:List (Nat×V)} {ps':List Nat} {a' b':IC} (hq:(hpOf (hp++[DObj.loop .ready (outE env) ps a b]) r)[hp.length]? =some (.loop st e ps' a' b')) (hst:st≠ .busy):
  evD EE (.rangeFunc x ps a b) ⟨env,loc,hp,base,dirty⟩=some (exSt st,⟨env,loc,(hpOf (hp++[DObj.loop .ready (outE env) ps a b]) r).set hp.length .dead,base,(dsOf r).foldr (addD base) dirty⟩):=by
 have key:q03a ⟨env,loc,hp,base,dirty⟩ (some (.tup [],r))=some (exSt st,⟨env,loc,(hpOf (hp++[DObj.loop .ready (outE env) ps a b]) r).set hp.length .dead,base,(dsOf r).foldr (addD base) dirty⟩):=by
  cases r with
  |none=>
   simp only [hpOf,dsOf] at hq⊢
   simp at hq
   obtain ⟨rfl,-⟩:=hq
   simp [exSt]
  |some r=>
   obtain ⟨H,ds⟩:=r
   simp only [hpOf,dsOf] at hq⊢
   rw [q0k4,hq]
   cases st with
   |ready=>rfl
   |busy=>exact absurd rfl hst
   |done x=>rfl
 rw [q0k3,hx]
 rcases hv with ⟨f,rfl⟩|⟨f,u,v,rfl⟩
 ·rw [q0q8,h];exact key
 ·rw [q0s4,h];exact key
theorem q0e5 {q:Nat} {H:Heap} {env:List (Nat×V)} {ps:List Nat} {a b:IC} (h:H[q]? =some (.loop .ready env ps a b)) {args:List V} (hl:args.length=ps.length) {env1:List (Nat×V)} {loc1:List (Nat×List V)}
  (ha:evD EE a ⟨bindE env ps args,[],H,H.length,[]⟩=some (.normal,⟨env1,loc1,H,H.length,[]⟩)) {x:Ex} {env2:List (Nat×V)} {loc2:List (Nat×List V)} {H2:Heap} {d2:List Nat}
  (hb:evD EE b ⟨env1,loc1,H.set q (.loop .busy env ps a b),H.length,[q]⟩=some (x,⟨env2,loc2,H2,H.length,d2⟩)) (hs:H2[q]? =some (.loop .busy env ps a b)):
  clD EE (.yld q) args H=some (vB (decide (x= .normal)),some (H2.set q (.loop (if x= .normal then .ready else .done x) env ps a b),d2)):=by
 have hq:q<H.length:=(Za.1 h).1
 have hd:addD H.length q []=[q]:=by unfold addD;rw [if_pos hq]
 rw [q0zm,h,q0k5,if_pos hl,ha,q0je,h,q0k6,hd,hb,q0k7,hs,q0nj]
theorem q0bt {B:Nat}: ∀ {ds d:List Nat},(∀k∈ds,B<=k)->ds.foldr (addD B) d=d
 |[],_,_=>rfl
 |x::ds,d,h=>by
  rw [List.foldr_cons,q0bt fun k hk=>h k (by simp [hk])]
  unfold addD
  rw [if_neg (by have:=h x (by simp);omega)]
theorem q0vp (E:Env) (f:FuncId) (s:Nat) (z:List V) (H:Heap) (id:Nat) (es:List (List V)) (hp:E.prims f=none) (hf:E.fns f=some (q05m s z)) (hr:Eng.rowAt H id=some (s,es)) (hn:es≠[]) (hs:es.all (okEl s)=true) (hm:es.length<most):
  clD E (.p (.fn f)) [.row id es.length 0 es.length] H=some (.row H.length es.length 0 es.length,some (H++[.row s es],[])):=by
 have hh:q05c [.row id es.length 0 es.length]=false:=by cases es with|nil=>exact absurd rfl hn|cons e r=>rfl
 rw [q0k1 E f _ _ _ H hp hf hh]
 have h0:(0:Nat)<most:=by unfold most;omega
 have he:elems H (.row id es.length 0 es.length)=some es:=by simp [elems,hr]
 cases es with
 |nil=>exact absurd rfl hn
 |cons e r=>
  simp only [Zg] at he hm⊢
  simp [-List.all_eq_true,zEa,he,hs,hm,h0]
end Go.EnvOf
namespace Go.EnvOf
open Go Go.Eng
theorem q10k {p:Int->Bool}: ∀(n:Nat) (a:Int),∀x∈sel p a n,a<=x/\x<a+n/\p x=true
 |0,_,x,h=>by simp [sel] at h
 |n+1,a,x,h=>by
  simp only [sel,ZY] at h
  rcases h with h|h
  ·split at h
   ·simp at h;subst h;exact ⟨ZS _,by omega,by assumption⟩
   ·cases h
  ·have:=q10k n (a+1) x h
   exact ⟨by omega,by omega,this.2.2⟩
end Go.EnvOf
namespace Go.EnvOf
open Go Go.Eng
theorem q0pu {L M:List Int} (h:q01o L M=false):1<=L.length/\L.length<=64/\ ∀x∈L,1<=x/\x<=1073741823:=by
 unfold q01o q03x bad at h
 simp at h
 obtain ⟨⟨⟨⟨h1,h2⟩,h3⟩,h4⟩,h5⟩:=h
 exact ⟨by omega,by omega,fun x hx=>h4 x hx⟩
def openN (l:List Note) (s:Spot):Nat:=if s.note<0\/s.line<0 then 0 else (max (max (min s.begun l.length) 0-s.note) 0).toNat
def q01j (l:List Note):Nat->Int->Int->List Piece
 |0,_,_=>[]
 |k+1,a,line=>⟨a,line,(rd l a).lines.length⟩::q01j l k (a+1) 0
def q01k (x:Note) (frm:Int):List Int:=sel (q02f x.lines x.pens frm) 0 (x.lines.length+1)
def lastP (s:Spot) (n:Nat):Int:=s.note+n-1
def fromP (s:Spot) (n:Nat):Int:=if n=1 then s.line else 0
def oneP (l:List Note) (s:Spot) (n:Nat) (t:Int):List Piece:=q01j l (n-1) s.note s.line++[⟨lastP s n,fromP s n,t⟩]
def q00j (l:List Note) (s:Spot):List (List Piece):=
 (if openN l s=0\/s.fresh=false then [[]] else [])++
 if openN l s=0 then [] else (q01k (rd l (lastP s (openN l s))) (fromP s (openN l s))).map (oneP l s (openN l s))
def q05q (l:List Note) (s:Spot):List Piece:=(q00j l s).headD []
def mayPc (l:List Note) (s:Spot) (p:List Piece):Bool:=(q00j l s).any fun q=>decide (q=p)
def q02h (s:Spot):Spot:=⟨s.note,s.line,s.begun,true⟩
theorem q08w {l:List Note} {s:Spot} (hb:s.begun<=l.length) (hn:0<=s.note) (hl:0<=s.line):openN l s=(s.begun-s.note).toNat:=by
 unfold openN;rw [if_neg (by omega)];omega
theorem q0pv {s:Spot} (h:s.note<s.begun):lastP s (s.begun-s.note).toNat=s.begun-1:=by unfold lastP;omega
theorem q0Cu {s:Spot}:fromP s (s.begun-s.note).toNat=if s.note+1=s.begun then s.line else 0:=by
 unfold fromP
 by_cases d:s.note+1=s.begun
 ·rw [if_pos d,if_pos (by omega)]
 ·rw [if_neg d,if_neg (by omega)]
theorem q0Yk {l:List Note} {s:Spot} {p:List Piece} (hb:s.begun<=l.length) (hn:0<=s.note) (hl:0<=s.line) (h:p∈q00j l s):
  (p=[]/\(s.begun<=s.note\/s.fresh=false))\/
  (s.note<s.begun/\ ∃q t,p=q++[⟨s.begun-1,if s.note+1=s.begun then s.line else 0,t⟩]/\(if s.note+1=s.begun then s.line else 0)<t/\t<=(rd l (s.begun-1)).lines.length/\mayF (rd l (s.begun-1)).lines (rd l (s.begun-1)).pens t=true):=by
 unfold q00j at h
 rw [q08w hb hn hl] at h
 rcases ZY.1 h with h|h
 ·by_cases c:(s.begun-s.note).toNat=0\/s.fresh=false
  ·rw [if_pos c] at h
   refine .inl ⟨by simpa using h,?_⟩
   rcases c with c|c
   ·exact .inl (by omega)
   ·exact .inr c
  ·rw [if_neg c] at h;simp at h
 ·by_cases c:(s.begun-s.note).toNat=0
  ·rw [if_pos c] at h;simp at h
  ·rw [if_neg c] at h
   have hlt:s.note<s.begun:=by omega
   obtain ⟨t,ht,rfl⟩:=ZJ.1 h
   rw [q0pv hlt,q0Cu] at ht
   have:=q10k _ _ t ht
   unfold q02f at this
   simp only [Zb,decide_eq_true_eq] at this
   refine .inr ⟨hlt,q01j l ((s.begun-s.note).toNat-1) s.note s.line,t,?_,this.2.2.1,by omega,this.2.2.2⟩
   unfold oneP
   rw [q0pv hlt,q0Cu]
theorem q0Ye (l:List Note) (s:Spot):nextF l s []=(s.note,s.line):=rfl
theorem q102 (l:List Note) (s:Spot) (q:List Piece) (x:Piece):nextF l s (q++[x])=nextP l x:=by unfold nextF;simp
theorem q0ja (l:List Note) (s:Spot) (p:List Piece):mayPc l s p=true↔p∈q00j l s:=by
 unfold mayPc
 rw [List.any_eq_true]
 constructor
 ·rintro ⟨q,h,e⟩
  have:q=p:=by simpa using e
  exact this▸h
 ·intro h;exact ⟨p,h,by simp⟩
theorem q0Y0 (l:List Note) (n:Int) (h0:0<=n) (h1:n<l.length):lineN (l.take (n+1).toNat)=lineN (l.take n.toNat)+(rd l n).lines.length:=by
 have e:(n+1).toNat=n.toNat+1:=by omega
 rw [e,q03n (q026 l n h0 h1),q0Ys]
theorem q0Yt (l:List Note) (a:Nat): ∀k:Nat,lineN (l.take a)<=lineN (l.take (a+k))
 |0=>ZS _
 |k+1=>by
  have ih:=q0Yt l a k
  rcases Z2 (a+k) l.length with h|h
  ·have:=q03n (Zl h)
   rw [<-Z3,this,q0Ys];omega
  ·rw [Zy (show l.length<=a+(k+1) by omega)]
   rw [Zy h] at ih
   exact ih
theorem q0Yb (l:List Note) {a b:Int} (h:a<=b):lineN (l.take a.toNat)<=lineN (l.take b.toNat):=by
 have:=q0Yt l a.toNat (b.toNat-a.toNat)
 rw [show a.toNat+(b.toNat-a.toNat)=b.toNat by omega] at this
 exact this
def progN (l:List Note) (note line:Int):Int:=lineN (l.take note.toNat)+line
theorem q0Z6 (l:List Item) (a:Nat):l.take (trimN l a)=l.take a++(l.drop a).takeWhile q04c:=by
 unfold trimN
 rw [List.take_add,q0Yv]
theorem q0Zs {x:Item} (h:q04c x=true):x.k=2\/x.k=3:=by simpa [q04c] using h
theorem q0Yf (l:List Item) (n:Int):putN l (trimF l n)=trimN l (putN l n):=q0Ce (q0Zi l n)
theorem q103 (l r:List Item):q01a (l++r)=q01a l+cnt 5 r:=by
 unfold q01a cnt
 simp [List.filter_append]
theorem q104 (j:Job) (n:Int):q00z j (trimF j.items n)=q00z j n:=by
 unfold q00z
 rw [q0Yf,q0Z6,q103,q10x]
 ·simp
 ·intro x hx
  have:=q0Zs (q0Y4 hx)
  omega
theorem q0Yl (fs:List Float): ∀(r:List Item) (c:C3),(∀x∈r,x.k≠6)->r.foldl (addAt fs) c=c
 |[],_,_=>rfl
 |x::r,c,h=>by
  have h1:addAt fs c x=c:=by unfold addAt;rw [if_neg (h x (by simp))]
  simp only [ZT,h1]
  exact q0Yl fs r c fun y hy=>h y (by simp [hy])
theorem q0Yu (fs:List Float) (l r:List Item):q00n fs (l++r)=r.foldl (addAt fs) (q00n fs l):=by simp [q00n]
theorem q105 (j:Job) (n:Int):q01i j (trimF j.items n)=q01i j n:=by
 unfold q01i
 rw [q0Yf,q0Z6,q0Yu,q0Yl]
 intro x hx
 have:=q0Zs (q0Y4 hx)
 omega
theorem q0Z7 (l:List Item) {a b:Int} (h:a<=b):putN l a<=putN l b:=by unfold putN;omega
theorem q106 (j:Job) {a b:Int} (h:a<=b):q00z j a<=q00z j b:=by
 unfold q00z q01a
 have:=q0d8 5 (j.items.take (putN j.items b)) (putN j.items a)
 rw [List.take_take,Nat.min_eq_left (q0Z7 j.items h)] at this
 omega
def leC (x y:C3):Prop:=x.a<=y.a/\x.b<=y.b/\x.c<=y.c
theorem q0pw (x y:C3):inC x y=true↔leC x y:=by unfold inC leC;simp only [Zb,decide_eq_true_eq,and_assoc]
theorem q0e6 (x:C3):leC x x:=⟨ZS _,ZS _,ZS _⟩
theorem q0bu {x y z:C3} (h:leC x y) (g:leC y z):leC x z:=⟨Int.le_trans h.1 g.1,Int.le_trans h.2.1 g.2.1,Int.le_trans h.2.2 g.2.2⟩
theorem q0na (fs:List Float) (c:C3) (x:Item):leC c (addAt fs c x):=by
 unfold addAt ofS bump leC
 (repeat' split)<;>(try simp only)<;>omega
theorem q0vq (fs:List Float) (l:List Item):leC (dueP fs l) (q00n fs l):=by
 have key: ∀n,n<=l.length->leC (dueP fs (l.take n)) (q00n fs (l.take n)):=by
  intro n
  induction n with
  |zero=>intro _;rw [List.take_zero];exact q0e6 _
  |succ n ih=>
   intro h
   rw [q03n (Zl (show n<l.length by omega)),q0bo,q0db]
   split
   ·exact q0na _ _ _
   ·exact q0bu (ih (by omega)) (q0na _ _ _)
 have:=key l.length (Zm _)
 rwa [List.take_length] at this
def cF (fs:List Float) (n:Nat):C3:=⟨(figOf 0 0 (fs.take n)).length,(figOf 1 0 (fs.take n)).length,(figOf 2 0 (fs.take n)).length⟩
theorem q0bv (c:Int): ∀(a b:List Float) (i:Nat),figOf c i (a++b)=figOf c i a++figOf c (i+a.length) b
 |[],b,i=>by simp [figOf]
 |x::a,b,i=>by
  simp only [Zd,figOf,q0bv c a b (i+1),Zg,Zx]
  rw [show i+1+a.length=i+(a.length+1) by omega]
theorem q0Cv (fs:List Float) (n:Nat) (f:Float) (h:fs[n]? =some f):cF fs (n+1)=bump (cF fs n) f.c:=by
 unfold cF bump
 rw [q03n h]
 simp only [q0bv,figOf,Zt,List.append_nil]
 by_cases c0:f.c=0
 ·simp [c0]
 ·by_cases c1:f.c=1
  ·simp [c1]
  ·by_cases c2:f.c=2
   ·simp [c2]
   ·simp [c0,c1,c2]
theorem q0ci (fs:List Float) (m:Nat) (hm:m<=fs.length): ∀(l:List Item) (i n:Nat),n<=m->refF 6 m i n l<0->l.foldl (addAt fs) (cF fs n)=cF fs m
 |[],i,n,hn,h=>by
  simp only [refF] at h
  by_cases c:n<m
  ·rw [if_pos c] at h;omega
  ·have:n=m:=by omega
   subst this;rfl
 |x::r,i,n,hn,h=>by
  simp only [refF] at h
  simp only [ZT]
  by_cases hk:x.k=6
  ·rw [if_pos hk] at h
   by_cases hx:x.n=n/\n<m
   ·rw [if_pos hx] at h
    have hf:fs[n]? =some (fs[n]'(by omega)):=Zl (by omega)
    have e:addAt fs (cF fs n) x=cF fs (n+1):=by
     rw [q0Cv fs n _ hf]
     unfold addAt ofS
     rw [if_pos hk,hx.1]
     have ha:atF fs (n:Int)=some (fs[n]'(by omega)):=by
      unfold atF
      rw [if_pos ⟨by omega,by omega⟩,rd_of hf]
     rw [ha]
    rw [e]
    exact q0ci fs m hm r (i+1) (n+1) (by omega) h
   ·rw [if_neg hx] at h;omega
  ·rw [if_neg hk] at h
   have e:addAt fs (cF fs n) x=cF fs n:=by unfold addAt;rw [if_neg hk]
   rw [e]
   exact q0ci fs m hm r (i+1) n hn h
theorem q06g (c:Int) (fs:List Float) (n:Nat):(figOf c 0 (fs.take n)).length<=(figOf c 0 fs).length:=by
 conv=>rhs;rw [<-List.take_append_drop n fs,q0bv,Zt]
 omega
def allC (fs:List Float):C3:=⟨(figOf 0 0 fs).length,(figOf 1 0 fs).length,(figOf 2 0 fs).length⟩
theorem cF_le (fs:List Float) (n:Nat):leC (cF fs n) (allC fs):=by
 have a:=q06g 0 fs n
 have b:=q06g 1 fs n
 have c:=q06g 2 fs n
 unfold leC cF allC
 simp only
 omega
theorem q0jb {j:Job} (h:refF 6 j.floats.length 0 0 j.items<0) (n:Int):leC (q01i j n) (allC j.floats):=by
 unfold q01i
 have h1:=q0bm 6 j.floats.length j.items 0 0 (putN j.items n) h
 have h2:=q07c 6 j.floats.length j.items 0 0 (Zj _) h
 have h3:=q0d8 6 j.items (putN j.items n)
 rw [Zs] at h1
 have:=q0ci j.floats (cnt 6 (j.items.take (putN j.items n))) (by omega) _ 0 0 (Zj _) h1
 have e:cF j.floats 0=⟨0,0,0⟩:=rfl
 rw [e] at this
 unfold q00n
 rw [this]
 exact cF_le _ _
theorem q0od (j:Job) (s:Stt):q03q j s=true↔(s.line=0/\s.note=q00z j s.at_)\/
  (1<=s.line/\s.note=q00z j s.at_-1/\0<=s.note/\s.line<(rd j.notes s.note).lines.length/\mayF (rd j.notes s.note).lines (rd j.notes s.note).pens s.line=true):=by
 unfold q03q
 by_cases h:s.line=0
 ·rw [if_pos h,decide_eq_true_eq]
  constructor
  ·intro e;exact .inl ⟨h,e⟩
  ·rintro (e|e)
   ·exact e.2
   ·omega
 ·rw [if_neg h]
  by_cases g:s.note≠q00z j s.at_-1\/s.note<0\/s.line<1
  ·rw [if_pos g]
   constructor
   ·intro e;cases e
   ·rintro (e|e)<;>omega
  ·rw [if_neg g]
   simp only [Zb,decide_eq_true_eq]
   constructor
   ·rintro ⟨a,b⟩;exact .inr ⟨by omega,by omega,by omega,a,b⟩
   ·rintro (e|⟨_,_,_,a,b⟩)
    ·omega
    ·exact ⟨a,b⟩
structure rightP (j:Job) (s:Stt):Prop where
 at0:0<=s.at_
 at1:s.at_<=j.items.length
 trim:(trimF j.items s.at_:Int)=s.at_
 col0:0<=s.col
 col1:s.col<=j.g.cols
 car:q03q j s=true
 h0:leC zeroC s.h
 h1:leC s.h (q01i j s.at_)
theorem q02k (j:Job) (s:Stt):q01g j s=true↔rightP j s:=by
 unfold q01g
 by_cases g:s.at_<0\/(j.items.length:Int)<s.at_\/(trimF j.items s.at_:Int)≠s.at_\/s.col<0\/j.g.cols<s.col
 ·rw [if_pos g]
  constructor
  ·intro e;cases e
  ·rintro ⟨a,b,c,d,e,-,-,-⟩;omega
 ·rw [if_neg g]
  simp only [Zb,q0pw]
  constructor
  ·rintro ⟨⟨a,b⟩,c⟩;exact ⟨by omega,by omega,by omega,by omega,by omega,a,b,c⟩
  ·intro h;exact ⟨⟨h.car,h.h0⟩,h.h1⟩
structure wfJ (j:Job):Prop where
 w:okW j
 notes: ∀n∈j.notes,1<=n.lines.length
 five:q01a j.items=j.notes.length
 six:refF 6 j.floats.length 0 0 j.items<0
 fl: ∀f∈j.floats,(0<=f.c/\f.c<=2)/\0<=f.h/\f.h<=j.g.first
 hi0:0<=j.g.first
 high:j.g.first<=j.g.high/\j.g.high<=4294967296
 sep:0<=j.g.sep/\j.g.sep<=4294967296
 many:0<=j.g.topMany/\0<=j.g.botMany/\0<=j.g.topMost/\0<=j.g.botMost
 cols:1<=j.g.cols
theorem q09w {j:Job} (w:wfJ j) {s:Stt} (r:rightP j s):0<=s.note/\0<=s.line/\s.note<=j.notes.length/\(s.line≠0->s.note<j.notes.length/\s.line<(rd j.notes s.note).lines.length):=by
 have b:=q0bq j s.at_
 have b2:=q03o w.w s.at_
 rcases (q0od j s).1 r.car with ⟨h1,h2⟩|⟨h1,h2,h3,h4,-⟩
 ·refine ⟨by omega,by omega,by omega,fun h=>absurd h1 h⟩
 ·exact ⟨by omega,by omega,by omega,fun _=>⟨by omega,h4⟩⟩
theorem q10l {j:Job} (w:wfJ j) {s:Stt} (r:rightP j s) {b:Int} {fr:Bool} {p:List Piece} (hb:q00z j s.at_<=b) (hb2:b<=j.notes.length) (hf:fr=false->b<=q00z j s.at_)
  (hp:p∈q00j j.notes ⟨s.note,s.line,b,fr⟩):
  (((nextF j.notes ⟨s.note,s.line,b,fr⟩ p).2=0/\(nextF j.notes ⟨s.note,s.line,b,fr⟩ p).1=b)\/
    (1<=(nextF j.notes ⟨s.note,s.line,b,fr⟩ p).2/\(nextF j.notes ⟨s.note,s.line,b,fr⟩ p).1=b-1/\0<=(nextF j.notes ⟨s.note,s.line,b,fr⟩ p).1/\
     (nextF j.notes ⟨s.note,s.line,b,fr⟩ p).2<(rd j.notes (nextF j.notes ⟨s.note,s.line,b,fr⟩ p).1).lines.length/\mayF (rd j.notes (nextF j.notes ⟨s.note,s.line,b,fr⟩ p).1).lines (rd j.notes (nextF j.notes ⟨s.note,s.line,b,fr⟩ p).1).pens (nextF j.notes ⟨s.note,s.line,b,fr⟩ p).2=true))/\
  progN j.notes s.note s.line<=progN j.notes (nextF j.notes ⟨s.note,s.line,b,fr⟩ p).1 (nextF j.notes ⟨s.note,s.line,b,fr⟩ p).2/\
  (p≠[]->progN j.notes s.note s.line<progN j.notes (nextF j.notes ⟨s.note,s.line,b,fr⟩ p).1 (nextF j.notes ⟨s.note,s.line,b,fr⟩ p).2):=by
 obtain ⟨n0,l0,n1,n2⟩:=q09w w r
 rcases q0Yk (s:=⟨s.note,s.line,b,fr⟩) hb2 n0 l0 hp with ⟨rfl,h⟩|⟨h,q,t,rfl,ht,ht2,hm⟩
 ·rw [q0Ye]
  simp only at h⊢
  refine ⟨?_,ZS _,fun h=>absurd rfl h⟩
  have hbb:b<=s.note\/b<=q00z j s.at_:=h.imp id hf
  rcases (q0od j s).1 r.car with ⟨h1,h2⟩|⟨h1,h2,h3,h4,h5⟩
  ·exact .inl ⟨h1,by omega⟩
  ·exact .inr ⟨h1,by omega,h3,h4,h5⟩
 ·rw [q102]
  simp only at h ht ht2 hm⊢
  have hpr:progN j.notes s.note s.line<lineN (j.notes.take (b-1).toNat)+t:=by
   unfold progN
   by_cases d:s.note+1=b
   ·rw [if_pos d] at ht
    have e:b-1=s.note:=by omega
    rw [e];omega
   ·rw [if_neg d] at ht
    have h1:=q0Y0 j.notes s.note n0 (by omega)
    have h2:=q0Yb j.notes (show s.note+1<=b-1 by omega)
    have h3:s.line<=(rd j.notes s.note).lines.length:=by
     by_cases z:s.line=0
     ·omega
     ·have:=(n2 z).2;omega
    omega
  have ht0:0<t:=by
   by_cases d:s.note+1=b
   ·rw [if_pos d] at ht;omega
   ·rw [if_neg d] at ht;exact ht
  unfold nextP
  by_cases c:0<=b-1/\b-1<j.notes.length/\t=(rd j.notes (b-1)).lines.length
  ·rw [if_pos c]
   have e:=q0Y0 j.notes (b-1) c.1 c.2.1
   rw [show b-1+1=b by omega] at e⊢
   have:progN j.notes s.note s.line<progN j.notes b 0:=by
    have hx:progN j.notes b 0=lineN (j.notes.take b.toNat)+0:=rfl
    rw [hx,e];omega
   exact ⟨.inl ⟨rfl,rfl⟩,by simp only;omega,fun _=>this⟩
  ·rw [if_neg c]
   simp only
   exact ⟨.inr ⟨by omega,trivial,by omega,by omega,hm⟩,by unfold progN at*;omega,fun _=>hpr⟩
end Go.EnvOf
namespace Go.EnvOf
open Go Go.Eng
set_option maxRecDepth 100000
def sameC (a b:Colm):Bool:=decide (a.k=b.k)&&decide (a.frm=b.frm)&&decide (a.to=b.to)&&decide (a.notes=b.notes)&&decide (a.top=b.top)&&decide (a.bot=b.bot)
theorem q0Xm (a b:Colm) (h1:a.notes.length<=1000000) (h2:a.top.length<=9223372036854775807) (h3:a.bot.length<=9223372036854775807) (H:Heap):clD EE (.p (.fn 91)) [vColm a,vColm b] H=some (vB (sameC a b),none):=by
 rw [q002 _ _ _ _ _ _ (noP _) fn91]
 have s:=fun H=>q0bn a.notes b.notes h1 H
 have t:=fun H=>q0Wb a.top b.top H h2
 have u:=fun H=>q0Wb a.bot b.bot H h3
 unfold sameC
 by_cases c1:a.k=b.k
 ·by_cases c2:a.frm=b.frm
  ·by_cases c3:a.to=b.to
   ·by_cases c4:a.notes=b.notes
    ·by_cases c5:a.top=b.top
     ·simp only [c4,c5] at s t;simp [zEc,s,t,u,c1,c2,c3,c4,c5]
     ·simp only [c4] at s;simp [zEc,s,t,c1,c2,c3,c4,c5]
    ·simp [zEc,s,c1,c2,c3,c4]
   ·simp [zEc,c1,c2,c3]
  ·simp [zEc,c1,c2]
 ·simp [zEc,c1]
theorem q0vn (a b:Colm) (h1:a.notes.length<=1000000) (h2:a.top.length<=1000000) (h3:a.bot.length<=1000000) (H:Heap):clD EE (.p (.fn 91)) [vColm a,vColm b] H=some (vB (sameC a b),none):=q0Xm a b h1 (by omega) (by omega) H
def q03i (j:Job) (s:Stt) (n:C3):Option Colm:=
 if s.h.a<n.a then some ⟨2,s.at_,s.at_,[],takeL j.floats s.h ⟨1,0,0⟩,[]⟩
 else if s.h.b<n.b then some ⟨2,s.at_,s.at_,[],takeL j.floats s.h ⟨0,1,0⟩,[]⟩
 else if s.h.c<n.c then some ⟨2,s.at_,s.at_,[],takeL j.floats s.h ⟨0,0,1⟩,[]⟩
 else none
def openS (j:Job) (s:Stt):Bool:=q01g j s&& !doneS j s
def textC (j:Job) (s:Stt):Option Colm:=
 if openS j s=true/\q022 j s=true/\s.at_<j.items.length then some ⟨1,s.at_,q015 j.items s.at_,q05q j.notes (spotS j s (q015 j.items s.at_)),[],[]⟩ else none
def noteC (j:Job) (s:Stt):Option Colm:=
 if openS j s=true/\s.at_=j.items.length/\s.note≠j.notes.length then some ⟨3,s.at_,s.at_,q05q j.notes (q02h (spotS j s s.at_)),[],[]⟩ else none
def dueC (j:Job) (s:Stt):Option Colm:=if openS j s=true then q03i j s (dueF j s.at_) else none
def q08m (j:Job) (s:Stt):Option Colm:=if openS j s=true then q03i j s (q01i j s.at_) else none
def q04r (j:Job) (s:Stt):Option Colm:=(textC j s).or ((dueC j s).or ((noteC j s).or (q08m j s)))
def q0b1 (j:Job) (s:Stt) (c:Colm):C3:=addC (addC s.h (ofL j.floats c.top)) (ofL j.floats c.bot)
def setF (j:Job) (s:Stt) (c:Colm) (to:Int):Bool:=
 nextQ j.floats s.h c.top&&nextQ j.floats (addC s.h (ofL j.floats c.top)) c.bot&&inC (q0b1 j s c) (q01i j to)
def fitsC (j:Job) (c:Colm):Bool:=fitT j.g j.floats c.top&&fitB j.g j.floats c.bot
def textE (j:Job) (s:Stt) (c:Colm):Int:=
 if q022 j s=false then 18 else if (brkF j.items s.at_).contains c.to=false then 14
 else if mayPc j.notes (spotS j s c.to) c.notes=false then 15 else if setF j s c c.to=false\/fitsC j c=false then 16 else 0
def q0b2 (j:Job) (s:Stt) (c:Colm):Int:=
 if c.notes≠[] then 15 else if c.top=[]\/8<c.top.length\/c.bot≠[]\/setF j s c s.at_=false\/(q02r j s c).over=true then 16 else 0
def noteE (j:Job) (s:Stt) (c:Colm):Int:=
 if c.notes=[]\/mayPc j.notes (q02h (spotS j s s.at_)) c.notes=false then 15 else if c.top≠[]\/c.bot≠[] then 16 else 0
def endE (j:Job) (s:Stt) (c:Colm):Bool:=
 decide (openS j s=false\/c.k<1\/3<c.k\/c.frm≠s.at_\/(c.k=1/\s.at_=j.items.length)\/(c.k≠1/\c.to≠s.at_)\/(c.k=3/\s.at_≠j.items.length))
def kindE (j:Job) (s:Stt) (c:Colm):Int:=if c.k=1 then textE j s c else if c.k=2 then q0b2 j s c else noteE j s c
def q014:Colm:=⟨0,0,0,[],[],[]⟩
def q06c (j:Job) (s:Stt) (c:Colm):Int:=
 if endE j s c=true then 19 else if kindE j s c≠0 then kindE j s c
 else if (q02r j s c).over=true/\sameC c ((q04r j s).getD q014)=false then 17 else 0
theorem q10m (fs:List Float): ∀(xs:List Int) (s:C3),leC s (xs.foldl (ofS fs) s)/\(xs.foldl (ofS fs) s).a<=s.a+xs.length/\(xs.foldl (ofS fs) s).b<=s.b+xs.length/\(xs.foldl (ofS fs) s).c<=s.c+xs.length
 |[],s=>by simp [leC]
 |x::r,s=>by
  have h:=q10m fs r (ofS fs s x)
  have e:leC s (ofS fs s x)/\(ofS fs s x).a<=s.a+1/\(ofS fs s x).b<=s.b+1/\(ofS fs s x).c<=s.c+1:=by
   unfold ofS bump leC
   (repeat' split)<;>(try simp only)<;>omega
  simp only [ZT,Zg]
  unfold leC at*
  push_cast
  omega
theorem q0Zj (fs:List Float) (xs:List Int):leC zeroC (ofL fs xs)/\(ofL fs xs).a<=xs.length/\(ofL fs xs).b<=xs.length/\(ofL fs xs).c<=xs.length:=by
 have:=q10m fs xs ⟨0,0,0⟩
 unfold ofL
 unfold leC zeroC at*
 simp only at*
 omega
theorem q119 {x y:C3} (hx:leC zeroC x) (hy:leC zeroC y) (bx:x.a<=1000000/\x.b<=1000000/\x.c<=1000000):leC x (addC x y):=by
 unfold leC zeroC addC zipF held big at*
 simp only at*
 omega
theorem q0Yw {a b q:Int} (ha:0<=a) (hb:0<=b) (h:held (held a (-big) big+held b (-big) big) (-big) big<=q) (hq:q<=1000000):a<=held (held a (-big) big+held b (-big) big) (-big) big:=by
 unfold held big at*
 omega
theorem q0Zt {x y q:C3} (hx:leC zeroC x) (hy:leC zeroC y) (h:leC (addC x y) q) (hq:q.a<=1000000/\q.b<=1000000/\q.c<=1000000):leC x (addC x y):=
 ⟨q0Yw hx.1 hy.1 h.1 hq.1,q0Yw hx.2.1 hy.2.1 h.2.1 hq.2.1,q0Yw hx.2.2 hy.2.2 h.2.2 hq.2.2⟩
theorem q0Zk {a:Int} (ha:0<=a) (hq:a<=1000000):held (held a (-big) big+held 0 (-big) big) (-big) big=a:=by
 unfold held big at*
 omega
theorem q0Zl {x:C3} (h:leC zeroC x) (b:x.a<=1000000/\x.b<=1000000/\x.c<=1000000):addC x zC=x:=by
 obtain ⟨h1,h2,h3⟩:=h
 unfold addC zipF
 rw [show (zC).a=0 from rfl,show (zC).b=0 from rfl,show (zC).c=0 from rfl,q0Zk h1 b.1,q0Zk h2 b.2.1,q0Zk h3 b.2.2]
theorem q0wx {j:Job} (w:okW j) (n:Int):leC zeroC (q01i j n)/\(q01i j n).a<=1000000/\(q01i j n).b<=1000000/\(q01i j n).c<=1000000:=by
 unfold q01i
 have h:=q0ix j.floats (j.items.take (putN j.items n))
 have hl:((j.items.take (putN j.items n)).length:Int)<=1000000:=by
  have:=w.n1
  rw [ZC]
  omega
 unfold leC zeroC
 simp only
 omega
theorem q0Y7 {x:C3} (h:leC zeroC x) (b:x.a<=1000000/\x.b<=1000000/\x.c<=1000000):sumC x=x.a+x.b+x.c:=by
 unfold sumC held big leC zeroC at*
 simp only at*
 omega
theorem q0Bd {l:List Item} {a t:Int} (h0:0<=a) (h:t∈brkF l a):a<t/\t<=l.length/\mayV l t=true/\t<=q010 l a:=by
 unfold brkF at h
 obtain ⟨m,hm,rfl⟩:=ZJ.1 h
 unfold brkN at hm
 rw [List.mem_filter,List.mem_range'] at hm
 obtain ⟨⟨i,hi,rfl⟩,h2⟩:=hm
 simp only [Zb,decide_eq_true_eq] at h2
 unfold mayN at h2
 unfold pos at*
 simp only [Int.ofNat_eq_natCast]
 exact ⟨by omega,by omega,h2.2,h2.1⟩
theorem q0Yc {j:Job} {s:Stt} (r:rightP j s):q0Xw j s=s.at_+progN j.notes s.note s.line+sumC s.h:=by
 unfold q0Xw progN
 rw [if_pos ((q02k j s).2 r)]
 omega
theorem q0p6 {j:Job} {s:Stt} (r:rightP j s) (to:Int):spotS j s to=⟨s.note,s.line,q00z j to,decide (q00z j s.at_<q00z j to)⟩:=by
 unfold spotS
 rw [if_pos ((q02k j s).2 r)]
theorem q108 (l:List Item) (n:Int):trimF l (trimF l n)=trimF l n:=by
 have h:=q0Yf l n
 unfold trimF at*
 rw [h,q0Zy]
theorem q10y {l:List Item} {n:Int} (h0:0<=n) (h1:n<=l.length):n<=trimF l n:=by
 unfold trimF
 have:=q10w l (putN l n)
 have e:(putN l n:Int)=n:=by unfold putN;omega
 omega
theorem q0Yx {j:Job} (w:wfJ j) {s:Stt} (r:rightP j s) {c:Colm} {b:Int} {fr:Bool} {at':Int} (e0:nextF j.notes (spotS j s c.to) c.notes=nextF j.notes ⟨s.note,s.line,b,fr⟩ c.notes)
  (ha:at'=if c.k=1 then (trimF j.items c.to:Int) else s.at_) (hb:b=q00z j at') (hle:s.at_<=at') (ht:(trimF j.items at':Int)=at') (hle2:at'<=j.items.length) (hf:fr=false->b<=q00z j s.at_)
  (hp:c.notes∈q00j j.notes ⟨s.note,s.line,b,fr⟩) (hh:leC (q0b1 j s c) (q01i j at')):
  rightP j (nextS j s c)/\q0Xw j s+(at'-s.at_)<=q0Xw j (nextS j s c)/\(c.notes≠[]\/s.at_<at'\/sumC s.h<sumC (q0b1 j s c)->q0Xw j s<q0Xw j (nextS j s c)):=by
 have hr:=(q02k j s).2 r
 obtain ⟨g1,g2,g3⟩:=q10l w r (p:=c.notes) (b:=b) (fr:=fr) (by rw [hb];exact q106 j hle) (by rw [hb];exact q03o w.w _) hf hp
 have e:nextS j s c=⟨at',min (s.col+1) j.g.cols,(nextF j.notes ⟨s.note,s.line,b,fr⟩ c.notes).1,(nextF j.notes ⟨s.note,s.line,b,fr⟩ c.notes).2,q0b1 j s c⟩:=by
  unfold nextS
  rw [if_pos hr,e0,<-ha];rfl
 have bd:=q0wx w.w s.at_
 have bd2:=q0wx w.w at'
 have o1:=q0Zj j.floats c.top
 have o2:=q0Zj j.floats c.bot
 have hb1:s.h.a<=1000000/\s.h.b<=1000000/\s.h.c<=1000000:=by
  have:=r.h1
  unfold leC at this
  omega
 have m1:leC s.h (addC s.h (ofL j.floats c.top)):=q119 r.h0 o1.1 hb1
 have z1:leC zeroC (addC s.h (ofL j.floats c.top)):=q0bu r.h0 m1
 have m2:leC (addC s.h (ofL j.floats c.top)) (q0b1 j s c):=q0Zt z1 o2.1 hh ⟨bd2.2.1,bd2.2.2.1,bd2.2.2.2⟩
 have z2:=q0bu z1 m2
 have hs2:(q0b1 j s c).a<=1000000/\(q0b1 j s c).b<=1000000/\(q0b1 j s c).c<=1000000:=by
  unfold leC at hh;omega
 have s1:=q0Y7 r.h0 hb1
 have s2:=q0Y7 z2 hs2
 have mm:=q0bu m1 m2
 have rn:rightP j (nextS j s c):=by
  rw [e]
  refine ⟨by have:=r.at0;simp only;omega,hle2,ht,by have:=r.col0;have:=w.cols;simp only;omega,by simp only;omega,?_,z2,hh⟩
  rw [q0od]
  simp only
  rcases g1 with ⟨a,b'⟩|⟨a,b',c',d,f⟩
  ·exact .inl ⟨a,by rw [b',hb]⟩
  ·exact .inr ⟨a,by rw [b',hb],c',d,f⟩
 have q1:=q0Yc r
 have q2:=q0Yc rn
 rw [e] at q2
 rw [e] at rn⊢
 simp only at q2
 refine ⟨rn,?_,?_⟩
 ·unfold leC at mm;omega
 ·intro h
  unfold leC at mm
  rcases h with h|h|h
  ·have:=g3 h;omega
  ·omega
  ·omega
theorem q0Y1 {j:Job} (w:wfJ j) {s:Stt} {c:Colm} (h:q06c j s c=0):rightP j s/\rightP j (nextS j s c)/\q0Xw j s<q0Xw j (nextS j s c):=by
 unfold q06c at h
 by_cases he:endE j s c=true
 ·rw [if_pos he] at h;cases h
 rw [if_neg he] at h
 by_cases hk:kindE j s c≠0
 ·rw [if_pos hk] at h;exact absurd h hk
 have hk:kindE j s c=0:=by omega
 unfold endE at he
 simp only [decide_eq_true_eq,not_or,not_and,Bool.not_eq_false,Int.not_lt] at he
 obtain ⟨e1,e2,e3,e4,e5,e6,e7⟩:=he
 unfold openS at e1
 simp only [Zb] at e1
 have r:=(q02k j s).1 e1.1
 refine ⟨r,?_⟩
 unfold kindE at hk
 by_cases k1:c.k=1
 ·rw [if_pos k1] at hk
  unfold textE at hk
  split at hk
  ·cases hk
  split at hk
  ·cases hk
  split at hk
  ·cases hk
  split at hk
  ·cases hk
  rename_i f1 f2 f3 f4
  simp only [Bool.not_eq_false,not_or] at f1 f2 f3 f4
  have hm:=q0Bd r.at0 (by simpa using f2)
  have hp:=(q0ja _ _ _).1 f3
  rw [q0p6 r] at hp
  have hset:=f4.1
  unfold setF at hset
  simp only [Zb,q0pw] at hset
  have hge:=q10y (l:=j.items) (n:=c.to) (by have:=r.at0;omega) hm.2.1
  have hlt:s.at_<trimF j.items c.to:=by omega
  have:=q0Yx w r (c:=c) (b:=q00z j c.to) (fr:=decide (q00z j s.at_<q00z j c.to)) (at':=trimF j.items c.to) (by rw [q0p6 r]) (by rw [if_pos k1])
   (q104 j c.to).symm (by omega) (by rw [q108]) (by have:=q0Zi j.items c.to;omega) (fun h=>by simpa using h) hp (by rw [q105];exact hset.2)
  exact ⟨this.1,this.2.2 (.inr (.inl hlt))⟩
 ·rw [if_neg k1] at hk
  have hto:=e6 k1
  by_cases k2:c.k=2
  ·rw [if_pos k2] at hk
   unfold q0b2 at hk
   split at hk
   ·cases hk
   split at hk
   ·cases hk
   rename_i f1 f2
   simp only [not_or,Bool.not_eq_false,ne_eq,Decidable.not_not] at f1 f2
   obtain ⟨f2,f3,f4,f5,f6⟩:=f2
   unfold setF at f5
   simp only [Zb,q0pw] at f5
   have hp:c.notes∈q00j j.notes ⟨s.note,s.line,q00z j s.at_,false⟩:=by
    rw [f1]
    unfold q00j
    rw [if_pos (.inr rfl)];simp
   have:=q0Yx w r (c:=c) (b:=q00z j s.at_) (fr:=false) (at':=s.at_) (by rw [f1,q0Ye,q0Ye,q0p6 r]) (by rw [if_neg k1])
    rfl (ZS _) r.trim r.at1 (fun _=>ZS _) hp f5.2
   refine ⟨this.1,this.2.2 (.inr (.inr ?_))⟩
   have hn:=f5.1.1
   unfold nextQ at hn
   simp only [Zb,decide_eq_true_eq] at hn
   have hz:ofL j.floats c.top≠zC:=by
    intro hz
    rw [hz,q0Ya] at hn
    exact f2 hn.2.symm
   have ok:=hn.1
   have o1:=(q0Zj j.floats c.top).1
   have bd:=q0wx w.w s.at_
   have hsm:=q0Z2 w.w.n3 ok
   have ebot:q0b1 j s c=addC (addC s.h (ofL j.floats c.top)) zC:=by unfold q0b1;rw [f4];rfl
   have hh:=f5.2
   have h0:=r.h0
   have h1:=r.h1
   rw [hsm] at ebot
   have hz1:leC zeroC (plus s.h (ofL j.floats c.top)):=by
    have h0:=r.h0
    unfold leC zeroC plus at*
    simp only at*
    omega
   have hup:=q0Zt (y:=zC) hz1 (q0e6 _) (ebot▸f5.2) ⟨bd.2.1,bd.2.2.1,bd.2.2.2⟩
   have hle:=q0bu hup (ebot▸f5.2)
   have hs:(plus s.h (ofL j.floats c.top)).a<=1000000/\(plus s.h (ofL j.floats c.top)).b<=1000000/\(plus s.h (ofL j.floats c.top)).c<=1000000:=by
    unfold leC at hle;omega
   rw [ebot,q0Zl hz1 hs,q0Y7 hz1 hs,q0Y7 r.h0 (by have:=r.h1;unfold leC at this;omega)]
   have hy:0<(ofL j.floats c.top).a+(ofL j.floats c.top).b+(ofL j.floats c.top).c:=by
    have: ¬((ofL j.floats c.top).a=0/\(ofL j.floats c.top).b=0/\(ofL j.floats c.top).c=0):=fun h=>hz (by
     revert h
     generalize ofL j.floats c.top=y
     obtain ⟨a,b,d⟩:=y
     rintro ⟨rfl,rfl,rfl⟩
     rfl)
    unfold leC zeroC at o1
    simp only at o1
    omega
   unfold plus
   simp only
   omega
  ·rw [if_neg k2] at hk
   unfold noteE at hk
   split at hk
   ·cases hk
   split at hk
   ·cases hk
   rename_i f1 f2
   simp only [not_or,Bool.not_eq_false,ne_eq,Decidable.not_not] at f1 f2
   have hp:=(q0ja _ _ _).1 f1.2
   rw [q0p6 r] at hp
   unfold q02h at hp
   simp only at hp
   have hh:leC (q0b1 j s c) (q01i j s.at_):=by
    have e:q0b1 j s c=addC (addC s.h zC) zC:=by unfold q0b1;rw [f2.1,f2.2];rfl
    rw [e]
    have h0:=r.h0
    have h1:=r.h1
    have bd:=q0wx w.w s.at_
    generalize s.h=x at*
    generalize q01i j s.at_=q at*
    unfold leC zeroC addC zipF held big zC at*
    simp only at*
    omega
   have e0:nextF j.notes (spotS j s c.to) c.notes=nextF j.notes ⟨s.note,s.line,q00z j s.at_,true⟩ c.notes:=by
    unfold nextF
    cases hl:c.notes.getLast? with
    |none=>exact absurd (List.getLast?_eq_none_iff.1 hl) f1.1
    |some x=>rfl
   have:=q0Yx w r (c:=c) (b:=q00z j s.at_) (fr:=true) (at':=s.at_) e0 (by rw [if_neg k1])
    rfl (ZS _) r.trim r.at1 (fun h=>by cases h) hp hh
   exact ⟨this.1,this.2.2 (.inl f1.1)⟩
end Go.EnvOf
