/- The program's functions and the document's, evaluated. -/
import Derived.Test.YtjjdmlpdgcdehaaGreatText7
import Derived.Test.YtjjdmlpdgcdehaaGreatText6
import Derived.Test.YtjjdmlpdgcdehaaGreatText5
import Derived.Test.YtjjdmlpdgcdehaaGreatText3
set_option linter.unusedSimpArgs false
set_option linter.unusedVariables false
namespace Go.EnvOf
open Go Go.Eng
set_option maxRecDepth 100000
abbrev cFcts (f:Fcts):List V:=[vI f.notes,vI f.floats,vI f.room,vB f.last,vB f.over,vI f.set_.how,vI f.set_.ord,vI f.set_.by_,vI f.set_.of_,vI f.set_.left]
abbrev cColm (c:Colm):List V:=[vI c.k,vI c.frm,vI c.to,q00v c.notes,sli c.top,sli c.bot]
abbrev cStt (s:Stt):List V:=[vI s.at_,vI s.col,vI s.note,vI s.line,vI s.h.a,vI s.h.b,vI s.h.c]
section
variable (j:Job) (H:Heap)
theorem q12y (f:Fcts) (hf:f.set_.of_<=9223372036854775807) (p q:Nat) (h1:Eng.boxAt H p=some (cFcts f)) (h2:Eng.boxAt H q=some (cJobW j)):
  clD EE (.fn (.func 112) [] [.ptr p 0,.ptr q 0]) [] H=some (vI (badG f.set_ j.g.grid f.last),none):=by
 rw [q02m,q002 _ _ _ _ _ _ (noP _) fn112]
 have b:=fun H=>q12k f.set_ j.g.grid f.last hf H
 simp only [cJobW,cGeom,Zd,Zf] at h2
 simp [zEc,h1,h2,b]
theorem q12z (hl:j.items.length<=1000000) (c:Colm) (q w r:Nat) (h2:Eng.boxAt H q=some (cJobW j)) (h3:Eng.boxAt H w=some [vW j]) (h4:Eng.boxAt H r=some (cColm c)):
  clD EE (.fn (.func 113) [] [.ptr q 0,.ptr w 0,.ptr r 0]) [] H=some (vI (paraF j.g j.items c.to),none):=by
 rw [q02m,q002 _ _ _ _ _ _ (noP _) fn113]
 have b:=fun H=>q12v j.g j.items hl c.to H
 have l:=fun H=>q07e j H
 have e:subs [vW j] 0 1=some [vW j]:=rfl
 simp only [vGeom,cGeom] at b
 simp only [cJobW,cGeom,Zd,Zf] at h2
 simp [zEc,h2,h3,h4,b,l]
theorem q130 (q:Nat) (h2:Eng.boxAt H q=some (cJobW j)):clD EE (.fn (.func 116) [] [.ptr q 0]) [] H=some (vI j.g.spare,none):=by
 rw [q02m,q002 _ _ _ _ _ _ (noP _) fn116]
 simp only [cJobW,cGeom,Zd,Zf] at h2
 simp [zEc,h2]
theorem q131 (hn: ∀n∈j.notes,n.lines.length<=1000000) (c:Colm) (hc:0<c.notes.length) (hc2:c.notes.length<=1000000) (q r:Nat) (h2:Eng.boxAt H q=some (cJobW j)) (h4:Eng.boxAt H r=some (cColm c)):
  clD EE (.fn (.func 117) [] [.ptr q 0,.ptr r 0]) [] H=some (vI (W64 (j.g.split+tornF j.notes c.notes)),none):=by
 rw [q02m,q002 _ _ _ _ _ _ (noP _) fn117]
 have b:=fun H=>q12w j c.notes hc hc2 hn H
 simp only [vJob,cGeom,Zd,Zf] at b
 simp only [cJobW,cGeom,Zd,Zf] at h2
 unfold W64
 simp [zEc,h2,h4,b]
theorem q132 (o:okW j) (t:Stt) (q w r:Nat) (h2:Eng.boxAt H q=some (cJobW j)) (h3:Eng.boxAt H w=some [vW j]) (h4:Eng.boxAt H r=some (cStt t)):
  clD EE (.fn (.func 119) [] [.ptr q 0,.ptr w 0,.ptr r 0]) [] H=some (vI (W64 (j.g.defer*sumC (q120 j t))),none):=by
 rw [q02m,q002 _ _ _ _ _ _ (noP _) fn119]
 have b:=fun H=>q12j j o t H
 have s:=fun H=>q13d (q120 j t) H
 have e:subs [vW j] 0 1=some [vW j]:=rfl
 simp only [cJobW,cGeom,Zd,Zf] at h2
 unfold W64
 generalize sumC (q120 j t)=z at*
 simp [zEc,h2,h3,h4,b,s]
end
def q12c (j:Job) (s:Stt) (c:Colm):List Int:=
 (if c.k=1/\(q02r j s c).over=false then [badG (q02r j s c).set_ j.g.grid (q02r j s c).last] else [])++
 (if c.k=1 then [paraF j.g j.items c.to] else [])++
 (if c.k=1 then [] else [j.g.spare])++
 (if 0<c.notes.length/\0<(nextS j s c).line then [W64 (j.g.split+tornF j.notes c.notes)] else [])++
 [W64 (j.g.defer*sumC (q120 j (nextS j s c)))]
def costC (j:Job) (s:Stt) (c:Colm):Int×Int:=if q01g j s=true then q0Tp (q02r j s c).over (q12c j s c) else (0,0)
theorem q11z (x y:List PV) (r:List (List PV)):upV (x::y::r)=upV [x]++upV (y::r):=rfl
theorem q139 {t:Tot} (h:q03k t=true) (o:Int):strT t o<=1125899906842624:=by
 unfold q03k fairL at h
 simp at h
 unfold strT
 (repeat' split)<;>omega
theorem q13a (j:Job) (s:Stt) (c:Colm):(q02r j s c).set_.of_<=9223372036854775807:=by
 have z: ∀t h l,(q07f t h l).of_<=9223372036854775807:=by
  intro t h l
  unfold q07f
  by_cases r:q04u t h=true
  ·have bd:=q0j5 r
   have f:q03k t=true:=by unfold q04u at r;simp at r;exact r.1.1
   have sb:=q139 f (ordT t)
   rw [if_pos r]
   (repeat' split)<;>simp only [zeroG]<;>omega
  ·rw [if_neg r];simp [zeroG]
 unfold q02r
 split
 ·simp only
  split
  ·exact z _ _ _
  ·simp [zeroG]
 ·simp [zeroF,zeroG]
theorem q133 (j:Job) (w:okW j) (hf: ∀x∈j.items,fairI x) (s:Stt) (c:Colm) (c1:c.notes.length<=1000000) (c2:c.top.length<=9223372036854775807) (c3:c.bot.length<=9223372036854775807) (H:Heap):
  clD EE (.p (.fn 46)) [vW j,vStt s,vColm c] H=some (vCost (costC j s c).1 (costC j s c).2,none):=by
 rw [q002 _ _ _ _ _ _ (noP _) fn46]
 have r:=fun H=>q03r j w s H
 have pl:=fun H=>q07d j H
 have fa:=fun H=>q0Xp j w hf s c c1 c2 c3 H
 have nx:=fun H=>q100 j w s c c1 c2 c3 H
 unfold costC
 have e:subs [vW j] 0 1=some [vW j]:=rfl
 cases b:q01g j s with
 |false=>
  rw [b] at r
  simp [zEc,r]
 |true=>
  rw [b] at r
  have k1:=fun H p q=>q12y j H (q02r j s c) (q13a j s c) p q
  have k2:=fun H p q r=>q12z j H w.n1 c p q r
  have k3:=fun H p=>q130 j H p
  have k4:=fun h H p q=>q131 j H w.lines c h c1 p q
  have k5:=fun H p q r=>q132 j H w (nextS j s c) p q r
  have po:q12c j s c=(if c.k=1/\(q02r j s c).over=false then [badG (q02r j s c).set_ j.g.grid (q02r j s c).last] else [])++
   (if c.k=1 then [paraF j.g j.items c.to] else [])++(if c.k=1 then [] else [j.g.spare])++
   (if 0<c.notes.length/\0<(nextS j s c).line then [W64 (j.g.split+tornF j.notes c.notes)] else [])++[W64 (j.g.defer*sumC (q120 j (nextS j s c)))]:=rfl
  generalize badG (q02r j s c).set_ j.g.grid (q02r j s c).last=v1 at*
  generalize paraF j.g j.items c.to=v2 at*
  generalize W64 (j.g.split+tornF j.notes c.notes)=v4 at*
  generalize W64 (j.g.defer*sumC (q120 j (nextS j s c)))=v5 at*
  generalize q02r j s c=F at*
  generalize nextS j s c=N at*
  generalize q12c j s c=P at*
  have K1:=fun T=>k1 (H++(DObj.box [vW j]::DObj.box [vI c.k,vI c.frm,vI c.to,q00v c.notes,sli c.top,sli c.bot]::DObj.box [vI F.notes,vI F.floats,vI F.room,vB F.last,vB F.over,vI F.set_.how,vI F.set_.ord,vI F.set_.by_,vI F.set_.of_,vI F.set_.left]::DObj.box (cJobW j)::DObj.box [vI N.at_,vI N.col,vI N.note,vI N.line,vI N.h.a,vI N.h.b,vI N.h.c]::T)) (H.length+2) (H.length+3) (by simp) (by simp)
  have K2:=fun T=>k2 (H++(DObj.box [vW j]::DObj.box [vI c.k,vI c.frm,vI c.to,q00v c.notes,sli c.top,sli c.bot]::DObj.box [vI F.notes,vI F.floats,vI F.room,vB F.last,vB F.over,vI F.set_.how,vI F.set_.ord,vI F.set_.by_,vI F.set_.of_,vI F.set_.left]::DObj.box (cJobW j)::DObj.box [vI N.at_,vI N.col,vI N.note,vI N.line,vI N.h.a,vI N.h.b,vI N.h.c]::T)) (H.length+3) H.length (H.length+1) (by simp) (by simp) (by simp)
  have K3:=fun T=>k3 (H++(DObj.box [vW j]::DObj.box [vI c.k,vI c.frm,vI c.to,q00v c.notes,sli c.top,sli c.bot]::DObj.box [vI F.notes,vI F.floats,vI F.room,vB F.last,vB F.over,vI F.set_.how,vI F.set_.ord,vI F.set_.by_,vI F.set_.of_,vI F.set_.left]::DObj.box (cJobW j)::DObj.box [vI N.at_,vI N.col,vI N.note,vI N.line,vI N.h.a,vI N.h.b,vI N.h.c]::T)) (H.length+3) (by simp)
  have K4:=fun h T=>k4 h (H++(DObj.box [vW j]::DObj.box [vI c.k,vI c.frm,vI c.to,q00v c.notes,sli c.top,sli c.bot]::DObj.box [vI F.notes,vI F.floats,vI F.room,vB F.last,vB F.over,vI F.set_.how,vI F.set_.ord,vI F.set_.by_,vI F.set_.of_,vI F.set_.left]::DObj.box (cJobW j)::DObj.box [vI N.at_,vI N.col,vI N.note,vI N.line,vI N.h.a,vI N.h.b,vI N.h.c]::T)) (H.length+3) (H.length+1) (by simp) (by simp)
  have K5:=fun T=>k5 (H++(DObj.box [vW j]::DObj.box [vI c.k,vI c.frm,vI c.to,q00v c.notes,sli c.top,sli c.bot]::DObj.box [vI F.notes,vI F.floats,vI F.room,vB F.last,vB F.over,vI F.set_.how,vI F.set_.ord,vI F.set_.by_,vI F.set_.of_,vI F.set_.left]::DObj.box (cJobW j)::DObj.box [vI N.at_,vI N.col,vI N.note,vI N.line,vI N.h.a,vI N.h.b,vI N.h.c]::T)) (H.length+3) H.length (H.length+4) (by simp) (by simp) (by simp)
  have CS:=fun (P':List Int) (hl:P'.length<=1000000)=>q12r (H++(DObj.box [vW j]::DObj.box [vI c.k,vI c.frm,vI c.to,q00v c.notes,sli c.top,sli c.bot]::DObj.box [vI F.notes,vI F.floats,vI F.room,vB F.last,vB F.over,vI F.set_.how,vI F.set_.ord,vI F.set_.by_,vI F.set_.of_,vI F.set_.left]::DObj.box (cJobW j)::DObj.box [vI N.at_,vI N.col,vI N.note,vI N.line,vI N.h.a,vI N.h.b,vI N.h.c]::[DObj.row 1 (upV (P'.map encI))])) F.over P' hl (H.length+5) (by simp [Go.Eng.rowAt])
  clear k1 k2 k3 k4 k5
  simp only [vJob,cJobW,cGeom,Zd,Zf] at pl K1 K2 K3 K4 K5 CS
  have w1:IntKind.i64.wrap 1=1:=by decide
  have w2:IntKind.i64.wrap 2=2:=by decide
  have w3:IntKind.i64.wrap 3=3:=by decide
  have w4:IntKind.i64.wrap 4=4:=by decide
  have w5:IntKind.i64.wrap 5=5:=by decide
  have m1:1<most:=by decide
  have m2:2<most:=by decide
  have m3:3<most:=by decide
  have m4:4<most:=by decide
  have m5:5<most:=by decide
  by_cases q1:c.k=1
  ·have fa1:=fa
   have nx1:=nx
   simp only [vColm,q1] at fa1 nx1
   simp only [q1] at K1 K2 K3 K4 K5 CS
   cases ov:F.over with
   |true=>
    simp only [vFcts,ov] at fa1
    simp only [ov] at K1 K2 K3 K4 K5 CS
    by_cases n0:0<c.notes.length
    ·have K4':=K4 n0
     by_cases n1:0<N.line
     ·have cs:=CS [v2,v4,v5] (by simp)
      have eP:P=[v2,v4,v5]:=by rw [po];simp [q1,ov,n0,n1]
      subst eP
      generalize q0Tp true [v2,v4,v5]=Q at*
      simp only [Zg,Zq,Zo,ZL,Zs,Nat.reduceAdd,encI,q11z] at cs
      simp [zEc,r,pl,fa1,nx1,q1,ov,n0,n1,e,q11a,q003,ixsI,ixsV,w1,w2,w3,w4,w5,m1,m2,m3,m4,m5,K1,K2,K3,K4',K5,cs]
     ·have cs:=CS [v2,v5] (by simp)
      have eP:P=[v2,v5]:=by rw [po];simp [q1,ov,n0,n1]
      subst eP
      generalize q0Tp true [v2,v5]=Q at*
      simp only [Zg,Zq,Zo,ZL,Zs,Nat.reduceAdd,encI,q11z] at cs
      simp [zEc,r,pl,fa1,nx1,q1,ov,n0,n1,e,q11a,q003,ixsI,ixsV,w1,w2,w3,w4,w5,m1,m2,m3,m4,m5,K1,K2,K3,K4',K5,cs]
    ·have cs:=CS [v2,v5] (by simp)
     have eP:P=[v2,v5]:=by rw [po];simp [q1,ov,n0]
     subst eP
     generalize q0Tp true [v2,v5]=Q at*
     simp only [Zg,Zq,Zo,ZL,Zs,Nat.reduceAdd,encI,q11z] at cs
     simp [zEc,r,pl,fa1,nx1,q1,ov,n0,e,q11a,q003,ixsI,ixsV,w1,w2,w3,w4,w5,m1,m2,m3,m4,m5,K1,K2,K3,K5,cs]
   |false=>
    simp only [vFcts,ov] at fa1
    simp only [ov] at K1 K2 K3 K4 K5 CS
    by_cases n0:0<c.notes.length
    ·have K4':=K4 n0
     by_cases n1:0<N.line
     ·have cs:=CS [v1,v2,v4,v5] (by simp)
      have eP:P=[v1,v2,v4,v5]:=by rw [po];simp [q1,ov,n0,n1]
      subst eP
      generalize q0Tp false [v1,v2,v4,v5]=Q at*
      simp only [Zg,Zq,Zo,ZL,Zs,Nat.reduceAdd,encI,q11z] at cs
      simp [zEc,r,pl,fa1,nx1,q1,ov,n0,n1,e,q11a,q003,ixsI,ixsV,w1,w2,w3,w4,w5,m1,m2,m3,m4,m5,K1,K2,K3,K4',K5,cs]
     ·have cs:=CS [v1,v2,v5] (by simp)
      have eP:P=[v1,v2,v5]:=by rw [po];simp [q1,ov,n0,n1]
      subst eP
      generalize q0Tp false [v1,v2,v5]=Q at*
      simp only [Zg,Zq,Zo,ZL,Zs,Nat.reduceAdd,encI,q11z] at cs
      simp [zEc,r,pl,fa1,nx1,q1,ov,n0,n1,e,q11a,q003,ixsI,ixsV,w1,w2,w3,w4,w5,m1,m2,m3,m4,m5,K1,K2,K3,K4',K5,cs]
    ·have cs:=CS [v1,v2,v5] (by simp)
     have eP:P=[v1,v2,v5]:=by rw [po];simp [q1,ov,n0]
     subst eP
     generalize q0Tp false [v1,v2,v5]=Q at*
     simp only [Zg,Zq,Zo,ZL,Zs,Nat.reduceAdd,encI,q11z] at cs
     simp [zEc,r,pl,fa1,nx1,q1,ov,n0,e,q11a,q003,ixsI,ixsV,w1,w2,w3,w4,w5,m1,m2,m3,m4,m5,K1,K2,K3,K5,cs]
  ·by_cases n0:0<c.notes.length
   ·have K4':=K4 n0
    by_cases n1:0<N.line
    ·have cs:=CS [j.g.spare,v4,v5] (by simp)
     have eP:P=[j.g.spare,v4,v5]:=by rw [po];simp [q1,n0,n1]
     subst eP
     generalize q0Tp F.over [j.g.spare,v4,v5]=Q at*
     simp only [Zg,Zq,Zo,ZL,Zs,Nat.reduceAdd,encI,q11z] at cs
     simp [zEc,r,pl,fa,nx,q1,n0,n1,e,q11a,q003,ixsI,ixsV,w1,w2,w3,w4,w5,m1,m2,m3,m4,m5,K1,K2,K3,K4',K5,cs]
    ·have cs:=CS [j.g.spare,v5] (by simp)
     have eP:P=[j.g.spare,v5]:=by rw [po];simp [q1,n0,n1]
     subst eP
     generalize q0Tp F.over [j.g.spare,v5]=Q at*
     simp only [Zg,Zq,Zo,ZL,Zs,Nat.reduceAdd,encI,q11z] at cs
     simp [zEc,r,pl,fa,nx,q1,n0,n1,e,q11a,q003,ixsI,ixsV,w1,w2,w3,w4,w5,m1,m2,m3,m4,m5,K1,K2,K3,K4',K5,cs]
   ·have cs:=CS [j.g.spare,v5] (by simp)
    have eP:P=[j.g.spare,v5]:=by rw [po];simp [q1,n0]
    subst eP
    generalize q0Tp F.over [j.g.spare,v5]=Q at*
    simp only [Zg,Zq,Zo,ZL,Zs,Nat.reduceAdd,encI,q11z] at cs
    simp [zEc,r,pl,fa,nx,q1,n0,e,q11a,q003,ixsI,ixsV,w1,w2,w3,w4,w5,m1,m2,m3,m4,m5,K1,K2,K3,K5,cs]
def Keep (A:List Nat) (H H':Heap):Prop:=H.length<=H'.length/\ ∀k,k<H.length->k∉A->H'[k]? =H[k]?
def Stay (A:List Nat) (H H':Heap):Prop:=H.length<=H'.length/\ ∀k∈A,H'[k]? =H[k]?
theorem Keep.refl (A:List Nat) (H:Heap):Keep A H H:=⟨Zm _,fun _ _ _=>rfl⟩
theorem Keep.app (A:List Nat) (H T:Heap):Keep A H (H++T):=⟨by simp,fun _ h _=>Zw h⟩
theorem Stay.app (A:List Nat) (H T:Heap) (h: ∀k∈A,k<H.length):Stay A H (H++T):=⟨by simp,fun k hk=>Zw (h k hk)⟩
theorem Keep.set (A:List Nat) (H:Heap) (i:Nat) (o:DObj) (h:i∈A\/H.length<=i):Keep A H (H.set i o):=by
 refine ⟨by simp,fun k hk hA=>Zr ?_⟩
 rintro rfl
 rcases h with h|h
 ·exact hA h
 ·omega
theorem Stay.set (A:List Nat) (H:Heap) (i:Nat) (o:DObj) (h:i∉A):Stay A H (H.set i o):=⟨by simp,fun k hk=>Zr (by rintro rfl;exact h hk)⟩
theorem Stay.trans {A:List Nat} {H K L:Heap} (h:Stay A H K) (g:Stay A K L):Stay A H L:=⟨Nat.le_trans h.1 g.1,fun k hk=>(g.2 k hk).trans (h.2 k hk)⟩
theorem Keep.trans {A B:List Nat} {H K L:Heap} (h:Keep A H K) (g:Keep B K L) (hB: ∀k∈B,k∈A\/H.length<=k):Keep A H L:=by
 refine ⟨Nat.le_trans h.1 g.1,fun k hk hA=> ?_⟩
 rw [g.2 k (by have:=h.1;omega) ?_,h.2 k hk hA]
 intro hb
 rcases hB k hb with h|h
 ·exact hA h
 ·omega
theorem Keep.row {A:List Nat} {H K:Heap} (h:Keep A H K) {id s:Nat} {es:List (List V)} (hr:Eng.rowAt H id=some (s,es)) (hA:id∉A):Eng.rowAt K id=some (s,es):=by
 unfold Eng.rowAt at*
 rw [h.2 id (q09d (H:=H) (by unfold Eng.rowAt;exact hr)) hA];exact hr
theorem Keep.box {A:List Nat} {H K:Heap} (h:Keep A H K) {id:Nat} {cs:List V} (hr:Eng.boxAt H id=some cs) (hA:id∉A):Eng.boxAt K id=some cs:=by
 have hl:=q02y hr
 unfold Eng.boxAt at*
 rw [h.2 id hl hA];exact hr
theorem Stay.row {A:List Nat} {H K:Heap} (h:Stay A H K) {id s:Nat} {es:List (List V)} (hr:Eng.rowAt H id=some (s,es)) (hA:id∈A):Eng.rowAt K id=some (s,es):=by
 unfold Eng.rowAt at*
 rw [h.2 id hA];exact hr
theorem Stay.box {A:List Nat} {H K:Heap} (h:Stay A H K) {id:Nat} {cs:List V} (hr:Eng.boxAt H id=some cs) (hA:id∈A):Eng.boxAt K id=some cs:=by
 unfold Eng.boxAt at*
 rw [h.2 id hA];exact hr
structure Eats {α:Type} (rep:α->V->Heap->List Nat->Prop) (q:Nat) (L:List α) (R:Nat->List Nat->Heap->Prop) (F:List Nat->Heap->Prop):Prop where
 stay: ∀i A H H',R i A H->Stay A H H'->R i A H'
 bel: ∀i A H,R i A H-> ∀k∈A,k<H.length
 step: ∀i A H x v B,L[i]? =some x->R i A H->rep x v H B->(∀k∈B,k∉A/\q<k)->
  ∃b H' ds A',clD EE (.yld q) [v] H=some (vB b,some (H',ds))/\q∈ds/\Keep A H H'/\(∀k∈ds,k∈A\/H.length<=k)/\(∀k∈A',k∈A\/k∈B\/H.length<=k)/\
   (b=true->R (i+1) A' H')/\(b=false->F A' H')
def Gave {α:Type} (L:List α) (R:Nat->List Nat->Heap->Prop) (F:List Nat->Heap->Prop) (A:List Nat) (H:Heap) (r:Option (Heap×List Nat)):Prop:=
 ∃A',Keep A H (hpOf H r)/\(∀k∈dsOf r,k∈A\/H.length<=k)/\(∀k∈A',k∈A\/H.length<=k)/\(R L.length A' (hpOf H r)\/F A' (hpOf H r))
theorem q0vo {α:Type} {E:Env} {ks kl:List Nat} {c:IC} (L:List α) (R:Nat->St->Prop) (F:Ex×St->Prop)
  (hk: ∀i S,R i S->S.keep ks kl=S)
  (hstep: ∀i x S,R i S->L[i]? =some x->(∃S',evD E c S=some (.normal,S')/\R (i+1) S')\/ ∃r,evD E c S=some r/\r.1≠ .normal/\F r)
  (hend: ∀S,R L.length S-> ∃r,evD E c S=some r/\r.1≠ .normal/\F r):
  ∀(n i:Nat) S,L.length-i=n->R i S->i<=L.length-> ∃r,evD E (.loop ks kl c) S=some r/\F r:=by
 have stop: ∀S i,R i S->(∃r,evD E c S=some r/\r.1≠ .normal/\F r)-> ∃r,evD E (.loop ks kl c) S=some r/\F r:=by
  rintro S i hR ⟨⟨x,S'⟩,h1,h2,h3⟩
  refine ⟨(x,S'),?_,h3⟩
  rw [q003,hk _ _ hR,h1]
  cases x with
  |normal=>exact absurd rfl h2
  |_=>rfl
 intro n
 induction n with
 |zero=>
  intro i S hn hR hi
  have e:i=L.length:=by omega
  subst e
  exact stop S _ hR (hend S hR)
 |succ n ih=>
  intro i S hn hR hi
  have hlt:i<L.length:=by omega
  rcases hstep i _ S hR (Zl hlt) with ⟨S',h1,h2⟩|h
  ·rw [q003,hk _ _ hR,h1,q061]
   exact ih (i+1) S' (by omega) h2 hlt
  ·exact stop S _ hR h
def exSt:LSt->Ex
 | .done x=>x
 |_=> .normal
theorem q0n9 {env:List (Nat×V)} {loc:List (Nat×List V)} {hp:Heap} {base:Nat} {dirty:List Nat} {x:Arg} {ps:List Nat} {a b:IC} {it:V} (hv:(∃f,it= .p (.fn f))\/ ∃f u v,it= .fn (.func f) u v)
  (hx:St.arg ⟨env,loc,hp,base,dirty⟩ x=it) {r:Option (Heap×List Nat)} (h:clD EE it [.yld hp.length] (hp++[DObj.loop .ready (outE env) ps a b])=some (.tup [],r))
  {st:LSt} {e:List (Nat×V)} {ps':List Nat} {a' b':IC} (hq:(hpOf (hp++[DObj.loop .ready (outE env) ps a b]) r)[hp.length]? =some (.loop st e ps' a' b')) (hst:st≠ .busy):
  evD EE (.rangeFunc x ps a b) ⟨env,loc,hp,base,dirty⟩=some (exSt st,⟨env,loc,(hpOf (hp++[DObj.loop .ready (outE env) ps a b]) r).set hp.length .dead,base,(dsOf r).foldr (addD base) dirty⟩):=by
 have key:q03a ⟨env,loc,hp,base,dirty⟩ (some (.tup [],r))=some (exSt st,⟨env,loc,(hpOf (hp++[DObj.loop .ready (outE env) ps a b]) r).set hp.length .dead,base,(dsOf r).foldr (addD base) dirty⟩):=by
  cases r with
  |none=>
   simp only [hpOf,dsOf] at hq⊢
   simp at hq
   obtain ⟨rfl,-⟩:=hq
   simp [exSt]
  |some r=>
   obtain ⟨H,ds⟩:=r
   simp only [hpOf,dsOf] at hq⊢
   rw [q0k4,hq]
   cases st with
   |ready=>rfl
   |busy=>exact absurd rfl hst
   |done x=>rfl
 rw [q0k3,hx]
 rcases hv with ⟨f,rfl⟩|⟨f,u,v,rfl⟩
 ·rw [q0q8,h];exact key
 ·rw [q0s4,h];exact key
theorem q0e5 {q:Nat} {H:Heap} {env:List (Nat×V)} {ps:List Nat} {a b:IC} (h:H[q]? =some (.loop .ready env ps a b)) {args:List V} (hl:args.length=ps.length) {env1:List (Nat×V)} {loc1:List (Nat×List V)}
  (ha:evD EE a ⟨bindE env ps args,[],H,H.length,[]⟩=some (.normal,⟨env1,loc1,H,H.length,[]⟩)) {x:Ex} {env2:List (Nat×V)} {loc2:List (Nat×List V)} {H2:Heap} {d2:List Nat}
  (hb:evD EE b ⟨env1,loc1,H.set q (.loop .busy env ps a b),H.length,[q]⟩=some (x,⟨env2,loc2,H2,H.length,d2⟩)) (hs:H2[q]? =some (.loop .busy env ps a b)):
  clD EE (.yld q) args H=some (vB (decide (x= .normal)),some (H2.set q (.loop (if x= .normal then .ready else .done x) env ps a b),d2)):=by
 have hq:q<H.length:=(Za.1 h).1
 have hd:addD H.length q []=[q]:=by unfold addD;rw [if_pos hq]
 rw [q0zm,h,q0k5,if_pos hl,ha,q0je,h,q0k6,hd,hb,q0k7,hs,q0nj]
theorem q0bt {B:Nat}: ∀ {ds d:List Nat},(∀k∈ds,B<=k)->ds.foldr (addD B) d=d
 |[],_,_=>rfl
 |x::ds,d,h=>by
  rw [List.foldr_cons,q0bt fun k hk=>h k (by simp [hk])]
  unfold addD
  rw [if_neg (by have:=h x (by simp);omega)]
theorem q0vp (E:Env) (f:FuncId) (s:Nat) (z:List V) (H:Heap) (id:Nat) (es:List (List V)) (hp:E.prims f=none) (hf:E.fns f=some (q05m s z)) (hr:Eng.rowAt H id=some (s,es)) (hn:es≠[]) (hs:es.all (okEl s)=true) (hm:es.length<most):
  clD E (.p (.fn f)) [.row id es.length 0 es.length] H=some (.row H.length es.length 0 es.length,some (H++[.row s es],[])):=by
 have hh:q05c [.row id es.length 0 es.length]=false:=by cases es with|nil=>exact absurd rfl hn|cons e r=>rfl
 rw [q0k1 E f _ _ _ H hp hf hh]
 have h0:(0:Nat)<most:=by unfold most;omega
 have he:elems H (.row id es.length 0 es.length)=some es:=by simp [elems,hr]
 cases es with
 |nil=>exact absurd rfl hn
 |cons e r=>
  simp only [Zg] at he hm⊢
  simp [-List.all_eq_true,zEa,he,hs,hm,h0]
theorem q10k {p:Int->Bool}: ∀(n:Nat) (a:Int),∀x∈sel p a n,a<=x/\x<a+n/\p x=true
 |0,_,x,h=>by simp [sel] at h
 |n+1,a,x,h=>by
  simp only [sel,ZY] at h
  rcases h with h|h
  ·split at h
   ·simp at h;subst h;exact ⟨ZS _,by omega,by assumption⟩
   ·cases h
  ·have:=q10k n (a+1) x h
   exact ⟨by omega,by omega,this.2.2⟩
end Go.EnvOf
namespace Go.EnvOf
open Go Go.Eng
theorem q0pu {L M:List Int} (h:q01o L M=false):1<=L.length/\L.length<=64/\ ∀x∈L,1<=x/\x<=1073741823:=by
 unfold q01o q03x bad at h
 simp at h
 obtain ⟨⟨⟨⟨h1,h2⟩,h3⟩,h4⟩,h5⟩:=h
 exact ⟨by omega,by omega,fun x hx=>h4 x hx⟩
def openN (l:List Note) (s:Spot):Nat:=if s.note<0\/s.line<0 then 0 else (max (max (min s.begun l.length) 0-s.note) 0).toNat
def q01j (l:List Note):Nat->Int->Int->List Piece
 |0,_,_=>[]
 |k+1,a,line=>⟨a,line,(rd l a).lines.length⟩::q01j l k (a+1) 0
def q01k (x:Note) (frm:Int):List Int:=sel (q02f x.lines x.pens frm) 0 (x.lines.length+1)
def lastP (s:Spot) (n:Nat):Int:=s.note+n-1
def fromP (s:Spot) (n:Nat):Int:=if n=1 then s.line else 0
def oneP (l:List Note) (s:Spot) (n:Nat) (t:Int):List Piece:=q01j l (n-1) s.note s.line++[⟨lastP s n,fromP s n,t⟩]
def q00j (l:List Note) (s:Spot):List (List Piece):=
 (if openN l s=0\/s.fresh=false then [[]] else [])++
 if openN l s=0 then [] else (q01k (rd l (lastP s (openN l s))) (fromP s (openN l s))).map (oneP l s (openN l s))
def q05q (l:List Note) (s:Spot):List Piece:=(q00j l s).headD []
def mayPc (l:List Note) (s:Spot) (p:List Piece):Bool:=(q00j l s).any fun q=>decide (q=p)
def q02h (s:Spot):Spot:=⟨s.note,s.line,s.begun,true⟩
theorem q08w {l:List Note} {s:Spot} (hb:s.begun<=l.length) (hn:0<=s.note) (hl:0<=s.line):openN l s=(s.begun-s.note).toNat:=by
 unfold openN;rw [if_neg (by omega)];omega
theorem q0pv {s:Spot} (h:s.note<s.begun):lastP s (s.begun-s.note).toNat=s.begun-1:=by unfold lastP;omega
theorem q0Cu {s:Spot}:fromP s (s.begun-s.note).toNat=if s.note+1=s.begun then s.line else 0:=by
 unfold fromP
 by_cases d:s.note+1=s.begun
 ·rw [if_pos d,if_pos (by omega)]
 ·rw [if_neg d,if_neg (by omega)]
theorem q0Yk {l:List Note} {s:Spot} {p:List Piece} (hb:s.begun<=l.length) (hn:0<=s.note) (hl:0<=s.line) (h:p∈q00j l s):
  (p=[]/\(s.begun<=s.note\/s.fresh=false))\/
  (s.note<s.begun/\ ∃q t,p=q++[⟨s.begun-1,if s.note+1=s.begun then s.line else 0,t⟩]/\(if s.note+1=s.begun then s.line else 0)<t/\t<=(rd l (s.begun-1)).lines.length/\mayF (rd l (s.begun-1)).lines (rd l (s.begun-1)).pens t=true):=by
 unfold q00j at h
 rw [q08w hb hn hl] at h
 rcases ZY.1 h with h|h
 ·by_cases c:(s.begun-s.note).toNat=0\/s.fresh=false
  ·rw [if_pos c] at h
   refine .inl ⟨by simpa using h,?_⟩
   rcases c with c|c
   ·exact .inl (by omega)
   ·exact .inr c
  ·rw [if_neg c] at h;simp at h
 ·by_cases c:(s.begun-s.note).toNat=0
  ·rw [if_pos c] at h;simp at h
  ·rw [if_neg c] at h
   have hlt:s.note<s.begun:=by omega
   obtain ⟨t,ht,rfl⟩:=ZJ.1 h
   rw [q0pv hlt,q0Cu] at ht
   have:=q10k _ _ t ht
   unfold q02f at this
   simp only [Zb,decide_eq_true_eq] at this
   refine .inr ⟨hlt,q01j l ((s.begun-s.note).toNat-1) s.note s.line,t,?_,this.2.2.1,by omega,this.2.2.2⟩
   unfold oneP
   rw [q0pv hlt,q0Cu]
theorem q0Ye (l:List Note) (s:Spot):nextF l s []=(s.note,s.line):=rfl
theorem q102 (l:List Note) (s:Spot) (q:List Piece) (x:Piece):nextF l s (q++[x])=nextP l x:=by unfold nextF;simp
theorem q0ja (l:List Note) (s:Spot) (p:List Piece):mayPc l s p=true↔p∈q00j l s:=by
 unfold mayPc
 rw [List.any_eq_true]
 constructor
 ·rintro ⟨q,h,e⟩
  have:q=p:=by simpa using e
  exact this▸h
 ·intro h;exact ⟨p,h,by simp⟩
theorem q0Y0 (l:List Note) (n:Int) (h0:0<=n) (h1:n<l.length):lineN (l.take (n+1).toNat)=lineN (l.take n.toNat)+(rd l n).lines.length:=by
 have e:(n+1).toNat=n.toNat+1:=by omega
 rw [e,q03n (q026 l n h0 h1),q0Ys]
theorem q0Yt (l:List Note) (a:Nat): ∀k:Nat,lineN (l.take a)<=lineN (l.take (a+k))
 |0=>ZS _
 |k+1=>by
  have ih:=q0Yt l a k
  rcases Z2 (a+k) l.length with h|h
  ·have:=q03n (Zl h)
   rw [<-Z3,this,q0Ys];omega
  ·rw [Zy (show l.length<=a+(k+1) by omega)]
   rw [Zy h] at ih
   exact ih
theorem q0Yb (l:List Note) {a b:Int} (h:a<=b):lineN (l.take a.toNat)<=lineN (l.take b.toNat):=by
 have:=q0Yt l a.toNat (b.toNat-a.toNat)
 rw [show a.toNat+(b.toNat-a.toNat)=b.toNat by omega] at this
 exact this
def progN (l:List Note) (note line:Int):Int:=lineN (l.take note.toNat)+line
theorem q0Z6 (l:List Item) (a:Nat):l.take (trimN l a)=l.take a++(l.drop a).takeWhile q04c:=by
 unfold trimN
 rw [List.take_add,q0Yv]
theorem q0Zs {x:Item} (h:q04c x=true):x.k=2\/x.k=3:=by simpa [q04c] using h
theorem q0Yf (l:List Item) (n:Int):putN l (trimF l n)=trimN l (putN l n):=q0Ce (q0Zi l n)
theorem q103 (l r:List Item):q01a (l++r)=q01a l+cnt 5 r:=by
 unfold q01a cnt
 simp [List.filter_append]
theorem q104 (j:Job) (n:Int):q00z j (trimF j.items n)=q00z j n:=by
 unfold q00z
 rw [q0Yf,q0Z6,q103,q10x]
 ·simp
 ·intro x hx
  have:=q0Zs (q0Y4 hx)
  omega
theorem q0Yl (fs:List Float): ∀(r:List Item) (c:C3),(∀x∈r,x.k≠6)->r.foldl (addAt fs) c=c
 |[],_,_=>rfl
 |x::r,c,h=>by
  have h1:addAt fs c x=c:=by unfold addAt;rw [if_neg (h x (by simp))]
  simp only [ZT,h1]
  exact q0Yl fs r c fun y hy=>h y (by simp [hy])
theorem q0Yu (fs:List Float) (l r:List Item):q00n fs (l++r)=r.foldl (addAt fs) (q00n fs l):=by simp [q00n]
theorem q105 (j:Job) (n:Int):q01i j (trimF j.items n)=q01i j n:=by
 unfold q01i
 rw [q0Yf,q0Z6,q0Yu,q0Yl]
 intro x hx
 have:=q0Zs (q0Y4 hx)
 omega
theorem q0Z7 (l:List Item) {a b:Int} (h:a<=b):putN l a<=putN l b:=by unfold putN;omega
theorem q106 (j:Job) {a b:Int} (h:a<=b):q00z j a<=q00z j b:=by
 unfold q00z q01a
 have:=q0d8 5 (j.items.take (putN j.items b)) (putN j.items a)
 rw [List.take_take,Nat.min_eq_left (q0Z7 j.items h)] at this
 omega
def leC (x y:C3):Prop:=x.a<=y.a/\x.b<=y.b/\x.c<=y.c
theorem q0pw (x y:C3):inC x y=true↔leC x y:=by unfold inC leC;simp only [Zb,decide_eq_true_eq,and_assoc]
theorem q0e6 (x:C3):leC x x:=⟨ZS _,ZS _,ZS _⟩
theorem q0bu {x y z:C3} (h:leC x y) (g:leC y z):leC x z:=⟨Int.le_trans h.1 g.1,Int.le_trans h.2.1 g.2.1,Int.le_trans h.2.2 g.2.2⟩
theorem q0na (fs:List Float) (c:C3) (x:Item):leC c (addAt fs c x):=by
 unfold addAt ofS bump leC
 (repeat' split)<;>(try simp only)<;>omega
theorem q0vq (fs:List Float) (l:List Item):leC (dueP fs l) (q00n fs l):=by
 have key: ∀n,n<=l.length->leC (dueP fs (l.take n)) (q00n fs (l.take n)):=by
  intro n
  induction n with
  |zero=>intro _;rw [List.take_zero];exact q0e6 _
  |succ n ih=>
   intro h
   rw [q03n (Zl (show n<l.length by omega)),q0bo,q0db]
   split
   ·exact q0na _ _ _
   ·exact q0bu (ih (by omega)) (q0na _ _ _)
 have:=key l.length (Zm _)
 rwa [List.take_length] at this
def cF (fs:List Float) (n:Nat):C3:=⟨(figOf 0 0 (fs.take n)).length,(figOf 1 0 (fs.take n)).length,(figOf 2 0 (fs.take n)).length⟩
theorem q0bv (c:Int): ∀(a b:List Float) (i:Nat),figOf c i (a++b)=figOf c i a++figOf c (i+a.length) b
 |[],b,i=>by simp [figOf]
 |x::a,b,i=>by
  simp only [Zd,figOf,q0bv c a b (i+1),Zg,Zx]
  rw [show i+1+a.length=i+(a.length+1) by omega]
theorem q0Cv (fs:List Float) (n:Nat) (f:Float) (h:fs[n]? =some f):cF fs (n+1)=bump (cF fs n) f.c:=by
 unfold cF bump
 rw [q03n h]
 simp only [q0bv,figOf,Zt,List.append_nil]
 by_cases c0:f.c=0
 ·simp [c0]
 ·by_cases c1:f.c=1
  ·simp [c1]
  ·by_cases c2:f.c=2
   ·simp [c2]
   ·simp [c0,c1,c2]
theorem q0ci (fs:List Float) (m:Nat) (hm:m<=fs.length): ∀(l:List Item) (i n:Nat),n<=m->refF 6 m i n l<0->l.foldl (addAt fs) (cF fs n)=cF fs m
 |[],i,n,hn,h=>by
  simp only [refF] at h
  by_cases c:n<m
  ·rw [if_pos c] at h;omega
  ·have:n=m:=by omega
   subst this;rfl
 |x::r,i,n,hn,h=>by
  simp only [refF] at h
  simp only [ZT]
  by_cases hk:x.k=6
  ·rw [if_pos hk] at h
   by_cases hx:x.n=n/\n<m
   ·rw [if_pos hx] at h
    have hf:fs[n]? =some (fs[n]'(by omega)):=Zl (by omega)
    have e:addAt fs (cF fs n) x=cF fs (n+1):=by
     rw [q0Cv fs n _ hf]
     unfold addAt ofS
     rw [if_pos hk,hx.1]
     have ha:atF fs (n:Int)=some (fs[n]'(by omega)):=by
      unfold atF
      rw [if_pos ⟨by omega,by omega⟩,rd_of hf]
     rw [ha]
    rw [e]
    exact q0ci fs m hm r (i+1) (n+1) (by omega) h
   ·rw [if_neg hx] at h;omega
  ·rw [if_neg hk] at h
   have e:addAt fs (cF fs n) x=cF fs n:=by unfold addAt;rw [if_neg hk]
   rw [e]
   exact q0ci fs m hm r (i+1) n hn h
theorem q06g (c:Int) (fs:List Float) (n:Nat):(figOf c 0 (fs.take n)).length<=(figOf c 0 fs).length:=by
 conv=>rhs;rw [<-List.take_append_drop n fs,q0bv,Zt]
 omega
def allC (fs:List Float):C3:=⟨(figOf 0 0 fs).length,(figOf 1 0 fs).length,(figOf 2 0 fs).length⟩
theorem cF_le (fs:List Float) (n:Nat):leC (cF fs n) (allC fs):=by
 have a:=q06g 0 fs n
 have b:=q06g 1 fs n
 have c:=q06g 2 fs n
 unfold leC cF allC
 simp only
 omega
theorem q0jb {j:Job} (h:refF 6 j.floats.length 0 0 j.items<0) (n:Int):leC (q01i j n) (allC j.floats):=by
 unfold q01i
 have h1:=q0bm 6 j.floats.length j.items 0 0 (putN j.items n) h
 have h2:=q07c 6 j.floats.length j.items 0 0 (Zj _) h
 have h3:=q0d8 6 j.items (putN j.items n)
 rw [Zs] at h1
 have:=q0ci j.floats (cnt 6 (j.items.take (putN j.items n))) (by omega) _ 0 0 (Zj _) h1
 have e:cF j.floats 0=⟨0,0,0⟩:=rfl
 rw [e] at this
 unfold q00n
 rw [this]
 exact cF_le _ _
theorem q0od (j:Job) (s:Stt):q03q j s=true↔(s.line=0/\s.note=q00z j s.at_)\/
  (1<=s.line/\s.note=q00z j s.at_-1/\0<=s.note/\s.line<(rd j.notes s.note).lines.length/\mayF (rd j.notes s.note).lines (rd j.notes s.note).pens s.line=true):=by
 unfold q03q
 by_cases h:s.line=0
 ·rw [if_pos h,decide_eq_true_eq]
  constructor
  ·intro e;exact .inl ⟨h,e⟩
  ·rintro (e|e)
   ·exact e.2
   ·omega
 ·rw [if_neg h]
  by_cases g:s.note≠q00z j s.at_-1\/s.note<0\/s.line<1
  ·rw [if_pos g]
   constructor
   ·intro e;cases e
   ·rintro (e|e)<;>omega
  ·rw [if_neg g]
   simp only [Zb,decide_eq_true_eq]
   constructor
   ·rintro ⟨a,b⟩;exact .inr ⟨by omega,by omega,by omega,a,b⟩
   ·rintro (e|⟨_,_,_,a,b⟩)
    ·omega
    ·exact ⟨a,b⟩
structure rightP (j:Job) (s:Stt):Prop where
 at0:0<=s.at_
 at1:s.at_<=j.items.length
 trim:(trimF j.items s.at_:Int)=s.at_
 col0:0<=s.col
 col1:s.col<=j.g.cols
 car:q03q j s=true
 h0:leC zeroC s.h
 h1:leC s.h (q01i j s.at_)
theorem q02k (j:Job) (s:Stt):q01g j s=true↔rightP j s:=by
 unfold q01g
 by_cases g:s.at_<0\/(j.items.length:Int)<s.at_\/(trimF j.items s.at_:Int)≠s.at_\/s.col<0\/j.g.cols<s.col
 ·rw [if_pos g]
  constructor
  ·intro e;cases e
  ·rintro ⟨a,b,c,d,e,-,-,-⟩;omega
 ·rw [if_neg g]
  simp only [Zb,q0pw]
  constructor
  ·rintro ⟨⟨a,b⟩,c⟩;exact ⟨by omega,by omega,by omega,by omega,by omega,a,b,c⟩
  ·intro h;exact ⟨⟨h.car,h.h0⟩,h.h1⟩
structure wfJ (j:Job):Prop where
 w:okW j
 notes: ∀n∈j.notes,1<=n.lines.length
 five:q01a j.items=j.notes.length
 six:refF 6 j.floats.length 0 0 j.items<0
 fl: ∀f∈j.floats,(0<=f.c/\f.c<=2)/\0<=f.h/\f.h<=j.g.first
 hi0:0<=j.g.first
 high:j.g.first<=j.g.high/\j.g.high<=4294967296
 sep:0<=j.g.sep/\j.g.sep<=4294967296
 many:0<=j.g.topMany/\0<=j.g.botMany/\0<=j.g.topMost/\0<=j.g.botMost
 cols:1<=j.g.cols
theorem q09w {j:Job} (w:wfJ j) {s:Stt} (r:rightP j s):0<=s.note/\0<=s.line/\s.note<=j.notes.length/\(s.line≠0->s.note<j.notes.length/\s.line<(rd j.notes s.note).lines.length):=by
 have b:=q0bq j s.at_
 have b2:=q03o w.w s.at_
 rcases (q0od j s).1 r.car with ⟨h1,h2⟩|⟨h1,h2,h3,h4,-⟩
 ·refine ⟨by omega,by omega,by omega,fun h=>absurd h1 h⟩
 ·exact ⟨by omega,by omega,by omega,fun _=>⟨by omega,h4⟩⟩
theorem q10l {j:Job} (w:wfJ j) {s:Stt} (r:rightP j s) {b:Int} {fr:Bool} {p:List Piece} (hb:q00z j s.at_<=b) (hb2:b<=j.notes.length) (hf:fr=false->b<=q00z j s.at_)
  (hp:p∈q00j j.notes ⟨s.note,s.line,b,fr⟩):
  (((nextF j.notes ⟨s.note,s.line,b,fr⟩ p).2=0/\(nextF j.notes ⟨s.note,s.line,b,fr⟩ p).1=b)\/
    (1<=(nextF j.notes ⟨s.note,s.line,b,fr⟩ p).2/\(nextF j.notes ⟨s.note,s.line,b,fr⟩ p).1=b-1/\0<=(nextF j.notes ⟨s.note,s.line,b,fr⟩ p).1/\
     (nextF j.notes ⟨s.note,s.line,b,fr⟩ p).2<(rd j.notes (nextF j.notes ⟨s.note,s.line,b,fr⟩ p).1).lines.length/\mayF (rd j.notes (nextF j.notes ⟨s.note,s.line,b,fr⟩ p).1).lines (rd j.notes (nextF j.notes ⟨s.note,s.line,b,fr⟩ p).1).pens (nextF j.notes ⟨s.note,s.line,b,fr⟩ p).2=true))/\
  progN j.notes s.note s.line<=progN j.notes (nextF j.notes ⟨s.note,s.line,b,fr⟩ p).1 (nextF j.notes ⟨s.note,s.line,b,fr⟩ p).2/\
  (p≠[]->progN j.notes s.note s.line<progN j.notes (nextF j.notes ⟨s.note,s.line,b,fr⟩ p).1 (nextF j.notes ⟨s.note,s.line,b,fr⟩ p).2):=by
 obtain ⟨n0,l0,n1,n2⟩:=q09w w r
 rcases q0Yk (s:=⟨s.note,s.line,b,fr⟩) hb2 n0 l0 hp with ⟨rfl,h⟩|⟨h,q,t,rfl,ht,ht2,hm⟩
 ·rw [q0Ye]
  simp only at h⊢
  refine ⟨?_,ZS _,fun h=>absurd rfl h⟩
  have hbb:b<=s.note\/b<=q00z j s.at_:=h.imp id hf
  rcases (q0od j s).1 r.car with ⟨h1,h2⟩|⟨h1,h2,h3,h4,h5⟩
  ·exact .inl ⟨h1,by omega⟩
  ·exact .inr ⟨h1,by omega,h3,h4,h5⟩
 ·rw [q102]
  simp only at h ht ht2 hm⊢
  have hpr:progN j.notes s.note s.line<lineN (j.notes.take (b-1).toNat)+t:=by
   unfold progN
   by_cases d:s.note+1=b
   ·rw [if_pos d] at ht
    have e:b-1=s.note:=by omega
    rw [e];omega
   ·rw [if_neg d] at ht
    have h1:=q0Y0 j.notes s.note n0 (by omega)
    have h2:=q0Yb j.notes (show s.note+1<=b-1 by omega)
    have h3:s.line<=(rd j.notes s.note).lines.length:=by
     by_cases z:s.line=0
     ·omega
     ·have:=(n2 z).2;omega
    omega
  have ht0:0<t:=by
   by_cases d:s.note+1=b
   ·rw [if_pos d] at ht;omega
   ·rw [if_neg d] at ht;exact ht
  unfold nextP
  by_cases c:0<=b-1/\b-1<j.notes.length/\t=(rd j.notes (b-1)).lines.length
  ·rw [if_pos c]
   have e:=q0Y0 j.notes (b-1) c.1 c.2.1
   rw [show b-1+1=b by omega] at e⊢
   have:progN j.notes s.note s.line<progN j.notes b 0:=by
    have hx:progN j.notes b 0=lineN (j.notes.take b.toNat)+0:=rfl
    rw [hx,e];omega
   exact ⟨.inl ⟨rfl,rfl⟩,by simp only;omega,fun _=>this⟩
  ·rw [if_neg c]
   simp only
   exact ⟨.inr ⟨by omega,trivial,by omega,by omega,hm⟩,by unfold progN at*;omega,fun _=>hpr⟩
def repP (p:List Piece) (v:V) (H:Heap) (B:List Nat):Prop:=
 (v=q00v p/\B=[])\/ ∃id,v= .row id p.length 0 p.length/\Eng.rowAt H id=some (3,upV (p.map q00g))/\B=[id]
theorem q0Cx (l:List Note) (s:Spot) (hl:l.length<=1000000) (hn:s.note<=1000000) (H:Heap):clD EE (.p (.fn 338)) [vSpot s,q00b l] H=some (vI (openN l s),none):=by
 rw [q002 _ _ _ _ _ _ (noP _) fn338]
 unfold openN
 by_cases c1:s.note<0
 ·simp [zEc,c1]
 ·by_cases c2:s.line<0
  ·simp [zEc,c1,c2]
  ·have w:IntKind.i64.wrap (max (min s.begun l.length) 0-s.note)=max (min s.begun l.length) 0-s.note:=w64 (by omega) (by omega)
   have e:(((max (max (min s.begun (l.length:Int)) 0-s.note) 0).toNat:Nat):Int)=max (max (min s.begun (l.length:Int)) 0-s.note) 0:=by omega
   simp [zEc,c1,c2,w]
abbrev cSpot (s:Spot):List V:=[vI s.note,vI s.line,vI s.begun,vB s.fresh]
def allV (p:Nat):V:= .fn (.func 337) [] [.ptr (p+1) 0,.ptr p 0]
@[simp] theorem q0Nw (p:Nat):V.notL (allV p)=true:=_root_.id rfl
@[simp] theorem q0Jf (p k:Nat):q00s (allV p) k=true:=_root_.id rfl
@[simp] theorem q0Nx (p:Nat):V.outB (allV p)=true:=_root_.id rfl
@[simp] theorem q0Ny (p:Nat):outL (allV p)=allV p:=_root_.id rfl
@[simp] theorem q0Jg (p:Nat):normA (allV p)=allV p:=_root_.id rfl
theorem q0dc (l:List Note) (s:Spot) (H:Heap):clD EE (.p (.fn 272)) [q00b l,vSpot s] H=some (allV H.length,some (H++[.box [q00b l],.box (cSpot s)],[])):=by
 rw [q002 _ _ _ _ _ _ (noP _) fn272]
 simp [zEc,allV]
def q03y (s:Spot) (acc:List Piece) (i:Nat) (x:Note):List Piece:=acc++[⟨s.note+i,if i=0 then s.line else 0,x.lines.length⟩]
theorem q0dd (l:List Note) (s:Spot): ∀(k i:Nat) (acc:List Piece),i≠0->0<=s.note->s.note+i+k<=l.length->fold (q03y s) acc i ((l.drop (s.note+i).toNat).take k)=acc++q01j l k (s.note+i) 0
 |0,i,acc,_,_,_=>by simp [fold,q01j]
 |k+1,i,acc,hi,h0,h=>by
  have hlt:(s.note+i).toNat<l.length:=by omega
  have hx:=q026 l (s.note+i) (by omega) (by omega)
  have hd:l.drop (s.note+i).toNat=rd l (s.note+i)::l.drop (s.note+i+1).toNat:=by
   rw [ZA hlt]
   have e:l[(s.note+i).toNat]=rd l (s.note+i):=by
    rw [Zl hlt] at hx;simpa using hx
   rw [e,show (s.note+i).toNat+1=(s.note+i+1).toNat by omega]
  have ih:=q0dd l s k (i+1) (q03y s acc i (rd l (s.note+i))) (by omega) h0 (by push_cast;omega)
  rw [hd,ZZ,fold]
  rw [show (s.note+i+1).toNat=(s.note+(i+1:Nat)).toNat by push_cast;rw [Int.add_assoc],ih]
  unfold q03y
  rw [if_neg hi,q01j,Zx,List.singleton_append]
  rw [show s.note+((i+1:Nat):Int)=s.note+i+1 by push_cast;omega]
theorem q0ft (l:List Note) (s:Spot) (k:Nat) (h0:0<=s.note) (h:s.note+k<=l.length):fold (q03y s) [] 0 ((l.drop s.note.toNat).take k)=q01j l k s.note s.line:=by
 cases k with
 |zero=>simp [fold,q01j]
 |succ k=>
  have hlt:s.note.toNat<l.length:=by omega
  have hx:=q026 l s.note (by omega) (by omega)
  have hd:l.drop s.note.toNat=rd l s.note::l.drop (s.note+(1:Nat)).toNat:=by
   rw [ZA hlt]
   have e:l[s.note.toNat]=rd l s.note:=by
    rw [Zl hlt] at hx;simpa using hx
   rw [e,show s.note.toNat+1=(s.note+(1:Nat)).toNat by omega]
  rw [hd,ZZ,fold,q0dd l s k 1 _ (by omega) h0 (by push_cast at*;omega)]
  unfold q03y
  rw [if_pos rfl,q01j]
  simp
def alE (q p n:Nat) (s:Spot) (seg:List Note) (G:Heap) (B:Nat) (d:List Nat) (acc:List Piece) (i:Nat):St:=
 ⟨[(0,.yld q),(1,.ptr (p+1) 0),(2,.ptr p 0),(4,vI n),(5,.row G.length acc.length 0 acc.length),(6,vI (if i=0 then s.line else 0)),(42,q00b seg),(43,vI seg.length),(44,vI i)],[],G++[.row 3 (upV (acc.map q00g))],B,d⟩
def alX (q p n:Nat) (s:Spot) (seg:List Note) (G:Heap) (B:Nat) (d:List Nat) (acc:List Piece):Ex×St:=
 (.exit 0,⟨[(0,.yld q),(1,.ptr (p+1) 0),(2,.ptr p 0),(4,vI n),(5,.row G.length acc.length 0 acc.length),(6,vI (if seg.length=0 then s.line else 0)),(42,q00b seg),(43,vI seg.length),(44,vI seg.length),(45,vB false)],[],G++[.row 3 (upV (acc.map q00g))],B,d⟩)
theorem q0Ey (q p n:Nat) (s:Spot) (hs:0<=s.note/\s.note<=1000000) (seg:List Note) (hl:seg.length<=1000000) (hn: ∀x∈seg,x.lines.length<=1000000) (G:Heap) (B:Nat) (hB:B<=G.length) (d:List Nat) (b2:Eng.boxAt G (p+1)=some (cSpot s)):
  evD EE q0p1 (alE q p n s seg G B d [] 0)=some (alX q p n s seg G B d (fold (q03y s) [] 0 seg)):=by
 unfold q0p1
 refine Eq.trans (q00u seg (fun acc i=>alE q p n s seg G B d acc i) (fun acc i=>acc.length=i) (q03y s) (fun acc=>alX q p n s seg G B d acc) (fun _ _=>rfl) ?_ ?_ [] 0 rfl (Zj _)) (by rw [ZG])
 ·rintro acc i x hi hx
  refine ⟨?_,by simp [q03y,hi]⟩
  have hlt:=(Za.1 hx).1
  have w:IntKind.i64.wrap ((i:Int)+1)=((i+1:Nat):Int):=w64 (by omega) (by omega)
  have w2:IntKind.i64.wrap (s.note+(i:Int))=s.note+i:=w64 (by omega) (by omega)
  have hix:=fun H k=>q00c H q00e (k:=k) (s:=2) hx rfl
  simp only [q00e] at hix
  have hb:=fun T=>(q077 T (q02y b2)).trans b2
  have hm:acc.length+1<most:=by unfold most;omega
  have hd:addD B G.length d=d:=by unfold addD;rw [if_neg (by omega)]
  simp [alE,hlt,hix,hb,subs,q001,w,w2,hm,hd,hB,q03y,q00g]
 ·rintro acc hi
  simp [alE,alX]
def bE (q id k:Nat) (frm last:Int) (T:List Int) (B:Nat) (H:Heap) (d:List Nat) (i:Nat):St:=
 ⟨[(0,.yld q),(5,.row id k 0 k),(6,vI frm),(9,vI last),(72,sli T),(73,vI T.length),(74,vI i)],[],H,B,d⟩
structure Came (R:Nat->List Nat->Heap->Prop) (A:List Nat) (H0:Heap) (q c:Nat) (A':List Nat) (H':Heap) (d:List Nat):Prop where
 r:R c A' H'
 keep:Keep A H0 H'
 sub: ∀k∈A',k∈A\/H0.length<=k
 dirty: ∀k∈d,k∈A\/H0.length<=k
 q:q∈d\/(c=0/\A'=A)
def bR (R:Nat->List Nat->Heap->Prop) (A:List Nat) (H0:Heap) (q id c0:Nat) (w:List Piece) (frm last:Int) (T:List Int) (i:Nat) (S:St):Prop:=
 ∃A' H' d,S=bE q id w.length frm last T H0.length H' d i/\Came R A H0 q (c0+i) A' H' d/\Eng.rowAt H' id=some (3,upV (w.map q00g))/\id∉A'
def bF (R:Nat->List Nat->Heap->Prop) (F:List Nat->Heap->Prop) (A:List Nat) (H0:Heap) (q c:Nat) (r:Ex×St):Prop:=
 ∃A' H' d env,(r=(.exit 2,⟨env,[],H',H0.length,d⟩)/\Came R A H0 q c A' H' d)\/(r=(.ret,⟨env,[],H',H0.length,d⟩)/\F A' H'/\Keep A H0 H'/\(∀k∈A',k∈A\/H0.length<=k)/\(∀k∈d,k∈A\/H0.length<=k)/\q∈d)
theorem q0nb {P:Nat->Prop} {B:Nat} {ds d:List Nat} (h1: ∀k∈ds,P k) (h2: ∀k∈d,P k): ∀k∈ds.foldr (addD B) d,P k:=fun k hk=>by
 rcases q06d hk with h|h
 ·exact h1 k h
 ·exact h2 k h
theorem b_lp (L:List (List Piece)) (R:Nat->List Nat->Heap->Prop) (F:List Nat->Heap->Prop) (q:Nat) (he:Eats repP q L R F) (A:List Nat) (H0:Heap) (hq:q<H0.length) (id c0:Nat) (w:List Piece) (hw:w.length<=1000000) (frm last:Int) (T:List Int) (hT:T.length<=10000000)
  (hL: ∀i t,T[i]? =some t->L[c0+i]? =some (w++[⟨last,frm,t⟩])) (S:St) (hS:bR R A H0 q id c0 w frm last T 0 S):
  ∃r,evD EE q0Wm S=some r/\bF R F A H0 q (c0+T.length) r:=by
 unfold q0Wm
 refine q0vo T (bR R A H0 q id c0 w frm last T) (bF R F A H0 q (c0+T.length)) (by rintro i S ⟨A',H',d,rfl,-⟩;rfl) ?_ ?_ _ 0 S rfl hS (Zj _)
 ·rintro i x S ⟨A',H',d,rfl,hC,hr,hid⟩ hx
  have hlt:=(Za.1 hx).1
  have w1:IntKind.i64.wrap ((i:Int)+1)=((i+1:Nat):Int):=w64 (by omega) (by omega)
  have hix:=fun H k=>q00c H encI (k:=k) (s:=1) hx rfl
  simp only [encI] at hix
  have hbel:=he.bel _ _ _ hC.r
  have hidl:=q09d hr
  have hH0:=hC.keep.1
  have hr2:Eng.rowAt (H'++[.row 3 (upV ((w++[(⟨last,frm,x⟩:Piece)]).map q00g))]) H'.length=some (3,upV ((w++[(⟨last,frm,x⟩:Piece)]).map q00g)):=by simp [Eng.rowAt]
  obtain ⟨b,H3,ds,A3,hc,hqd,k3,d3,s3,ht,hf⟩:=he.step (c0+i) A' _ _ (.row H'.length (w++[(⟨last,frm,x⟩:Piece)]).length 0 (w++[(⟨last,frm,x⟩:Piece)]).length) [H'.length] (hL i x hx)
   (he.stay _ _ _ _ hC.r (Stay.app _ _ [.row 3 (upV ((w++[(⟨last,frm,x⟩:Piece)]).map q00g))] hbel)) (.inr ⟨_,rfl,hr2,rfl⟩) (fun k hk=>by
    simp at hk;subst hk
    exact ⟨fun h=>by have:=hbel _ h;omega,by omega⟩)
  have kk:Keep A H0 H3:=(hC.keep.trans (Keep.app A' H' _) (fun k hk=>hC.sub k hk)).trans k3 hC.sub
  have dd: ∀k∈ds.foldr (addD H0.length) d,k∈A\/H0.length<=k:=q0nb (fun k hk=>by
   rcases d3 k hk with h|h
   ·exact hC.sub k h
   ·simp at h;omega) hC.dirty
  have ss: ∀k∈A3,k∈A\/H0.length<=k:=fun k hk=>by
   rcases s3 k hk with h|h|h
   ·exact hC.sub k h
   ·simp at h;omega
   ·simp at h;omega
  have qq:q∈ds.foldr (addD H0.length) d:=q09u hqd hq
  have hd:addD H0.length H'.length d=d:=by unfold addD;rw [if_neg (by omega)]
  have hm:w.length+1<most:=by unfold most;omega
  have h1:1<most:=by decide
  have row3:Eng.rowAt H3 id=some (3,upV (w.map q00g)):=by
   refine Keep.row k3 ?_ hid
   rw [q03h _ hidl];exact hr
  have id3:id∉A3:=fun h=>by
   rcases s3 id h with h|h|h
   ·exact hid h
   ·simp at h;omega
   ·simp at h;omega
  have hcl:=fun H=>q0f0 EE 340 3 [vI 0,vI 0,vI 0] H (.row id 0 0 0) (noP _) fn340 rfl
  have hcr: ∀y ys,w=y::ys->clD EE (.p (.fn 340)) [.row id (ys.length+1) 0 (ys.length+1)] H'=some (.row H'.length (ys.length+1) 0 (ys.length+1),some (H'++[.row 3 (upV ((y::ys).map q00g))],[])):=by
   rintro y ys rfl
   have:=q0vp EE 340 3 [vI 0,vI 0,vI 0] H' id _ (noP _) fn340 hr (by simp [upV]) (q0lk q00g 3 (fun _=>rfl) _) (by simp [upV];simp at hm;omega)
   simpa [upV] using this
  cases b with
  |true=>
   refine .inl ⟨bE q id w.length frm last T H0.length H3 (ds.foldr (addD H0.length) d) (i+1),?_,A3,H3,_,rfl,⟨ht rfl,kk,ss,dd,.inl qq⟩,row3,id3⟩
   cases w with
   |nil=>
    simp [q00g] at hc
    simp [bE,hlt,hix,subs,q001,hcl,h1,hc,w1]
   |cons y ys=>
    have hcr:=hcr y ys rfl
    simp [q00g,q04x] at hc hcr hm
    simp [bE,hlt,hix,subs,q001,hcr,hm,hd,hH0,hc,w1,q04x,okEl,show¬H'.length<H0.length by omega]
  |false=>
   refine .inr ⟨(.ret,⟨[(0,.yld q),(5,.row id w.length 0 w.length),(6,vI frm),(9,vI last),(72,sli T),(73,vI T.length),(74,vI i),(89,vB true)],[],H3,H0.length,ds.foldr (addD H0.length) d⟩),?_,by simp,A3,H3,_,_,.inr ⟨rfl,hf rfl,kk,ss,dd,qq⟩⟩
   cases w with
   |nil=>
    simp [q00g] at hc
    simp [bE,hlt,hix,subs,q001,hcl,h1,hc,w1]
   |cons y ys=>
    have hcr:=hcr y ys rfl
    simp [q00g,q04x] at hc hcr hm
    simp [bE,hlt,hix,subs,q001,hcr,hm,hd,hH0,hc,w1,q04x,okEl,show¬H'.length<H0.length by omega]
 ·rintro S ⟨A',H',d,rfl,hC,hr,hid⟩
  refine ⟨(.exit 2,⟨[(0,.yld q),(5,.row id w.length 0 w.length),(6,vI frm),(9,vI last),(72,sli T),(73,vI T.length),(74,vI T.length),(75,vB false)],[],H',H0.length,d⟩),?_,by simp,A',H',d,_,.inl ⟨rfl,hC⟩⟩
  simp [bE]
theorem q0Ez (l:List Note) (a:Int) (n:Nat) (H:Heap) (h0:0<=a) (h:a+n<=l.length) (hn:1<=n):
  slcI H 2 (q00b l) (some (vI a)) (some (vI (a+n-1)))=some (q00b ((l.drop a.toNat).take (n-1))):=by
 have e:(a+n-1-a).toNat=n-1:=by omega
 have hh:q066 2 (l.map q00e)=true:=by cases l<;>rfl
 have g:a<=a+n-1:=by omega
 have g2:a+n-1<=(l.length:Int):=by omega
 simp [slcI,slcV,e,hh,h0,g,g2,List.map_take,List.map_drop]
theorem q0zf {R:Nat->List Nat->Heap->Prop} {F:List Nat->Heap->Prop} {L:List (List Piece)} {q:Nat} (he:Eats repP q L R F) {A A1:List Nat} {H H1:Heap} {c:Nat} {d:List Nat} (h:Came R A H q c A1 H1 d) (o:DObj):Came R A H q c A1 (H1++[o]) d:=
 ⟨he.stay _ _ _ _ h.r (Stay.app _ _ _ (he.bel _ _ _ h.r)),h.keep.trans (Keep.app A1 H1 [o]) h.sub,h.sub,h.dirty,h.q⟩
theorem q0a5 (l:List Note) (s:Spot) (hl:l.length<=1000000) (hx: ∀n∈l,n.lines.length<=1000000) (hb:s.begun<=l.length) (hn:0<=s.note) (hn2:s.note<=1000000) (hli:0<=s.line) (p q:Nat)
  {R:Nat->List Nat->Heap->Prop} {F:List Nat->Heap->Prop} {A:List Nat} {H:Heap} (he:Eats repP q (q00j l s) R F) (h0:R 0 A H) (hq:q<H.length)
  (b1:Eng.boxAt H p=some [q00b l]) (b2:Eng.boxAt H (p+1)=some (cSpot s)) (a1:p∉A) (a2:p+1∉A):
  ∃r,clD EE (allV p) [.yld q] H=some (.tup [],r)/\Gave (q00j l s) R F A H r:=by
 have op:=fun H=>q0Cx l s hl hn2 H
 have e:=q08w hb hn hli
 have hch:q00j l s=(if openN l s=0\/s.fresh=false then [[]] else [])++if openN l s=0 then [] else (q01k (rd l (lastP s (openN l s))) (fromP s (openN l s))).map (oneP l s (openN l s)):=rfl
 have first:(openN l s=0\/s.fresh=false)-> ∃b H' ds A',clD EE (.yld q) [.p (.sl [])] H=some (vB b,some (H',ds))/\q∈ds/\Keep A H H'/\(∀k∈ds,k∈A\/H.length<=k)/\(∀k∈A',k∈A\/H.length<=k)/\(b=true->R 1 A' H')/\(b=false->F A' H'):=by
  intro c
  have hL:(q00j l s)[0]? =some []:=by rw [hch,if_pos c];rfl
  obtain ⟨b,H',ds,A',g1,g2,g3,g4,g5,g6,g7⟩:=he.step 0 A H [] (q00v []) [] hL h0 (.inl ⟨rfl,rfl⟩) (by simp)
  exact ⟨b,H',ds,A',g1,g2,g3,g4,fun k hk=>by have:=g5 k hk;simpa using this,g6,g7⟩
 rw [allV,q02m,q002 _ _ _ _ _ _ (noP _) fn337]
 generalize hN:openN l s=n at*
 have ne_of: ∀ {ds:List Nat},q∈ds-> ¬ds.foldr (addD H.length) []=[]:=fun hd h0=>by
  have:=q09u (B:=H.length) (d:=[]) hd hq
  rw [h0] at this;cases this
 by_cases c0:n=0
 ·subst c0
  obtain ⟨b,H',ds,A',g1,g2,g3,g4,g5,g6,g7⟩:=first (.inl rfl)
  have hlen:(q00j l s).length=1:=by rw [hch];simp
  refine ⟨some (H',ds.foldr (addD H.length) []),?_,A',g3,fun k hk=> ?_,g5,?_⟩
  ·cases b<;>simp [zEc,b1,b2,op,g1,ne_of g2]
  ·rcases q06d hk with h|h
   ·exact g4 k h
   ·cases h
  ·rw [hlen]
   cases b with
   |true=>exact .inl (g6 rfl)
   |false=>exact .inr (g7 rfl)
 ·have hlt:s.note<s.begun:=by omega
  have hnn:(n:Int)=s.begun-s.note:=by omega
  have hlast:=q0pv hlt
  rw [<-e] at hlast
  have hlastN:s.note+n-1=s.begun-1:=by omega
  obtain ⟨seg,hseg⟩: ∃seg,seg=(l.drop s.note.toNat).take (n-1):=⟨_,rfl⟩
  have hsl:seg.length=n-1:=by rw [hseg,ZC,List.length_drop];omega
  have slc:=fun H=>q0Ez l s.note n H hn (by omega) (by omega)
  rw [<-hseg] at slc
  have hwf:=q0ft l s (n-1) hn (by omega)
  rw [<-hseg] at hwf
  have hfr:(if seg.length=0 then s.line else 0)=fromP s n:=by
   unfold fromP
   by_cases z:n=1
   ·rw [if_pos z,if_pos (by omega)]
   ·rw [if_neg z,if_neg (by omega)]
  have hfr2:(if seg=[] then s.line else 0)=fromP s n:=by
   rw [<-hfr]
   by_cases z:seg=[]
   ·rw [if_pos z,z];rfl
   ·rw [if_neg z,if_neg (fun h=>z (List.eq_nil_of_length_eq_zero h))]
  have hrl:=q026 l (s.note+n-1) (by omega) (by omega)
  have hix:=fun H k=>q024 H q00e (k:=k) (s:=2) (show 0<=s.note+n-1 by omega) hrl rfl
  simp only [q00e] at hix
  have hrm:rd l (s.note+n-1)∈l:=q05a (by omega) (by omega)
  have hst: ∀f H,clD EE (.p (.fn 339)) [vNote (rd l (s.note+n-1)),vI f] H=some (sli (q01k (rd l (s.note+n-1)) f),none):=fun f H=>by
   have:=q0ye (rd l (s.note+n-1)).lines (rd l (s.note+n-1)).pens f H (hx _ hrm)
   rw [q0r6] at this
   exact this
  have hTl:(q01k (rd l (s.note+n-1)) (fromP s n)).length<=10000000:=by
   have h1:=q0cd (q02f (rd l (s.note+n-1)).lines (rd l (s.note+n-1)).pens (fromP s n)) ((rd l (s.note+n-1)).lines.length+1) 0
   have:=hx _ hrm
   unfold q01k;omega
  have hch2:q00j l s=(if s.fresh=false then [[]] else [])++(q01k (rd l (s.note+n-1)) (fromP s n)).map (oneP l s n):=by
   rw [hch,if_neg c0]
   congr 1
   by_cases z:s.fresh=false
   ·rw [if_pos (.inr z),if_pos z]
   ·rw [if_neg (fun h=>h.elim c0 z),if_neg z]
  have hsegl:seg.length<=1000000:=by rw [hsl];omega
  have hsegx: ∀x∈seg,x.lines.length<=1000000:=fun x h=>hx x (by rw [hseg] at h;exact List.mem_of_mem_drop (Z6 h))
  have hwl:(q01j l (n-1) s.note s.line).length<=1000000:=by
   have: ∀(k:Nat) (a b:Int),(q01j l k a b).length=k:=by
    intro k
    induction k with
    |zero=>intro a b;rfl
    |succ k ih=>intro a b;simp [q01j,ih]
   rw [this];omega
  have rest: ∀(c:Nat) (A1:List Nat) (H1:Heap) (d:List Nat),Came R A H q c A1 H1 d->(q00j l s).length=c+(q01k (rd l (s.note+n-1)) (fromP s n)).length->
    (∀i t,(q01k (rd l (s.note+n-1)) (fromP s n))[i]? =some t->(q00j l s)[c+i]? =some (oneP l s n t))->
    evD EE q0p1 (alE q p n s seg H1 H.length d [] 0)=some (alX q p n s seg H1 H.length d (q01j l (n-1) s.note s.line))/\
    ∃r,evD EE q0Wm (bE q H1.length (q01j l (n-1) s.note s.line).length (fromP s n) (s.note+n-1) (q01k (rd l (s.note+n-1)) (fromP s n)) H.length (H1++[.row 3 (upV ((q01j l (n-1) s.note s.line).map q00g))]) d 0)=some r/\bF R F A H q (q00j l s).length r/\
     (∀T,Eng.boxAt (H1++T) p=some [q00b l])/\ ∀T,Eng.boxAt (H1++T) (p+1)=some (cSpot s):=by
   intro c A1 H1 d hC hlen hL
   have hb1:=hC.keep.box b1 a1
   have hb2:=hC.keep.box b2 a2
   refine ⟨?_,?_⟩
   ·have:=q0Ey q p n s ⟨hn,hn2⟩ seg hsegl hsegx H1 H.length hC.keep.1 d hb2
    rw [hwf] at this
    exact this
   ·have hC2:=q0zf he hC (.row 3 (upV ((q01j l (n-1) s.note s.line).map q00g)))
    obtain ⟨r,h1,h2⟩:=b_lp (q00j l s) R F q he A H hq H1.length c (q01j l (n-1) s.note s.line) hwl (fromP s n) (s.note+n-1) (q01k (rd l (s.note+n-1)) (fromP s n)) hTl
     (fun i t ht=>hL i t ht) _ ⟨A1,_,d,rfl,hC2,by simp [Eng.rowAt],fun h=>by have:=he.bel _ _ _ hC.r _ h;omega⟩
    rw [<-hlen] at h2
    exact ⟨r,h1,h2,fun T=>(q077 T (q02y hb1)).trans hb1,fun T=>(q077 T (q02y hb2)).trans hb2⟩
  have w1:IntKind.i64.wrap (s.note+n)=s.note+n:=w64 (by omega) (by omega)
  have w2:IntKind.i64.wrap (s.note+n-1)=s.note+n-1:=w64 (by omega) (by omega)
  have fin: ∀r,bF R F A H q (q00j l s).length r-> ∃(A':List Nat) (H':Heap) (d:List Nat) (env:List (Nat×V)),(r=(.exit 2,⟨env,[],H',H.length,d⟩)\/r=(.ret,⟨env,[],H',H.length,d⟩))/\Gave (q00j l s) R F A H (if d=[] then none else some (H',d)):=by
   rintro r ⟨A',H',d,env,⟨rfl,hC⟩|⟨rfl,h1,h2,h3,h4,h5⟩⟩
   ·refine ⟨A',H',d,env,.inl rfl,?_⟩
    by_cases z:d=[]
    ·rw [if_pos z]
     rcases hC.q with h|⟨h,-⟩
     ·rw [z] at h;cases h
     ·exact ⟨A,Keep.refl _ _,(fun k hk=>nomatch hk),fun k hk=> .inl hk,.inl (by rw [h];exact h0)⟩
    ·rw [if_neg z]
     exact ⟨A',hC.keep,hC.dirty,hC.sub,.inl hC.r⟩
   ·refine ⟨A',H',d,env,.inr rfl,?_⟩
    have z:d≠[]:=fun z=>by rw [z] at h5;cases h5
    rw [if_neg z]
    exact ⟨A',h2,h4,h3,.inr h1⟩
  have hcn: ¬(n:Int)=0:=by omega
  by_cases fr:s.fresh=false
  ·have op: ∀H,clD EE (.p (.fn 338)) [.agg [vI s.note,vI s.line,vI s.begun,vB false],q00b l] H=some (vI n,none):=fun H=>by rw [<-fr];exact op H
   obtain ⟨b,H',ds,A',g1,g2,g3,g4,g5,g6,g7⟩:=first (.inr fr)
   cases b with
   |false=>
    refine ⟨some (H',ds.foldr (addD H.length) []),?_,A',g3,fun k hk=> ?_,g5,.inr (g7 rfl)⟩
    ·simp [zEc,b1,b2,op,g1,ne_of g2,c0,hcn,fr]
    ·rcases q06d hk with h|h
     ·exact g4 k h
     ·cases h
   |true=>
    have hC:Came R A H q 1 A' H' (ds.foldr (addD H.length) []):=⟨g6 rfl,g3,g5,q0nb g4 (fun k hk=>nomatch hk),.inl (q09u g2 hq)⟩
    obtain ⟨k0,r,k1,k2,k3,k4⟩:=rest 1 A' H' _ hC (by rw [hch2,if_pos fr];simp;omega) (fun i t ht=>by rw [hch2,if_pos fr,ZD (by simp)];simp [ht])
    obtain ⟨A2,H2,d2,env,hr,hG⟩:=fin r k2
    refine ⟨_,?_,hG⟩
    rcases hr with rfl|rfl<;>
    ·simp [alE,alX,bE,hfr2] at k0 k1
     simp [zEc,b1,b2,op,g1,c0,hcn,fr,k0,k1,k3,k4,w1,w2,slc,hix,hst]
  ·have op: ∀H,clD EE (.p (.fn 338)) [.agg [vI s.note,vI s.line,vI s.begun,vB true],q00b l] H=some (vI n,none):=fun H=>by rw [<-(show s.fresh=true by simpa using fr)];exact op H
   have hC:Came R A H q 0 A H []:=⟨h0,Keep.refl _ _,fun k hk=> .inl hk,(fun k hk=>nomatch hk),.inr ⟨rfl,rfl⟩⟩
   obtain ⟨k0,r,k1,k2,k3,k4⟩:=rest 0 A H _ hC (by rw [hch2,if_neg fr];simp) (fun i t ht=>by rw [hch2,if_neg fr];simp [ht])
   obtain ⟨A2,H2,d2,env,hr,hG⟩:=fin r k2
   refine ⟨_,?_,hG⟩
   rcases hr with rfl|rfl<;>
   ·simp [alE,alX,bE,hfr2] at k0 k1
    simp [zEc,b1,b2,op,c0,hcn,fr,k0,k1,k3,k4,w1,w2,slc,hix,hst]
end Go.EnvOf
