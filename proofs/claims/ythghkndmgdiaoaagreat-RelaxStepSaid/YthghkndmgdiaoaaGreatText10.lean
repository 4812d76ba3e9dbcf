/- The program's functions and the document's, evaluated. -/
import Derived.Test.YthghkndmgdiaoaaGreatText9
import Derived.Test.YthghkndmgdiaoaaGreatText6
import Derived.Test.YthghkndmgdiaoaaGreatText7
import Derived.Test.YthghkndmgdiaoaaGreatText8
import Derived.Test.YthghkndmgdiaoaaGreatText3
set_option linter.unusedSimpArgs false
set_option linter.unusedVariables false
namespace Go.EnvOf
open Go Go.Eng
set_option maxRecDepth 100000
def vOC (o:Option Colm):V:= .tup [vColm (o.getD q014),vB o.isSome]
theorem q0b4 (j:Job) (w:okW j) (s:Stt) (H:Heap):clD EE (.p (.fn 169)) [vW j,vStt s] H=some (vB (q022 j s),none):=by
 rw [q002 _ _ _ _ _ _ (noP _) fn169]
 have hr:=fun H=>q03r j w s H
 have hd:=fun H=>q0v8 j.items j.floats s.at_ H
 change∀H,clD EE _ _ H=some (vC (dueF j s.at_),none) at hd
 have re:=fun H=>in_ev (dueF j s.at_) s.h H
 unfold q022
 cases c:q01g j s with
 |false=>
  rw [c] at hr
  simp [zEc,hr]
 |true=>
  rw [c] at hr
  simp only [vW,q00o,cJobW,cGeom,Zd,Zf] at hr⊢
  simp [zEc,hr,hd,re]
theorem q0gw (j:Job) (H:Heap):clD EE (.p (.fn 266)) [vW j] H=some (vMapW j.items j.floats,none):=by
 have hp: ∀H,clD EE (.p (.fn 184)) [vW j] H=some (q00o j,none):=by
  intro H
  rw [q002 _ _ _ _ _ _ (noP _) fn184]
  simp only [vW,cJobW,cGeom,Zd,Zf]
  simp [zEc]
 have hq: ∀H,clD EE (.p (.fn 358)) [q00o j] H=some (vMapW j.items j.floats,none):=by
  intro H
  rw [q002 _ _ _ _ _ _ (noP _) fn358]
  simp only [q00o]
  simp [zEc]
 rw [q002 _ _ _ _ _ _ (noP _) fn266]
 simp [zEc,hp,hq]
section
variable (j:Job) (w:wfJ j)
include w
theorem q08n (s:Stt) (to:Int):spotB j.notes (spotS j s to):=by
 have hb:=q03o w.w to
 unfold spotS
 by_cases r:q01g j s=true
 ·rw [if_pos r]
  have c:=q09w w ((q02k j s).1 r)
  have:=w.w.n2
  exact ⟨w.w.n2,w.w.lines,hb,c.1,by simp only;omega,c.2.1⟩
 ·rw [if_neg r]
  exact ⟨w.w.n2,w.w.lines,by simp only;omega,by simp,by simp,by simp⟩
theorem q09f (s:Stt) (to:Int):spotB j.notes (q02h (spotS j s to)):=by
 have o:=q08n j w s to
 exact ⟨o.l1,o.l2,o.b,o.n0,o.n1,o.li⟩
theorem q09g (s:Stt) (H:Heap):clD EE (.p (.fn 263)) [vW j,vStt s] H=some (vB (openS j s),none):=by
 rw [q002 _ _ _ _ _ _ (noP _) fn263]
 have r:=fun H=>q03r j w.w s H
 have d:=fun H=>q0j3 j w.w s H
 unfold openS
 cases c:q01g j s with
 |false=>rw [c] at r;simp [zEc,r]
 |true=>rw [c] at r;simp [zEc,r,d]
theorem q0wz (s:Stt) (H:Heap):clD EE (.p (.fn 165)) [vW j,vStt s] H=some (vOC (textC j s),none):=by
 rw [q002 _ _ _ _ _ _ (noP _) fn165]
 have op:=fun H=>q09g j w s H
 have fl:=fun H=>q0b4 j w.w s H
 have wl:=fun H=>q07e j H
 have fb:=fun H=>q0bs j.items w.w.n1 s.at_ H
 have pl:=fun H=>q07d j H
 have sp:=fun H=>q07t j w.w s (q015 j.items s.at_) H
 have le:=fun H=>q0a2 j.notes (spotS j s (q015 j.items s.at_)) (q08n j w s _) H
 unfold textC vOC
 cases c1:openS j s with
 |false=>rw [c1] at op;simp [zEc,op,q014]
 |true=>
  rw [c1] at op
  cases c2:q022 j s with
  |false=>rw [c2] at fl;simp [zEc,op,fl,q014]
  |true=>
   rw [c2] at fl
   have r:=((q04a j s).1 c1).1
   simp only [vJob,cGeom,Zd,Zf] at pl
   by_cases c3:s.at_<j.items.length
   ·have hb:=q0Bd r.at0 (q0tc r.at0 c3)
    have h0:=r.at0
    have hn: ¬q015 j.items s.at_<0:=by omega
    generalize q015 j.items s.at_=t at*
    generalize spotS j s t=q at*
    simp [zEc,fldvV,op,fl,wl,fb,pl,sp,le,hn,c3]
   ·have hn:q015 j.items s.at_= -1:=by
     unfold q015
     rw [show j.items.length-pos s.at_=0 by unfold pos;have:=r.at0;omega];rfl
    rw [hn] at fb
    simp [zEc,op,fl,wl,fb,c3,q014]
theorem q0i0 {s:Stt} (r:rightP j s) {n:C3} (hn:leC n (q01i j s.at_)):
  (s.h.a<n.a->okT j.floats s.h ⟨1,0,0⟩)/\(s.h.b<n.b->okT j.floats s.h ⟨0,1,0⟩)/\(s.h.c<n.c->okT j.floats s.h ⟨0,0,1⟩):=by
 have h0:=r.h0
 have h1:=q0bu hn (q0jb w.six _)
 have h2:=q0hy w r
 unfold okT okU leC zeroC allC at*
 simp only at*
 omega
theorem q0i1 {s:Stt} (r:rightP j s) {n:C3} (hn:leC n (q01i j s.at_)) (H:Heap):clD EE (.p (.fn 265)) [vW j,vStt s,vC n] H=some (vOC (q03i j s n),none):=by
 rw [q002 _ _ _ _ _ _ (noP _) fn265]
 have ok:=q0i0 j w r hn
 have pl:=fun H=>q07d j H
 have w1:IntKind.i64.wrap 1=1:=by decide
 have w2:IntKind.i64.wrap 2=2:=by decide
 have w3:IntKind.i64.wrap 3=3:=by decide
 have t1:=fun y H=>q0pb j.floats s.h y H w.w.n3
 unfold vTake at t1
 unfold q03i vOC
 simp only [vJob,cGeom,Zd,Zf] at pl
 by_cases c1:s.h.a<n.a
 ·have t:=fun H=>t1 ⟨1,0,0⟩ H
  simp only [if_pos (ok.1 c1)] at t
  generalize takeL j.floats s.h ⟨1,0,0⟩=T at*
  simp [zEc,fldvV,q0Xl,q003,ixaV,ixvV,q007,w1,w2,w3,c1,pl,t]
 ·by_cases c2:s.h.b<n.b
  ·have t:=fun H=>t1 ⟨0,1,0⟩ H
   simp only [if_pos (ok.2.1 c2)] at t
   generalize takeL j.floats s.h ⟨0,1,0⟩=T at*
   simp [zEc,fldvV,q0Xl,q003,ixaV,ixvV,q007,w1,w2,w3,c1,c2,pl,t]
  ·by_cases c3:s.h.c<n.c
   ·have t:=fun H=>t1 ⟨0,0,1⟩ H
    simp only [if_pos (ok.2.2 c3)] at t
    generalize takeL j.floats s.h ⟨0,0,1⟩=T at*
    simp [zEc,fldvV,q0Xl,q003,ixaV,ixvV,q007,w1,w2,w3,c1,c2,c3,pl,t]
   ·simp [zEc,q0Xl,q003,ixaV,ixvV,q007,w1,w2,w3,c1,c2,c3,q014]
theorem q0Bf (s:Stt) (H:Heap):clD EE (.p (.fn 166)) [vW j,vStt s] H=some (vOC (dueC j s),none):=by
 rw [q002 _ _ _ _ _ _ (noP _) fn166]
 have op:=fun H=>q09g j w s H
 have mp:=fun H=>q0gw j H
 have hd:=fun H=>q0v8 j.items j.floats s.at_ H
 change∀H,clD EE _ _ H=some (vC (dueF j s.at_),none) at hd
 unfold dueC
 cases c1:openS j s with
 |false=>rw [c1] at op;simp [zEc,op,vOC,q014]
 |true=>
  rw [c1] at op
  have r:=((q04a j s).1 c1).1
  have al:=fun H=>q0i1 j w r (q0vq j.floats (j.items.take (putN j.items s.at_))) H
  change∀H,clD EE _ [vW j,vStt s,vC (dueF j s.at_)] H=some (vOC (q03i j s (dueF j s.at_)),none) at al
  unfold vOC at*
  simp [zEc,op,mp,hd,al]
theorem q0td (s:Stt) (H:Heap):clD EE (.p (.fn 168)) [vW j,vStt s] H=some (vOC (q08m j s),none):=by
 rw [q002 _ _ _ _ _ _ (noP _) fn168]
 have op:=fun H=>q09g j w s H
 have mp:=fun H=>q0gw j H
 have hd:=fun H=>q09v j.items j.floats s.at_ H
 change∀H,clD EE _ _ H=some (vC (q01i j s.at_),none) at hd
 unfold q08m
 cases c1:openS j s with
 |false=>rw [c1] at op;simp [zEc,op,vOC,q014]
 |true=>
  rw [c1] at op
  have r:=((q04a j s).1 c1).1
  have al:=fun H=>q0i1 j w r (q0e6 (q01i j s.at_)) H
  unfold vOC at*
  simp [zEc,op,mp,hd,al]
theorem q0x0 (s:Stt) (H:Heap):clD EE (.p (.fn 167)) [vW j,vStt s] H=some (vOC (noteC j s),none):=by
 rw [q002 _ _ _ _ _ _ (noP _) fn167]
 have op:=fun H=>q09g j w s H
 have pl:=fun H=>q07d j H
 have wl:=fun H=>q07e j H
 have ll:=fun H=>q021 j.items H
 have sp:=fun H=>q07t j w.w s s.at_ H
 have le:=fun H=>q0a2 j.notes (q02h (spotS j s s.at_)) (q09f j w s _) H
 unfold noteC vOC
 simp only [vJob,cGeom,Zd,Zf] at pl
 cases c1:openS j s with
 |false=>rw [c1] at op;simp [zEc,fldvV,op,pl,q014]
 |true=>
  rw [c1] at op
  have r:=((q04a j s).1 c1).1
  have h1:=r.at1
  generalize spotS j s s.at_=q at*
  unfold q02h at*
  by_cases c2:s.at_<j.items.length
  ·have c3: ¬s.at_=j.items.length:=by omega
   simp [zEc,fldvV,op,pl,wl,ll,c2,c3,q014]
  ·have c3:s.at_=j.items.length:=by omega
   have c3:=eq_true c3
   by_cases c4:s.note=j.notes.length
   ·have c4:=eq_true c4
    simp [zEc,fldvV,op,pl,wl,ll,c2,c3,c4,q014]
   ·simp [zEc,fldvV,op,pl,wl,ll,c2,c3,c4,sp,le]
theorem q0qq (s:Stt) (H:Heap):clD EE (.p (.fn 67)) [vW j,vStt s] H=some (vOC (q04r j s),none):=by
 rw [q002 _ _ _ _ _ _ (noP _) fn67]
 have f1:=fun H=>q0wz j w s H
 have f2:=fun H=>q0Bf j w s H
 have f3:=fun H=>q0x0 j w s H
 have f4:=fun H=>q0td j w s H
 have w1:IntKind.i64.wrap 1=1:=by decide
 have w2:IntKind.i64.wrap 2=2:=by decide
 have w3:IntKind.i64.wrap 3=3:=by decide
 have w4:IntKind.i64.wrap 4=4:=by decide
 unfold q04r vOC at*
 cases e1:textC j s with
 |some c=>rw [e1] at f1;simp [zEc,q0Ub,q003,ixsI,ixsV,w1,w2,w3,w4,f1]
 |none=>
  rw [e1] at f1
  cases e2:dueC j s with
  |some c=>rw [e2] at f2;simp [zEc,q0Ub,q003,ixsI,ixsV,w1,w2,w3,w4,f1,f2]
  |none=>
   rw [e2] at f2
   cases e3:noteC j s with
   |some c=>rw [e3] at f3;simp [zEc,q0Ub,q003,ixsI,ixsV,w1,w2,w3,w4,f1,f2,f3]
   |none=>
    rw [e3] at f3
    cases e4:q08m j s with
    |some c=>rw [e4] at f4;simp [zEc,q0Ub,q003,ixsI,ixsV,w1,w2,w3,w4,f1,f2,f3,f4]
    |none=>rw [e4] at f4;simp [zEc,q0Ub,q003,ixsI,ixsV,w1,w2,w3,w4,f1,f2,f3,f4,q014]
end
section
variable (j:Job) (w:wfJ j) (s:Stt) (c:Colm)
end
section
variable (j:Job) (w:wfJ j) (hf: ∀x∈j.items,fairI x) (s:Stt) (c:Colm) (c1:c.notes.length<=1000000) (c2:c.top.length<=1000000) (c3:c.bot.length<=1000000)
end
theorem q10q (fs:List Float) (h:fs.length<=100000) (x y:C3):(takeL fs x y).length<=1000000:=by
 have:=q0pa fs x y
 unfold takeL
 rw [isort_len];omega
end Go.EnvOf
namespace Go.EnvOf
open Go Go.Eng
set_option maxRecDepth 100000
theorem q1a2 {lo hi x:Int}:x∈upI lo hi↔lo<=x/\x<=hi:=by
 unfold upI
 rw [ZJ]
 constructor
 ·rintro ⟨k,hk,rfl⟩
  rw [List.mem_range] at hk
  omega
 ·rintro ⟨h1,h2⟩
  exact ⟨(x-lo).toNat,by rw [List.mem_range];omega,by omega⟩
theorem q18y {x v:C3} {n:Int}:v∈upL x n↔(0<=v.a/\v.a<=min x.a 32)/\(0<=v.b/\v.b<=min x.b 32)/\(0<=v.c/\v.c<=min x.c 32)/\v.a+v.b+v.c<=n:=by
 unfold upL R1 R2 R3 q16s capC
 simp only [List.mem_filter,ZQ,ZJ,q1a2,decide_eq_true_eq]
 constructor
 ·rintro ⟨⟨a,ha,b,hb,c,hc,rfl⟩,hs⟩
  exact ⟨ha,hb,hc,hs⟩
 ·rintro ⟨ha,hb,hc,hs⟩
  exact ⟨⟨v.a,ha,v.b,hb,v.c,hc,rfl⟩,hs⟩
theorem q19e {x y:C3} (h0:leC zeroC x) (h1:leC x y) (b:y.a<=1000000/\y.b<=1000000/\y.c<=1000000):q129 x y=⟨y.a-x.a,y.b-x.b,y.c-x.c⟩:=by
 unfold leC zeroC at*
 unfold q129 zipF held big
 simp only [C3.mk.injEq] at*
 omega
theorem q18g {g:Geom} {l:List Float} {h m:C3} {p:Pr}:p∈allP g l h m↔ ∃c d,c∈upL (someC m) (max (min g.topMany 48) 0)/\(okT l h c/\fitT g l (takeL l h c)=true)/\d∈upL (q129 c (someC m)) (max (min g.botMany 48) 0)/\(okT l (addC h c) d/\fitB g l (takeL l (addC h c) d)=true)/\p=(takeL l h c,takeL l (addC h c) d):=by
 unfold allP
 rw [ZQ]
 constructor
 ·rintro ⟨c,hc,hp⟩
  unfold outer at hp
  split at hp
  ·rename_i q
   obtain ⟨d,hd,hp⟩:=ZQ.1 hp
   unfold inner at hp
   split at hp
   ·rename_i q2
    exact ⟨c,d,hc,q,hd,q2,List.mem_singleton.1 hp⟩
   ·cases hp
  ·cases hp
 ·rintro ⟨c,d,hc,q,hd,q2,rfl⟩
  refine ⟨c,hc,?_⟩
  unfold outer
  rw [if_pos q]
  refine ZQ.2 ⟨d,hd,?_⟩
  unfold inner
  rw [if_pos q2]
  exact List.mem_singleton.2 rfl
theorem q1ae {l:List Float} {h c:C3} (o:okT l h c):((takeL l h c).length:Int)=c.a+c.b+c.c:=by
 obtain ⟨o1,o2,o3⟩:=o
 have s1:=q0Bn o1
 have s2:=q0Bn o2
 have s3:=q0Bn o3
 unfold takeL raw
 rw [isort_len,Zt,Zt,s1,s2,s3]
 unfold okU at o1 o2 o3
 omega
section
variable {j:Job} (w:wfJ j) {s:Stt} (r:rightP j s) {to:Int} (hto:s.at_<=to)
include w r hto
theorem q19f:q129 s.h (q01i j to)=⟨(q01i j to).a-s.h.a,(q01i j to).b-s.h.b,(q01i j to).c-s.h.c⟩/\leC s.h (q01i j to):=by
 have bd:=q0wx w.w to
 have h1:=q0bu r.h1 (q107 j hto)
 exact ⟨q19e r.h0 h1 bd.2,h1⟩
theorem q1aw {x:Pr} (hx:x∈allP j.g j.floats s.h (q129 s.h (q01i j to))) {c:Colm} (ht:c.top=x.1) (hb:c.bot=x.2):setF j s c to=true/\fitsC j c=true:=by
 obtain ⟨q1,q2⟩:=q19f w r hto
 rw [q1] at hx
 obtain ⟨d,e,k1,⟨o1,f1⟩,k2,⟨o2,f2⟩,rfl⟩:=q18g.1 hx
 simp only at ht hb
 have e1:ofL j.floats c.top=d:=by rw [ht];exact q0Zg _ _ _ o1
 have e2:ofL j.floats c.bot=e:=by rw [hb];exact q0Zg _ _ _ o2
 have p1:=q0Z2 w.w.n3 o1
 have p2:=q0Z2 w.w.n3 o2
 have m1:=q18y.1 k1
 have m2:=q18y.1 k2
 have h0:=r.h0
 refine ⟨?_,by unfold fitsC;rw [ht,hb,f1,f2];rfl⟩
 unfold setF q0b1
 rw [e1,e2,ht,hb,q10h _ _ _ o1,q10h _ _ _ o2]
 simp only [ZV,q0pw]
 rw [p2,p1]
 rw [q19e (by unfold leC zeroC;simp only;omega) (by unfold leC someC;unfold someC at m1;simp only at m1⊢;omega) (by unfold someC;simp only;omega)] at m2
 unfold leC plus someC at*
 simp only at*
 omega
end
def q174 (g:Geom) (fs:List Float) (h:C3) (high:Int) (n:C3):Bool:=decide (okT fs h n)&&(decide (0<sumC n)&&decide (q05p g fs (takeL fs h n)<=high))
def q175 (g:Geom) (fs:List Float) (h m:C3) (high:Int):List (List Int):=((upL (someC m) 8).filter (q174 g fs h high)).map (takeL fs h)
def bareO (j:Job) (s:Stt) (to:Int):Bool:=decide ((q07f (sumT j.items s.at_ to) (highS j s) false).how≠3)
def mayO (j:Job) (s:Stt) (m c:Colm):Bool:= !(q02r j s c).over||sameC c m
def candO (j:Job) (s:Stt) (to:Int):List Colm:=(q00j j.notes (spotS j s to)).flatMap fun p=>(allP j.g j.floats s.h (q129 s.h (q01i j to))).map fun x=>(⟨1,s.at_,to,p,x.1,x.2⟩:Colm)
def toO (j:Job) (s:Stt) (m:Colm) (to:Int):List Colm:=if bareO j s to=false/\to≠m.to then [] else (candO j s to).filter (mayO j s m)
def textO (j:Job) (s:Stt) (m:Colm):List Colm:=if q022 j s=true then (brkF j.items s.at_).flatMap (toO j s m) else []
def q16w (j:Job) (s:Stt):List Colm:=(q175 j.g j.floats s.h (q120 j s) (highS j s)).map fun ids=>⟨2,s.at_,s.at_,[],ids,[]⟩
def noteO (j:Job) (s:Stt) (m:Colm):List Colm:=if s.at_<j.items.length\/s.note=j.notes.length then [] else ((q00j j.notes (q02h (spotS j s s.at_))).map fun p=>(⟨3,s.at_,s.at_,p,[],[]⟩:Colm)).filter (mayO j s m)
def q16q (j:Job) (s:Stt):List Colm:=match q04r j s with|none=>[]|some m=>textO j s m++(q16w j s++noteO j s m)
theorem q191 {j:Job} {s:Stt} {m c:Colm} (hm:q04r j s=some m) (he:endE j s c=false) (hk:kindE j s c=0) (h:mayO j s m c=true):q06c j s c=0:=by
 refine q0Y8 he hk ?_
 unfold mayO at h
 cases q:(q02r j s c).over with
 |false=>exact .inl rfl
 |true=>
  rw [q] at h
  right
  rw [hm]
  have:sameC c m=true:=by simpa using h
  rw [(q10j c m).1 this]
theorem q1bj {j:Job} (w:wfJ j) {s:Stt} (r:rightP j s):q120 j s=⟨(q01i j s.at_).a-s.h.a,(q01i j s.at_).b-s.h.b,(q01i j s.at_).c-s.h.c⟩:=by
 unfold q120
 rw [if_pos ((q02k j s).2 r)]
 exact (q19f w r (ZS _)).1
theorem hi_bd {j:Job} (w:wfJ j) {s:Stt} (r:rightP j s):0<=highS j s/\highS j s<=4294967296:=by
 have:=w.high
 have:=w.hi0
 unfold highS
 rw [if_pos ((q02k j s).2 r)]
 split<;>omega
theorem q18h (l:List Float) (xs:List Int) (sep:Int):0<=highQ l xs sep/\highQ l xs sep<=1125899906842624:=by
 unfold highQ
 have key: ∀(xs:List Int) (s:Int),0<=s->s<=1125899906842624->0<=xs.foldl (hiS l sep) s/\xs.foldl (hiS l sep) s<=1125899906842624:=by
  intro xs
  induction xs with
  |nil=>intro s h0 h1;exact ⟨h0,h1⟩
  |cons x r ih=>
   intro s h0 h1
   simp only [ZT]
   have:0<=hiS l sep s x/\hiS l sep s x<=1125899906842624:=by
    unfold hiS
    split
    ·exact hz_in _
    ·exact ⟨h0,h1⟩
   exact ih _ this.1 this.2
 exact key xs 0 (by omega) (by omega)
theorem q1af (g:Geom) (l:List Float) (xs:List Int): -1125899906842624<=q05p g l xs/\q05p g l xs<=1125899906842624:=by
 have:=q18h l xs g.sep
 unfold q05p
 split
 ·omega
 ·rw [w64 (by omega) (by omega)];omega
theorem q195 {j:Job} (w:wfJ j) {s:Stt} {c:Colm} (h:c∈q16q j s):q06c j s c=0:=by
 unfold q16q at h
 cases hm:q04r j s with
 |none=>rw [hm] at h;cases h
 |some m=>
  rw [hm] at h
  have o:openS j s=true:=by
   cases o:openS j s with
   |true=>rfl
   |false=>rw [q0Y9 o] at hm;cases hm
  obtain ⟨r,hd⟩:=(q04a j s).1 o
  obtain ⟨n0,l0,n1,n2⟩:=q09w w r
  simp only [ZY] at h
  rcases h with h|h|h
  ·unfold textO at h
   split at h
   ·rename_i fl
    obtain ⟨to,hb,h⟩:=ZQ.1 h
    unfold toO at h
    split at h
    ·cases h
    ·obtain ⟨h,hmay⟩:=List.mem_filter.1 h
     unfold candO at h
     obtain ⟨p,hp,h⟩:=ZQ.1 h
     obtain ⟨x,hx,rfl⟩:=ZJ.1 h
     have bm:=q0Bd r.at0 hb
     obtain ⟨k1,k2⟩:=q1aw w r (Int.le_of_lt bm.1) hx (c:=⟨1,s.at_,to,p,x.1,x.2⟩) rfl rfl
     refine q191 hm ?_ ?_ hmay
     ·unfold endE
      rw [decide_eq_false_iff_not]
      simp [o]
      omega
     ·unfold kindE
      rw [if_pos rfl]
      unfold textE
      simp only
      rw [if_neg (by rw [fl];simp),if_neg (by simpa using hb),if_neg (by rw [(q0ja _ _ _).2 hp];simp),if_neg (by rw [k1,k2];simp)]
   ·cases h
  ·unfold q16w q175 at h
   obtain ⟨ids,hi,rfl⟩:=ZJ.1 h
   obtain ⟨n,hn,rfl⟩:=ZJ.1 hi
   obtain ⟨hn,hb⟩:=List.mem_filter.1 hn
   have mu:=q18y.1 hn
   rw [q1bj w r] at mu
   unfold q174 at hb
   simp only [Zb,decide_eq_true_eq] at hb
   obtain ⟨ok,sm,st⟩:=hb
   have ln:=q1ae ok
   have e1:ofL j.floats (takeL j.floats s.h n)=n:=q0Zg _ _ _ ok
   have e0:ofL j.floats []=zC:=rfl
   have ep:=q0Z2 w.w.n3 ok
   have h0:=r.h0
   have bd:=q0wx w.w s.at_
   have hle:=r.h1
   have hs:0<n.a+n.b+n.c:=by
    rw [q0Y7 (by unfold leC zeroC;simp only;omega) (by unfold someC at mu;simp only at mu;omega)] at sm
    exact sm
   have hp0:leC zeroC (plus s.h n):=by unfold leC zeroC plus at*;simp only at*;omega
   have hpA:leC (plus s.h n) (q01i j s.at_):=by unfold leC plus someC at*;simp only at*;omega
   have hp1:(plus s.h n).a<=1000000/\(plus s.h n).b<=1000000/\(plus s.h n).c<=1000000:=by unfold leC at hpA;omega
   have ok2:=q0Zc j.floats _ hp0 (q0bu hpA (q0jb w.six _))
   have sf:setF j s ⟨2,s.at_,s.at_,[],takeL j.floats s.h n,[]⟩ s.at_=true:=by
    unfold setF q0b1
    simp only
    rw [e1,e0,ep,q0Zl hp0 hp1]
    simp only [Zb,q0pw]
    refine ⟨⟨q10h _ _ _ ok,?_⟩,hpA⟩
    unfold nextQ
    rw [e0,q0Ya]
    simp [ok2]
   have ov:(q02r j s ⟨2,s.at_,s.at_,[],takeL j.floats s.h n,[]⟩).over=false:=by
    unfold q02r
    rw [if_pos ((q02k j s).2 r)]
    simp only
    rw [if_neg (by omega)]
    have hf:fullC j ⟨2,s.at_,s.at_,[],takeL j.floats s.h n,[]⟩=false:=by unfold fullC;simp
    rw [hf]
    simp only [Bool.false_or,decide_eq_false_iff_not,Int.not_lt]
    unfold roomC q05b
    simp only
    rw [if_neg (by omega),if_pos trivial]
    have hh:highP j.notes [] j.g.rule=0:=rfl
    have hi:=hi_bd w r
    have sb:=q1af j.g j.floats (takeL j.floats s.h n)
    rw [hh,Int.sub_zero,w64 (n:=highS j s) (by omega) (by omega),w64 (by omega) (by omega)]
    omega
   refine q0Y8 ?_ ?_ (.inl ov)
   ·unfold endE
    rw [decide_eq_false_iff_not]
    simp [o]
   ·unfold kindE
    rw [if_neg (by simp),if_pos rfl]
    unfold q0b2
    rw [if_neg (by simp),if_neg]
    rw [sf,ov]
    simp only [not_or,ne_eq,Bool.true_eq_false,not_false_eq_true,and_true,Zh]
    refine ⟨fun e=> ?_,by omega,fun h=>h trivial⟩
    rw [e] at ln
    simp at ln
    omega
  ·unfold noteO at h
   split at h
   ·cases h
   ·rename_i q
    simp only [not_or] at q
    obtain ⟨h,hmay⟩:=List.mem_filter.1 h
    obtain ⟨p,hp,rfl⟩:=ZJ.1 h
    have ha:s.at_=j.items.length:=by have:=r.at1;omega
    refine q191 hm ?_ ?_ hmay
    ·unfold endE
     rw [decide_eq_false_iff_not]
     simp [o,ha]
    ·unfold kindE
     rw [if_neg (by simp),if_neg (by simp)]
     unfold noteE
     simp only
     rw [if_neg,if_neg (by simp)]
     rintro (e|e)
     ·rw [e,q0p6 r] at hp
      rcases q0Yk (s:=q02h ⟨s.note,s.line,q00z j s.at_,decide (q00z j s.at_<q00z j s.at_)⟩) (q03o w.w _) n0 l0 hp with ⟨_,e|e⟩|⟨_,z,t,e,_⟩
      ·simp only [q02h] at e
       have:=q10b j ha
       have:=w.five
       omega
      ·cases e
      ·simp at e
     ·rw [(q0ja _ _ _).2 hp] at e;cases e
theorem q1ag {t:Tot} {h h':Int} {b:Bool} (hh:h'<=h) (lo: -1125899906842624<=h') (q:(q07f t h false).how=3):(q07f t h' b).how=3:=by
 have r:q04u t h=true:=by
  cases c:q04u t h with
  |true=>rfl
  |false=>
   unfold q07f at q
   rw [c] at q
   simp [zeroG] at q
 have r':q04u t h'=true:=by
  unfold q04u at r⊢
  simp only [Zb,decide_eq_true_eq] at r⊢
  exact ⟨⟨r.1.1,lo⟩,by omega⟩
 unfold q07f at q⊢
 rw [if_pos r] at q
 rw [if_pos r']
 by_cases a:h-t.nat=0
 ·rw [if_pos a] at q;simp [zeroG] at q
 rw [if_neg a] at q
 by_cases b1:0<h-t.nat/\0<strT t (ordT t)/\ ¬(false=true/\ordT t=0)
 ·rw [if_pos b1] at q;simp at q
 rw [if_neg b1] at q
 by_cases c1:0<h-t.nat
 ·rw [if_pos c1] at q;simp at q
 rw [if_neg c1] at q
 by_cases d1:0<=t.shr+(h-t.nat)
 ·rw [if_pos d1] at q;simp at q
 rw [if_neg (by omega),if_neg (fun e=>by omega),if_neg (by omega),if_neg (by omega)]
structure lowJ (j:Job):Prop where
 notes:j.notes.length<=100
 each: ∀n∈j.notes,n.lines.length<=100/\ ∀x∈n.lines,x<=4294967296
 rule:j.g.rule<=4294967296
 many:j.g.topMany<=4/\j.g.botMany<=4
theorem q1a3: ∀(l:List Int) (s:Int),(∀x∈l,x<=4294967296)->0<=s->hsum s l<=s+4294967296*l.length
 |[],s,_,_=>by simp [hsum]
 |x::r,s,h,h0=>by
  have ih:=q1a3 r (hstep s x) (fun y hy=>h y (by simp [hy])) (q0mf h0)
  have hx:=h x (by simp)
  have e:hsum s (x::r)=hsum (hstep s x) r:=rfl
  have e2:hstep s x<=s+4294967296:=by unfold hstep;omega
  rw [e,Zg]
  push_cast
  omega
theorem q1ax {L:List Int} (h: ∀x∈L,x<=4294967296) (hl:L.length<=100) (a b:Int):highF L a b<=429496729600:=by
 unfold highF
 have k:=q1a3 ((L.take (min b L.length).toNat).drop (max a 0).toNat) 0 (fun x hx=>h x (Z6 (List.mem_of_mem_drop hx))) (ZS 0)
 have e:((L.take (min b L.length).toNat).drop (max a 0).toNat).length<=100:=by
  rw [List.length_drop,ZC];omega
 omega
theorem q19g {j:Job} (q:lowJ j): ∀(p:List Piece) (s:Int),p.foldl (q04t j.notes) s<=s+429496729600*p.length
 |[],s=>by simp
 |x::r,s=>by
  have ih:=q19g q r (q04t j.notes s x)
  have e:q04t j.notes s x<=s+429496729600:=by
   unfold q04t
   split
   ·rename_i b
    have m:=q.each _ (q05a b.1 b.2)
    have:=q1ax m.2 m.1 x.frm x.to
    omega
   ·omega
  rw [ZT,Zg]
  push_cast
  omega
theorem q18n (l:List Note): ∀(n:Nat) (a b:Int),(q01j l n a b).length=n
 |0,_,_=>rfl
 |n+1,a,b=>by simp [q01j,q18n l n]
theorem q1a7 {l:List Note} {s:Spot} (hb:s.begun<=l.length) (hn:0<=s.note) {p:List Piece} (h:p∈q00j l s):p.length<=l.length:=by
 have on:openN l s<=l.length:=by
  unfold openN
  split
  ·omega
  ·omega
 unfold q00j at h
 rcases ZY.1 h with h|h
 ·split at h
  ·rw [List.mem_singleton.1 h];simp
  ·cases h
 ·split at h
  ·cases h
  ·rename_i z
   obtain ⟨t,-,rfl⟩:=ZJ.1 h
   unfold oneP
   rw [Zt,q18n]
   simp only [List.length_singleton]
   omega
theorem q19h {j:Job} (w:wfJ j) (xs:List Int):highQ j.floats xs j.g.sep<=8589934592*xs.length:=by
 have key: ∀(xs:List Int) (s:Int),xs.foldl (hiS j.floats j.g.sep) s<=max s 0+8589934592*xs.length:=by
  intro xs
  induction xs with
  |nil=>intro s;simp;omega
  |cons x r ih=>
   intro s
   have i:=ih (hiS j.floats j.g.sep s x)
   have e:hiS j.floats j.g.sep s x<=max s 0+8589934592/\0<=max (hiS j.floats j.g.sep s x) 0:=by
    refine ⟨?_,by omega⟩
    unfold hiS
    split
    ·rename_i f hf
     have hm:f∈j.floats:=by
      unfold atF at hf
      split at hf
      ·rename_i b
       cases hf
       exact q05a b.1 b.2
      ·cases hf
     have b:=w.fl f hm
     have hi:=w.high
     have se:=w.sep
     have h1:hz f.h=f.h:=by unfold hz fz;omega
     have h2:hz j.g.sep=j.g.sep:=by unfold hz fz;omega
     rw [h1,h2]
     unfold hz fz
     omega
    ·omega
   rw [ZT,Zg]
   push_cast
   omega
 have:=key xs 0
 unfold highQ
 omega
theorem q1bk {j:Job} (w:wfJ j) (q:lowJ j) {s:Stt} (r:rightP j s) {c:Colm} (hk:c.k=1) (hn:c.notes.length<=100) (ht:c.top.length<=4) (hb:c.bot.length<=4): -1125899906842624<=roomC j s c/\roomC j s c<=highS j s:=by
 have hi:=hi_bd w r
 have a:=q18h j.floats c.top j.g.sep
 have b:=q18h j.floats c.bot j.g.sep
 have a2:=q19h w c.top
 have b2:=q19h w c.bot
 have p:0<=highP j.notes c.notes j.g.rule/\highP j.notes c.notes j.g.rule<=47244640256000:=by
  unfold highP
  split
  ·omega
  ·have k:=q19g q c.notes (min (max j.g.rule 0) far)
   have z: ∀(p:List Piece) (s:Int),0<=s/\s<=far->0<=p.foldl (q04t j.notes) s:=by
    intro p
    induction p with
    |nil=>intro s h;exact h.1
    |cons x r ih=>intro s h;rw [ZT];exact ih _ (q0iu j.notes x h)
   have z0:=z c.notes (min (max j.g.rule 0) far) (by unfold far;omega)
   have:=q.rule
   unfold far at*
   omega
 unfold roomC q05b highA
 rw [if_pos hk,w64 (n:=highQ j.floats c.top j.g.sep+highQ j.floats c.bot j.g.sep) (by omega) (by omega),w64 (n:=highS j s-highP j.notes c.notes j.g.rule) (by omega) (by omega),w64 (by omega) (by omega)]
 omega
theorem q1ah {j:Job} {c:Colm} (q:lowJ j) (h:fitsC j c=true):c.top.length<=4/\c.bot.length<=4:=by
 have m:=q.many
 unfold fitsC fitT fitB fitsF at h
 simp only [Zb,decide_eq_true_eq] at h
 omega
def encPs (p:List Piece):List PV:=[.sl (p.map q00g)]
abbrev vPss (l:List (List Piece)):V:= .p (.sl (l.map encPs))
def Rows (b:Nat) (H:Heap) (id:Nat) (ps:List (List Piece)):Prop:=
 ∃vs:List V,Eng.rowAt H id=some (1,vs.map fun v=>[v])/\vs.length=ps.length/\ ∀(k:Nat) (v:V) (p:List Piece),vs[k]? =some v->ps[k]? =some p-> ∃B,repP p v H B/\ ∀k∈B,b<=k/\k≠id
theorem q0lr {b:Nat} {H:Heap} {id:Nat} {ps:List (List Piece)} (h:Rows b H id ps) (hb:b<=id):frz b H 3 (.row id ps.length 0 ps.length)=some (.sl (ps.map encPs)):=by
 obtain ⟨vs,h1,h2,h3⟩:=h
 rw [q056,if_pos hb,h1]
 simp only [frzK]
 rw [if_pos (by simpa using h2),ZG,Zy (by simp [h2])]
 have key: ∀(vs:List V) (ps:List (List Piece)),vs.length=ps.length->(∀(k:Nat) (v:V) (p:List Piece),vs[k]? =some v->ps[k]? =some p-> ∃B,repP p v H B/\ ∀k∈B,b<=k/\k≠id)->allO (allO (frz b H 2)) (vs.map fun v=>[v])=some (ps.map encPs):=by
  intro vs
  induction vs with
  |nil=>intro ps h _;cases ps with|nil=>rfl|cons=>cases h
  |cons v r ih=>
   intro ps hl h
   cases ps with
   |nil=>cases hl
   |cons p q=>
    obtain ⟨B,hr,hB⟩:=h 0 v p rfl rfl
    have h0:=frz_rep hr (fun k hk=>(hB k hk).1) 1
    have h1:=ih q (by simpa using hl) fun k v p hv hp=>h (k+1) v p (by simpa using hv) (by simpa using hp)
    simp only [Zo,allO,h0,h1]
    rfl
 rw [key vs ps h2 h3]
 rfl
def chEnv (h:Nat) (cl:V):List (Nat×V):=[(2,.ptr h 0),(6,cl)]
def q176 (st:LSt) (h:Nat) (cl:V):DObj:= .loop st (chEnv h cl) [7] q17j q173
def chR (L:List (List Piece)) (h:Nat) (cl:V) (i:Nat) (A:List Nat) (H:Heap):Prop:=
 h∈A/\h+1∈A/\(∀k∈A,h<=k/\k<H.length)/\H[h+1]? =some (q176 .ready h cl)/\
 ((i=0/\Eng.boxAt H h=some [.nil0])\/(0<i/\ ∃(id:Nat) (vs:List V),id∈A/\h+1<id/\Eng.boxAt H h=some [.row id i 0 i]/\Eng.rowAt H id=some (1,vs.map fun v=>[v])/\vs.length=i/\
   ∀(k:Nat) (v:V) (p:List Piece),vs[k]? =some v->L[k]? =some p-> ∃B,repP p v H B/\ ∀x∈B,x∈A/\x≠id/\h+1<x))
theorem q1bl (L:List (List Piece)) (hL:L.length<=100000000) (h:Nat) (cl:V):Eats repP (h+1) L (chR L h cl) (fun _ _=>False):=by
 refine ⟨?_,?_,?_⟩
 ·rintro i A H K ⟨a1,a2,a3,a4,a5⟩ g
  refine ⟨a1,a2,fun k hk=>⟨(a3 k hk).1,by have:=(a3 k hk).2;have:=g.1;omega⟩,by rw [g.2 _ a2];exact a4,?_⟩
  rcases a5 with ⟨rfl,b⟩|⟨i0,id,vs,b1,b2,b3,b4,b5,b6⟩
  ·exact .inl ⟨rfl,g.box b a1⟩
  ·refine .inr ⟨i0,id,vs,b1,b2,g.box b3 a1,g.row b4 b1,b5,fun k v p hv hp=> ?_⟩
   obtain ⟨B,c1,c2⟩:=b6 k v p hv hp
   exact ⟨B,q07p c1 ⟨g.1,fun x hx=>g.2 x (c2 x hx).1⟩,c2⟩
 ·rintro i A H ⟨-,-,a3,-⟩ k hk
  exact (a3 k hk).2
 ·rintro i A H x v B hx ⟨a1,a2,a3,a4,a5⟩ hr hB
  obtain ⟨o1,o2,o3,o4,o5,o6⟩:=q0lp hr
  have hlt:=(Za.1 hx).1
  have hq:=(a3 _ a2).2
  have hh:=(a3 _ a1).2
  have hBl:=q0Ba hr
  have ne:h+1≠h:=by omega
  have h1m:1<most:=by decide
  have ok1:okEl 1 [v]=true:=by simp [okEl,o1]
  rcases a5 with ⟨rfl,b⟩|⟨i0,id,vs,b1,b2,b3,b4,b5,b6⟩
  ·have bx: ∀o T,Eng.boxAt (H.set (h+1) o++T) h=some [.nil0]:=fun o T=>(q077 T (by simpa using hh)).trans ((q01p H (h+1) h o ne).trans b)
   have bx0: ∀o,Eng.boxAt (H.set (h+1) o) h=some [.nil0]:=fun o=>(q01p H (h+1) h o ne).trans b
   refine ⟨true,(((H.set (h+1) (q176 .busy h cl)).set h (.box [.row H.length 1 0 1]))++[DObj.row 1 [[v]]]).set (h+1) (q176 .ready h cl),[h,h+1],H.length::(A++B),?_,by simp,?_,?_,?_,fun _=> ?_,(fun e=>nomatch e)⟩
   ·refine q0e5 a4 rfl (env1:=[(2,.ptr h 0),(5,v)]) (loc1:=[]) ?_ (x:= .normal) (env2:=[]) (loc2:=[]) (d2:=[h,h+1]) ?_ ?_
    ·simp [chEnv,q17j,o1,o2,o3,o4,o5,o6]
    ·rcases hr with ⟨rfl,-⟩|⟨id',rfl,-,-⟩
     ·simp [q173,bx0,bx,q001,subs,hh,h1m,ok1]
      exact ⟨rfl,rfl⟩
     ·simp [q173,bx0,bx,q001,subs,hh,h1m,ok1]
      rfl
    ·rw [Zw (by simpa using hq),Zr (by omega)]
     exact ZX hq
   ·exact (((Keep.set A _ _ _ (.inl a2)).trans (Keep.set A _ _ _ (.inl a1)) (fun k hk=> .inl hk)).trans (Keep.app A _ _) (fun k hk=> .inl hk)).trans (Keep.set A _ _ _ (.inl a2)) (fun k hk=> .inl hk)
   ·intro k hk
    simp at hk
    rcases hk with rfl|rfl
    ·exact .inl a1
    ·exact .inl a2
   ·intro k hk
    rcases ZI.1 hk with rfl|hk
    ·exact .inr (.inr (Zm _))
    ·exact (ZY.1 hk).imp (fun h=>h) .inl
   ·refine ⟨by simp [a1],by simp [a2],fun k hk=> ?_,?_,.inr ⟨by omega,H.length,[v],by simp,by omega,?_,?_,rfl,fun k w p hv hp=> ?_⟩⟩
    ·simp only [List.length_set,Zt,List.length_singleton]
     rcases ZI.1 hk with rfl|hk
     ·omega
     ·rcases ZY.1 hk with hk|hk
      ·have:=a3 k hk;omega
      ·have:=(hB k hk).2;have:=hBl k hk;omega
    ·exact ZX (by simp;omega)
    ·rw [q01p _ _ _ _ ne,q077 _ (by simpa using hh)]
     exact q07o _ _ _ (by simpa using hh)
    ·unfold Eng.rowAt
     rw [Zr (by omega),ZD (by simp)]
     simp
    ·cases k with
     |zero=>
      simp at hv
      subst hv
      rw [hx] at hp
      cases hp
      refine ⟨B,q07p hr ⟨by simp,fun k hk=> ?_⟩,fun k hk=>⟨by simp [hk],by have:=hBl k hk;omega,(hB k hk).2⟩⟩
      have k1:=hB k hk
      have k2:k≠h:=fun e=>k1.1 (e▸a1)
      rw [Zr (by omega),Zw (by simpa using hBl k hk),Zr (by omega),Zr (by omega)]
     |succ k=>simp at hv
  ·have hidl:=q09d b4
   have bx0: ∀o,Eng.boxAt (H.set (h+1) o) h=some [.row id i 0 i]:=fun o=>(q01p H (h+1) h o ne).trans b3
   have rw0: ∀o,Eng.rowAt (H.set (h+1) o) id=some (1,vs.map fun v=>[v]):=fun o=>by
    unfold Eng.rowAt at*
    rw [Zr (by omega)];exact b4
   have bx1: ∀o es,Eng.boxAt ((H.set (h+1) o).set id (.row 1 es)) h=some [.row id i 0 i]:=fun o es=>(q01p _ id h _ (by omega)).trans (bx0 o)
   have hm:i+1<most:=by unfold most;omega
   refine ⟨true,(((H.set (h+1) (q176 .busy h cl)).set id (.row 1 ((vs++[v]).map fun v=>[v]))).set h (.box [.row id (i+1) 0 (i+1)])).set (h+1) (q176 .ready h cl),[h,id,h+1],A++B,?_,by simp,?_,?_,?_,fun _=> ?_,(fun e=>nomatch e)⟩
   ·refine q0e5 a4 rfl (env1:=[(2,.ptr h 0),(5,v)]) (loc1:=[]) ?_ (x:= .normal) (env2:=[]) (loc2:=[]) (d2:=[h,id,h+1]) ?_ ?_
    ·simp [chEnv,q17j,o1,o2,o3,o4,o5,o6]
    ·rcases hr with ⟨rfl,-⟩|⟨id',rfl,-,-⟩
     ·simp [q173,bx0,bx1,rw0,q001,subs,hh,hm,ok1,b5,hidl]
      rfl
     ·simp [q173,bx0,bx1,rw0,q001,subs,hh,hm,ok1,b5,hidl]
      rfl
    ·rw [Zr (by omega),Zr (by omega)]
     exact ZX hq
   ·exact (((Keep.set A _ _ _ (.inl a2)).trans (Keep.set A _ _ _ (.inl b1)) (fun k hk=> .inl hk)).trans (Keep.set A _ _ _ (.inl a1)) (fun k hk=> .inl hk)).trans (Keep.set A _ _ _ (.inl a2)) (fun k hk=> .inl hk)
   ·intro k hk
    simp at hk
    rcases hk with rfl|rfl|rfl
    ·exact .inl a1
    ·exact .inl b1
    ·exact .inl a2
   ·exact fun k hk=>(ZY.1 hk).imp (fun h=>h) .inl
   ·have st: ∀k,k≠h->k≠h+1->k≠id->((((H.set (h+1) (q176 .busy h cl)).set id (.row 1 ((vs++[v]).map fun v=>[v]))).set h (.box [.row id (i+1) 0 (i+1)])).set (h+1) (q176 .ready h cl))[k]? =H[k]? :=fun k k1 k2 k3=>by
     rw [Zr (by omega),Zr (by omega),Zr (by omega),Zr (by omega)]
    refine ⟨by simp [a1],by simp [a2],fun k hk=> ?_,?_,.inr ⟨by omega,id,vs++[v],by simp [b1],b2,?_,?_,by simp [b5],fun k w p hv hp=> ?_⟩⟩
    ·simp only [List.length_set]
     rcases ZY.1 hk with hk|hk
     ·exact a3 k hk
     ·have:=(hB k hk).2;have:=hBl k hk;omega
    ·exact ZX (by simpa using hq)
    ·rw [q01p _ _ _ _ ne]
     exact q07o _ _ _ (by simpa using hh)
    ·unfold Eng.rowAt
     rw [Zr (by omega),Zr (by omega),ZX (by simpa using hidl)]
    ·by_cases e:k<vs.length
     ·rw [Zw e] at hv
      obtain ⟨B',c1,c2⟩:=b6 k w p hv hp
      refine ⟨B',q07p c1 ⟨by simp,fun x hx=> ?_⟩,fun x hx=>⟨by simp [(c2 x hx).1],(c2 x hx).2⟩⟩
      have:=c2 x hx
      exact st x (by omega) (by omega) this.2.1
     ·rw [ZD (by omega)] at hv
      have ek:k-vs.length=0:=by
       have:=(Za.1 hv).1
       simp at this;omega
      rw [ek] at hv
      simp at hv
      subst hv
      have e2:k=i:=by omega
      rw [e2,hx] at hp
      cases hp
      refine ⟨B,q07p hr ⟨by simp,fun x hx=> ?_⟩,fun x hx=>⟨by simp [hx],fun e=>(hB x hx).1 (e▸b1),(hB x hx).2⟩⟩
      have k1:=hB x hx
      exact st x (fun e=>k1.1 (e▸a1)) (fun e=>k1.1 (e▸a2)) (fun e=>k1.1 (e▸b1))
theorem q19i (l:List Note) (s:Spot) (o:spotB l s) (hne:q00j l s≠[]) (hlen:(q00j l s).length<=100000000) (G:Heap) (p:Nat) (b1:Eng.boxAt G p=some [q00b l]) (b2:Eng.boxAt G (p+1)=some (cSpot s)):
  clD EE (.p (.fn 365)) [.nil0,allV p] G=some (vPss (q00j l s),none):=by
 have hp:=q02y b1
 have hp2:=q02y b2
 obtain ⟨H1,hH1⟩: ∃H1,H1=G++[DObj.box [.nil0]]:=⟨_,rfl⟩
 have hl1:H1.length=G.length+1:=by simp [hH1]
 have e0:chR (q00j l s) G.length (allV p) 0 [G.length,G.length+1] (H1++[q176 .ready G.length (allV p)]):=by
  refine ⟨by simp,by simp,fun k hk=> ?_,?_,.inl ⟨rfl,?_⟩⟩
  ·simp at hk;simp [hl1];omega
  ·rw [<-hl1];simp
  ·simp [hH1,Zx]
 obtain ⟨r,h1,A',hk,hd,hs,hR⟩:=q0a5 l s o.l1 o.l2 o.b o.n0 o.n1 o.li p (G.length+1) (q1bl (q00j l s) hlen G.length (allV p)) e0 (by simp [hl1])
  (by rw [q077 _ (by omega),hH1,q077 _ hp];exact b1) (by rw [q077 _ (by omega),hH1,q077 _ hp2];exact b2) (by simp;omega) (by simp;omega)
 have hds:(dsOf r).foldr (addD G.length) []=[]:=q0bt fun k hk=>by
  rcases hd k hk with h|h
  ·simp at h;omega
  ·simp [hl1] at h;omega
 rw [q002 _ _ _ _ _ _ (noP _) fn365]
 have hv:(∃f,allV p= .p (.fn f))\/ ∃f u v,allV p= .fn (.func f) u v:= .inr ⟨_,_,_,rfl⟩
 have hloop:q176 .ready G.length (allV p)= .loop .ready (outE [(2,.ptr G.length 0),(6,allV p)]) [7] q17j q173:=rfl
 rw [hloop,<-hl1] at h1
 rw [hloop] at hR
 rcases hR with ⟨-,-,a3,a4,a5⟩|hF
 ·have rg:=q0n9 (env:=[(2,.ptr G.length 0),(6,allV p)]) (loc:=[]) (hp:=H1) (base:=G.length) (dirty:=[]) (x:= .t 6) (ps:=[7]) hv rfl h1 (by rw [hl1];exact a4) (by simp)
  rw [hds,hl1] at rg
  rcases a5 with ⟨z,-⟩|⟨-,id,vs,c1,c2,c3,c4,c5,c6⟩
  ·exact absurd (List.eq_nil_of_length_eq_zero z) hne
  ·generalize hpOf (H1++[DObj.loop .ready (outE [(2,.ptr G.length 0),(6,allV p)]) [7] q17j q173]) r=K at*
   have bx: ∀ob,Eng.boxAt (K.set (G.length+1) ob) G.length=some [.row id (q00j l s).length 0 (q00j l s).length]:=fun ob=>(q01p _ _ _ _ (by omega)).trans c3
   have rows:Rows G.length (K.set (G.length+1) .dead) id (q00j l s):=by
    refine ⟨vs,?_,c5,fun k v p hv hp=> ?_⟩
    ·unfold Eng.rowAt at*
     rw [Zr (by omega)];exact c4
    ·obtain ⟨B,d1,d2⟩:=c6 k v p hv hp
     refine ⟨B,q07p d1 ⟨by simp,fun x hx=> ?_⟩,fun x hx=>⟨by have:=(d2 x hx).2.2;omega,(d2 x hx).2.1⟩⟩
     have:=(d2 x hx).2.2
     exact Zr (by omega)
   have fz:=q0lr rows (by omega)
   rw [q056,if_pos (by omega)] at fz
   have hid:G.length<=id:=by omega
   subst hH1
   simp [zEc,rg,exSt,bx,fz,hid]
 ·exact hF.elim
theorem q17n (l:List Note) (s:Spot) (o:spotB l s) (hne:q00j l s≠[]) (hlen:(q00j l s).length<=100000000) (H:Heap):clD EE (.p (.fn 173)) [q00b l,vSpot s] H=some (vPss (q00j l s),none):=by
 have al:=fun H=>q0dc l s H
 have ap:=q19i l s o hne hlen (H++[.box [q00b l],.box (cSpot s)]) H.length (by simp) (by simp [Eng.boxAt])
 have co:clD EE (.p (.fn 273)) [allV H.length] (H++[.box [q00b l],.box (cSpot s)])=some (vPss (q00j l s),none):=by
  rw [q002 _ _ _ _ _ _ (noP _) fn273]
  simp [zEc,ap]
 rw [q002 _ _ _ _ _ _ (noP _) fn173]
 simp [zEc,al,co]
abbrev cPl (j:Job) (s:Stt) (m:Colm):List V:=vW j::(cStt s++cJobW j++cColm m)
abbrev vPl (j:Job) (s:Stt) (m:Colm):V:= .agg (cPl j s m)
section
variable (j:Job) (w:wfJ j) (hf: ∀x∈j.items,fairI x) (s:Stt) (m:Colm)
include w hf in
theorem q19j (c:Colm) (c1:c.notes.length<=1000000) (c2:c.top.length<=1000000) (c3:c.bot.length<=1000000) (H:Heap):clD EE (.p (.fn 174)) [vPl j s m,vColm c] H=some (vB (mayO j s m c),none):=by
 rw [q002 _ _ _ _ _ _ (noP _) fn174]
 have fa:=fun H=>q0z3 j w.w hf s c c1 c2 c3 H
 have sm:=fun H=>q0vn c m c1 c2 c3 H
 unfold mayO
 generalize q02r j s c=F at*
 obtain ⟨f1,f2,f3,f4,ov,f6⟩:=F
 simp only [vPl,cPl,cStt,cColm,cJobW,cGeom,Zd,Zf]
 cases ov with
 |false=>simp [zEc,fldvV,fa]
 |true=>simp [zEc,fldvV,fa,sm]
include w hf in
theorem q1ai (to:Int) (H:Heap):clD EE (.p (.fn 268)) [vPl j s m,vI to] H=some (vB (bareO j s to),none):=by
 rw [q002 _ _ _ _ _ _ (noP _) fn268]
 have su:=fun H=>q0z0 j H
 have so:=fun H=>q0vd j.items w.w.n1 hf s.at_ to H
 have hi:=fun H=>q0v9 j w.w s H
 have gs:=fun H=>q0vf (sumT j.items s.at_ to) (highS j s) false H
 unfold bareO
 generalize q07f (sumT j.items s.at_ to) (highS j s) false=G at*
 generalize sumT j.items s.at_ to=T at*
 simp only [vPl,cPl,cStt,cColm,cJobW,cGeom,Zd,Zf]
 simp [zEc,fldvV,su,so,hi,gs]
end
def encIs (p:List Int):List PV:=[.sl (p.map encI)]
@[simp] theorem q1c7 (p:List Int):(encIs p).length=1:=rfl
abbrev vIss (l:List (List Int)):V:= .p (.sl (l.map encIs))
def alS (g:Geom) (fs:List Float) (h:C3) (high:Int) (acc:List (List Int)) (_:Nat) (n:C3):List (List Int):=if q174 g fs h high n=true then acc++[takeL fs h n] else acc
theorem q1a4 (g:Geom) (fs:List Float) (h:C3) (high:Int): ∀(l:List C3) (acc:List (List Int)) (i:Nat),fold (alS g fs h high) acc i l=acc++(l.filter (q174 g fs h high)).map (takeL fs h)
 |[],acc,_=>by simp [fold]
 |x::r,acc,i=>by
  simp only [fold,q1a4 g fs h high r]
  unfold alS
  cases q:q174 g fs h high x<;>simp [q]
def alnE (g:Geom) (fs:List Float) (h:C3) (high:Int) (L:List C3) (H:Heap) (acc:List (List Int)) (i:Nat):St:=
 ⟨[(1,q005 fs),(4,vI high),(5,.lptr 5 0),(7,.lptr 7 0),(11,.row H.length acc.length 0 acc.length),(18,vCs L),(19,vI L.length),(20,vI i)],[(5,cGeom g),(7,lC h)],H++[DObj.row 1 (upV (acc.map encIs))],H.length,[]⟩
def alnX (g:Geom) (fs:List Float) (h:C3) (high:Int) (L:List C3) (H:Heap) (acc:List (List Int)):Ex×St:=
 (.exit 0,⟨[(1,q005 fs),(4,vI high),(5,.lptr 5 0),(7,.lptr 7 0),(11,.row H.length acc.length 0 acc.length),(18,vCs L),(19,vI L.length),(20,vI L.length),(21,vB false)],[(5,cGeom g),(7,lC h)],H++[DObj.row 1 (upV (acc.map encIs))],H.length,[]⟩)
theorem q1br (g:Geom) (fs:List Float) (hl:fs.length<=100000) (h:C3) (high:Int) (L:List C3) (hL:L.length<=100000) (H:Heap):evD EE q0Vs (alnE g fs h high L H [] 0)=some (alnX g fs h high L H ((L.filter (q174 g fs h high)).map (takeL fs h))):=by
 have e:=q1a4 g fs h high L [] 0
 rw [Zf] at e
 rw [<-e]
 unfold q0Vs
 refine Eq.trans (q00u L (alnE g fs h high L H) (fun acc i=>acc.length<=i) (alS g fs h high) (alnX g fs h high L H) (fun _ _=>rfl) ?_ ?_ [] 0 (by simp) (Zj _)) (by rw [ZG])
 ·intro acc i n hi hp
  have hlt:=(Za.1 hp).1
  have hix:=fun H k=>q00c H encC (k:=k) (s:=3) hp rfl
  have w1:IntKind.i64.wrap ((i:Int)+1)=((i+1:Nat):Int):=w64 (by omega) (by omega)
  have tk:=fun H=>q0pb fs h n H hl
  have su:=fun H=>q13d n H
  have rl:=q0pa fs h n
  have st:=fun H=>q0mz g fs (takeL fs h n) (by unfold takeL;rw [isort_len];omega) H
  have hm:acc.length+1<most:=by unfold most;omega
  unfold vTake at tk
  unfold alS q174
  by_cases o:okT fs h n
  ·rw [if_pos o] at tk
   generalize takeL fs h n=T at*
   by_cases c1:0<sumC n
   ·by_cases c2:q05p g fs T<=high
    ·rw [if_pos (by simp [o,c1,c2])]
     refine ⟨?_,by simp;omega⟩
     simp [alnE,hlt,hix,encC,encIs,subs,q001,w1,tk,su,st,c1,c2,hm]
    ·rw [if_neg (by simp [c2])]
     refine ⟨?_,by omega⟩
     simp [alnE,hlt,hix,encC,subs,q001,w1,tk,su,st,c1,c2]
   ·rw [if_neg (by simp [c1])]
    refine ⟨?_,by omega⟩
    simp [alnE,hlt,hix,encC,subs,q001,w1,tk,su,st,c1]
  ·rw [if_neg o] at tk
   rw [if_neg (by simp [o])]
   refine ⟨?_,by omega⟩
   simp [alnE,hlt,hix,encC,subs,q001,w1,tk]
 ·intro acc _
  refine ⟨?_,by simp [alnX]⟩
  simp [alnE,alnX]
theorem q1ay (g:Geom) (fs:List Float) (hl:fs.length<=100000) (h m:C3) (high:Int) (H:Heap):clD EE (.p (.fn 171)) [vGeom g,q005 fs,vC h,vC m,vI high] H=some (vIss (q175 g fs h m high),none):=by
 rw [q002 _ _ _ _ _ _ (noP _) fn171]
 have so:=fun H=>q1a6 m H
 have up:=fun H=>q19r (someC m) 8 H
 have ul:=q17a (someC m) 8
 have key:=q1br g fs hl h high (upL (someC m) 8) (by omega) H
 unfold q175
 generalize upL (someC m) 8=L at*
 generalize (L.filter (q174 g fs h high)).map (takeL fs h)=Q at*
 simp only [alnE,alnX,lC] at key
 simp [encIs] at key
 have f1: ∀b H,frzK 0 0 0 b H 2 (some (1,[]))=some (.sl []):=fun b H=>q09c 0 0 0 b 2 1 H []
 have f2: ∀i b H,idsK i 0 0 0 b H 2 (some (1,[]))=[i]:=fun i b H=>q0Qm i 0 0 0 b 2 1 H []
 simp [zEc,so,up,key]
def repCo (c:Colm) (v:V) (_:Heap) (B:List Nat):Prop:=v=vColm c/\B=[]
section
variable (R:Nat->List Nat->Heap->Prop) (F:List Nat->Heap->Prop) (q:Nat)
def Fed (c n:Nat) (A:List Nat) (H:Heap) (b:Bool) (r:Option (Heap×List Nat)):Prop:=
 ∃A',Keep A H (hpOf H r)/\(∀k∈dsOf r,k∈A\/H.length<=k)/\(∀k∈A',k∈A\/H.length<=k)/\(b=true->R (c+n) A' (hpOf H r))/\(b=false->F A' (hpOf H r))/\(r=none\/q∈dsOf r)
structure Ctx (A:List Nat) (H0:Heap) (c:Nat) (A':List Nat) (H':Heap) (d:List Nat):Prop where
 r:R c A' H'
 keep:Keep A H0 H'
 sub: ∀k∈A',k∈A\/H0.length<=k
 dirty: ∀k∈d,k∈A\/H0.length<=k
 none:d=[]\/q∈d
 same:d=[]->H'=H0
structure Off (A:List Nat) (H0:Heap) (A':List Nat) (H':Heap) (d:List Nat):Prop where
 f:F A' H'
 keep:Keep A H0 H'
 sub: ∀k∈A',k∈A\/H0.length<=k
 dirty: ∀k∈d,k∈A\/H0.length<=k
 q:d=[]\/q∈d
 same:d=[]->H'=H0
theorem Ctx.nil {A:List Nat} {H:Heap} {c:Nat} (h:R c A H):Ctx R q A H c A H []:=⟨h,Keep.refl _ _,fun _ h=> .inl h,fun _ h=>(nomatch h),.inl rfl,fun _=>rfl⟩
variable {R F q}
theorem q1az {P:Nat->Prop} {B:Nat} {ds d:List Nat} (h1: ∀k∈ds,P k) (h2: ∀k∈d,P k): ∀k∈ds.foldr (addD B) d,P k:=fun k hk=>by
 rcases q06d hk with h|h
 ·exact h1 k h
 ·exact h2 k h
section
variable {A A1:List Nat} {H0 H1:Heap} {c n:Nat} {d:List Nat} {r:Option (Heap×List Nat)} (hq:q<H0.length) (h:Ctx R q A H0 c A1 H1 d)
include hq h
theorem q192 {b:Bool} (g:Fed R F q c n A1 H1 b r): ∃A2,Keep A H0 (hpOf H1 r)/\(∀k∈A2,k∈A\/H0.length<=k)/\(∀k∈(dsOf r).foldr (addD H0.length) d,k∈A\/H0.length<=k)/\((dsOf r).foldr (addD H0.length) d=[]\/q∈(dsOf r).foldr (addD H0.length) d)/\((dsOf r).foldr (addD H0.length) d=[]->hpOf H1 r=H0)/\
  (b=true->R (c+n) A2 (hpOf H1 r))/\(b=false->F A2 (hpOf H1 r)):=by
 obtain ⟨A2,g1,g2,g3,g4,g5,g6⟩:=g
 have up: ∀k,k∈A1\/H1.length<=k->k∈A\/H0.length<=k:=fun k hk=>by
  rcases hk with hk|hk
  ·exact h.sub k hk
  ·exact .inr (Nat.le_trans h.keep.1 hk)
 refine ⟨A2,h.keep.trans g1 h.sub,fun k hk=>up k (g3 k hk),q1az (fun k hk=>up k (g2 k hk)) h.dirty,?_,fun e=> ?_,g4,g5⟩
 ·rcases g6 with rfl|g6
  ·exact h.none
  ·exact .inr (q09u g6 hq)
 ·rcases g6 with rfl|g6
  ·exact h.same e
  ·have:=q09u (B:=H0.length) (d:=d) g6 hq
   rw [e] at this;cases this
theorem q180 (g:Fed R F q c n A1 H1 true r): ∃A2,Ctx R q A H0 (c+n) A2 (hpOf H1 r) ((dsOf r).foldr (addD H0.length) d):=by
 obtain ⟨A2,a1,a2,a3,a4,a5,a6,-⟩:=q192 hq h g
 exact ⟨A2,a6 rfl,a1,a2,a3,a4,a5⟩
theorem q17s (g:Fed R F q c n A1 H1 false r): ∃A2,Off F q A H0 A2 (hpOf H1 r) ((dsOf r).foldr (addD H0.length) d):=by
 obtain ⟨A2,a1,a2,a3,a4,a5,-,a6⟩:=q192 hq h g
 exact ⟨A2,a6 rfl,a1,a2,a3,a4,a5⟩
end
theorem q181 {A A1:List Nat} {H0 H1:Heap} {c n:Nat} {d:List Nat} (h:Ctx R q A H0 (c+n) A1 H1 d):Fed R F q c n A H0 true (if d=[] then none else some (H1,d)):=by
 by_cases e:d=[]
 ·rw [if_pos e]
  have:=h.same e
  exact ⟨A1,Keep.refl _ _,fun _ h=>(nomatch h),h.sub,fun _=>this▸h.r,(fun e=>nomatch e),.inl rfl⟩
 ·rw [if_neg e]
  exact ⟨A1,h.keep,h.dirty,h.sub,fun _=>h.r,(fun e=>nomatch e),.inr (h.none.resolve_left e)⟩
theorem q17t {A A1:List Nat} {H0 H1:Heap} {c n:Nat} {d:List Nat} (h:Off F q A H0 A1 H1 d):Fed R F q c n A H0 false (if d=[] then none else some (H1,d)):=by
 by_cases e:d=[]
 ·rw [if_pos e]
  have:=h.same e
  exact ⟨A1,Keep.refl _ _,fun _ h=>(nomatch h),h.sub,(fun e=>nomatch e),fun _=>this▸h.f,.inl rfl⟩
 ·rw [if_neg e]
  exact ⟨A1,h.keep,h.dirty,h.sub,(fun e=>nomatch e),fun _=>h.f,.inr (h.q.resolve_left e)⟩
theorem q18i {A:List Nat} {H:Heap} {c:Nat} (h:R c A H):Fed R F q c 0 A H true none:=⟨A,Keep.refl _ _,fun _ h=>(nomatch h),fun _ h=> .inl h,fun _=>h,(fun e=>nomatch e),.inl rfl⟩
theorem q18z {L:List Colm} (he:Eats repCo q L R F) {A:List Nat} {H:Heap} {c:Nat} {x:Colm} (hx:L[c]? =some x) (h:R c A H): ∃b r,clD EE (.yld q) [vColm x] H=some (vB b,r)/\Fed R F q c 1 A H b r:=by
 obtain ⟨b,H',ds,A',g1,g2,g3,g4,g5,g6,g7⟩:=he.step c A H x (vColm x) [] hx h ⟨rfl,rfl⟩ (fun k hk=>(nomatch hk))
 refine ⟨b,some (H',ds),g1,A',g3,g4,fun k hk=> ?_,g6,g7,.inr g2⟩
 have:=g5 k hk
 simpa using this
theorem q19k {α:Type} (Ls:List α) (cs:Nat->Nat) {ks kl:List Nat} {cd:IC} (E:Heap->List Nat->Nat->St) (X:Heap->List Nat->Ex×St) (Y:Nat->Heap->List Nat->Ex×St) (hk: ∀H d i,(E H d i).keep ks kl=E H d i) (hY: ∀i H d,(Y i H d).1≠ .normal) (hX: ∀H d,(X H d).1≠ .normal)
  (A:List Nat) (H0:Heap)
  (hstep: ∀i x A' H' d,Ls[i]? =some x->Ctx R q A H0 (cs i) A' H' d->(∃A2 H2 d2,Ctx R q A H0 (cs (i+1)) A2 H2 d2/\evD EE cd (E H' d i)=some (.normal,E H2 d2 (i+1)))\/ ∃A2 H2 d2,Off F q A H0 A2 H2 d2/\evD EE cd (E H' d i)=some (Y i H2 d2))
  (hend: ∀H' d,evD EE cd (E H' d Ls.length)=some (X H' d)) (A1:List Nat) (H1:Heap) (d1:List Nat) (h0:Ctx R q A H0 (cs 0) A1 H1 d1):
  ∃r,evD EE (.loop ks kl cd) (E H1 d1 0)=some r/\((∃A' H' d,r=X H' d/\Ctx R q A H0 (cs Ls.length) A' H' d)\/ ∃i A' H' d,r=Y i H' d/\Off F q A H0 A' H' d):=by
 refine q0vo Ls (fun i S=> ∃A' H' d,S=E H' d i/\Ctx R q A H0 (cs i) A' H' d) (fun r=>(∃A' H' d,r=X H' d/\Ctx R q A H0 (cs Ls.length) A' H' d)\/ ∃i A' H' d,r=Y i H' d/\Off F q A H0 A' H' d)
  (by rintro i S ⟨A',H',d,rfl,-⟩;exact hk _ _ _) ?_ ?_ _ 0 _ rfl ⟨A1,H1,d1,rfl,h0⟩ (Zj _)
 ·rintro i x S ⟨A',H',d,rfl,hC⟩ hx
  rcases hstep i x A' H' d hx hC with ⟨A2,H2,d2,h1,h2⟩|⟨A2,H2,d2,h1,h2⟩
  ·exact .inl ⟨_,h2,A2,H2,d2,rfl,h1⟩
  ·exact .inr ⟨_,h2,hY _ _ _,.inr ⟨i,A2,H2,d2,rfl,h1⟩⟩
 ·rintro S ⟨A',H',d,rfl,hC⟩
  exact ⟨_,hend _ _,hX _ _,.inl ⟨A',H',d,rfl,hC⟩⟩
theorem q17u {α:Type} (Ls:List α) (cs:Nat->Nat) {ks kl:List Nat} {cd:IC} (E:Heap->List Nat->Nat->St) (X Y:Heap->List Nat->Ex×St) (hk: ∀H d i,(E H d i).keep ks kl=E H d i) (hY: ∀H d,(Y H d).1≠ .normal) (hX: ∀H d,(X H d).1≠ .normal)
  (A:List Nat) (H0:Heap)
  (hstep: ∀i x A' H' d,Ls[i]? =some x->Ctx R q A H0 (cs i) A' H' d->(∃A2 H2 d2,Ctx R q A H0 (cs (i+1)) A2 H2 d2/\evD EE cd (E H' d i)=some (.normal,E H2 d2 (i+1)))\/ ∃A2 H2 d2,Off F q A H0 A2 H2 d2/\evD EE cd (E H' d i)=some (Y H2 d2))
  (hend: ∀H' d,evD EE cd (E H' d Ls.length)=some (X H' d)) (A1:List Nat) (H1:Heap) (d1:List Nat) (h0:Ctx R q A H0 (cs 0) A1 H1 d1):
  ∃r,evD EE (.loop ks kl cd) (E H1 d1 0)=some r/\((∃A' H' d,r=X H' d/\Ctx R q A H0 (cs Ls.length) A' H' d)\/ ∃A' H' d,r=Y H' d/\Off F q A H0 A' H' d):=by
 obtain ⟨r,h1,h2⟩:=q19k Ls cs E X (fun _=>Y) hk (fun _=>hY) hX A H0 hstep hend A1 H1 d1 h0
 exact ⟨r,h1,h2.imp (fun h=>h) fun ⟨_,h⟩=>h⟩
def q16v (L:List Colm) (c:Nat) (M:List Colm):Prop:= ∀i x,M[i]? =some x->L[c+i]? =some x
def sgm {α:Type} (l:List α) (f:α->List Colm) (k:Nat):Nat:=((l.take k).flatMap f).length
theorem q17k {α:Type} (l:List α) (f:α->List Colm):sgm l f 0=0:=by simp [sgm]
theorem q17v {α:Type} (l:List α) (f:α->List Colm):sgm l f l.length=(l.flatMap f).length:=by simp [sgm]
theorem q17l {α:Type} {l:List α} {f:α->List Colm} {k:Nat} {x:α} (h:l[k]? =some x):sgm l f (k+1)=sgm l f k+(f x).length:=by
 unfold sgm
 rw [List.take_add_one,h,List.flatMap_append,Zt]
 simp
theorem q16y {α:Type} {L:List Colm} {c:Nat} {l:List α} {f:α->List Colm} (h:q16v L c (l.flatMap f)) {k:Nat} {x:α} (hx:l[k]? =some x):q16v L (c+sgm l f k) (f x):=by
 intro i y hy
 have hlt:=(Za.1 hx).1
 rw [Z3]
 refine h _ y ?_
 have e:l.flatMap f=(l.take k).flatMap f++(f x++(l.drop (k+1)).flatMap f):=by
  rw [<-List.flatMap_cons,<-List.flatMap_append]
  congr 1
  have:=ZA hlt
  rw [(Za.1 hx).2] at this
  rw [<-this,List.take_append_drop]
 rw [e,ZD (by unfold sgm;omega)]
 unfold sgm
 rw [Nat.add_sub_cancel_left,Zw (Za.1 hy).1]
 exact hy
end
def mkC (s:Stt) (to:Int) (p:List Piece) (x:Pr):Colm:=⟨1,s.at_,to,p,x.1,x.2⟩
def oneO (j:Job) (s:Stt) (m:Colm) (to:Int) (p:List Piece) (x:Pr):List Colm:=if mayO j s m (mkC s to p x)=true then [mkC s to p x] else []
theorem q182 {α:Type} (f:α->Colm) (b:Colm->Bool): ∀l:List α,(l.map f).filter b=l.flatMap fun x=>if b (f x)=true then [f x] else []
 |[]=>rfl
 |x::r=>by
  simp only [Zo,List.flatMap_cons,List.filter_cons,q182 f b r]
  split<;>simp
theorem q1aj (j:Job) (s:Stt) (m:Colm) (to:Int):(candO j s to).filter (mayO j s m)=(q00j j.notes (spotS j s to)).flatMap fun p=>(allP j.g j.floats s.h (q129 s.h (q01i j to))).flatMap (oneO j s m to p):=by
 unfold candO
 rw [List.filter_flatMap]
 congr 1
 funext p
 exact q182 _ _ _
section
variable (j:Job) (w:wfJ j) (hf: ∀x∈j.items,fairI x) (s:Stt) (m:Colm)
variable {R:Nat->List Nat->Heap->Prop} {F:List Nat->Heap->Prop} {q:Nat} {L:List Colm} (he:Eats repCo q L R F)
def toiE (to:Int) (p:List Piece) (Cs:List (List Piece)) (k:Nat) (Ps:List Pr) (q:Nat) (B:Nat) (H:Heap) (d:List Nat) (i:Nat):St:=
 ⟨[(1,vI to),(2,.yld q),(3,.lptr 3 0),(8,vPs Ps),(10,q00v p),(54,vPss Cs),(55,vI Cs.length),(56,vI k),(60,vPs Ps),(61,vI Ps.length),(62,vI i)],[(3,cPl j s m)],H,B,d⟩
def toiX (to:Int) (p:List Piece) (Cs:List (List Piece)) (k:Nat) (Ps:List Pr) (q:Nat) (B:Nat) (H:Heap) (d:List Nat):Ex×St:=
 (.exit 2,⟨[(1,vI to),(2,.yld q),(3,.lptr 3 0),(8,vPs Ps),(10,q00v p),(54,vPss Cs),(55,vI Cs.length),(56,vI k),(60,vPs Ps),(61,vI Ps.length),(62,vI Ps.length),(63,vB false)],[(3,cPl j s m)],H,B,d⟩)
def toiY (B:Nat) (H:Heap) (d:List Nat):Ex×St:=(.ret,⟨[(6,vB false)],[],H,B,d⟩)
include w hf he in
theorem q1bs (to:Int) (p:List Piece) (hp:p.length<=1000000) (Cs:List (List Piece)) (k:Nat) (Ps:List Pr) (hP:Ps.length<=2000000000) (hPs: ∀x∈Ps,x.1.length<=1000000/\x.2.length<=1000000) (A:List Nat) (H0:Heap) (hq:q<H0.length) (c0:Nat) (hL:q16v L c0 (Ps.flatMap (oneO j s m to p)))
  (A1:List Nat) (H1:Heap) (d1:List Nat) (h0:Ctx R q A H0 c0 A1 H1 d1):
  ∃r,evD EE q0Wx (toiE j s m to p Cs k Ps q H0.length H1 d1 0)=some r/\((∃A' H' d,r=toiX j s m to p Cs k Ps q H0.length H' d/\Ctx R q A H0 (c0+(Ps.flatMap (oneO j s m to p)).length) A' H' d)\/ ∃A' H' d,r=toiY H0.length H' d/\Off F q A H0 A' H' d):=by
 rw [<-q17v]
 unfold q0Wx
 refine q17u Ps (fun i=>c0+sgm Ps (oneO j s m to p) i) (toiE j s m to p Cs k Ps q H0.length) (toiX j s m to p Cs k Ps q H0.length) (toiY H0.length) (fun _ _ _=>rfl) (fun _ _=>by simp [toiY]) (fun _ _=>by simp [toiX]) A H0 ?_ ?_ A1 H1 d1 (by simp only [q17k];exact h0)
 ·intro i x A' H' d hx hC
  have hlt:=(Za.1 hx).1
  have hix:=fun H k=>q00c H encP (k:=k) (s:=2) hx rfl
  have w1:IntKind.i64.wrap ((i:Int)+1)=((i+1:Nat):Int):=w64 (by omega) (by omega)
  have bx:=hPs x (Zp hx)
  have my:=fun H=>q19j j w hf s m (mkC s to p x) hp bx.1 bx.2 H
  have hw:=q16y hL hx
  have hs:=q17l (f:=oneO j s m to p) hx
  simp only [mkC,vPl,cPl,cStt,cColm,cJobW,cGeom,vColm,Zd,Zf] at my
  simp only [hs]
  by_cases b0:mayO j s m (mkC s to p x)=true
  ·have e1:oneO j s m to p x=[mkC s to p x]:=by unfold oneO;rw [if_pos b0]
   rw [e1] at hw⊢
   simp only [mkC] at b0
   obtain ⟨b,r,hy,hfed⟩:=q18z he (hw 0 _ rfl) hC.r
   simp only [mkC,vColm,cColm,Zd,Zf] at hy
   rw [b0] at my
   cases b with
   |true=>
    obtain ⟨A2,hC2⟩:=q180 hq hC hfed
    refine .inl ⟨A2,_,_,hC2,?_⟩
    simp only [toiE,cPl,cStt,cColm,cJobW,cGeom,Zd,Zf] at my⊢
    simp [hlt,hix,encP,subs,q001,my,hy,q121,w1]
   |false=>
    obtain ⟨A2,hO⟩:=q17s hq hC hfed
    refine .inr ⟨A2,_,_,hO,?_⟩
    simp only [toiE,toiY,cPl,cStt,cColm,cJobW,cGeom,Zd,Zf] at my⊢
    simp [hlt,hix,encP,subs,q001,my,hy,q121,w1]
  ·have e1:oneO j s m to p x=[]:=by unfold oneO;rw [if_neg b0]
   rw [e1]
   simp only [mkC,Bool.not_eq_true] at b0
   rw [b0] at my
   refine .inl ⟨A',H',d,hC,?_⟩
   simp only [toiE,cPl,cStt,cColm,cJobW,cGeom,Zd,Zf] at my⊢
   simp [hlt,hix,encP,subs,q001,my,w1]
 ·intro H' d
  simp only [toiE,toiX,cPl,cStt,cColm,cJobW,cGeom,Zd,Zf]
  simp
end
theorem q0nx {l:List Note} {s:Spot} (o:spotB l s):(q00j l s).length<=100000000:=by
 unfold q00j
 rw [Zt]
 have h1:(if openN l s=0\/s.fresh=false then [([]:List Piece)] else []).length<=1:=by split<;>simp
 have h2:(if openN l s=0 then [] else (q01k (rd l (lastP s (openN l s))) (fromP s (openN l s))).map (oneP l s (openN l s))).length<=10000000:=by
  split
  ·simp
  ·rename_i c0
   rw [Z0]
   have e:=q08w o.b o.n0 o.li
   have hrm:rd l (lastP s (openN l s))∈l:=q05a (by unfold lastP;have:=o.n0;omega) (by unfold lastP;have:=o.b;omega)
   have h1:=q0cd (q02f (rd l (lastP s (openN l s))).lines (rd l (lastP s (openN l s))).pens (fromP s (openN l s))) ((rd l (lastP s (openN l s))).lines.length+1) 0
   have:=o.l2 _ hrm
   unfold q01k;omega
 omega
theorem q1b0 (g:Geom) (l:List Float) (h m:C3):(allP g l h m).length<=2000000000:=by
 have h1:=q16u (outer g l h (someC m)) 35937 (fun c=>q193 g l h (someC m) c) (upL (someC m) (max (min g.topMany 48) 0))
 have h2:=q17a (someC m) (max (min g.topMany 48) 0)
 unfold allP
 omega
theorem q19l {j:Job} (w:wfJ j) {s:Stt} (r:rightP j s) (to:Int):q00j j.notes (spotS j s to)≠[]:=by
 obtain ⟨n0,l0,n1,n2⟩:=q09w w r
 rw [q0p6 r]
 refine q0fs (q03o w.w _) n0 l0 w.notes fun h=> ?_
 simp only at h⊢
 by_cases z:s.line=0
 ·rw [z]
  have:=w.notes (rd j.notes s.note) (q05a n0 (by have:=q03o w.w to;omega))
  omega
 ·exact (n2 z).2
theorem q196 {j:Job} (w:wfJ j) {s:Stt} (r:rightP j s) (to:Int):q00j j.notes (q02h (spotS j s to))≠[]:=by
 obtain ⟨n0,l0,n1,n2⟩:=q09w w r
 rw [q0p6 r]
 refine q0fs (q03o w.w _) n0 l0 w.notes fun h=> ?_
 simp only [q02h] at h⊢
 by_cases z:s.line=0
 ·rw [z]
  have:=w.notes (rd j.notes s.note) (q05a n0 (by have:=q03o w.w to;omega))
  omega
 ·exact (n2 z).2
section
variable (j:Job) (w:wfJ j) (hf: ∀x∈j.items,fairI x) (s:Stt) (m:Colm)
variable {R:Nat->List Nat->Heap->Prop} {F:List Nat->Heap->Prop} {q:Nat} {L:List Colm} (he:Eats repCo q L R F)
def toE (to:Int) (Cs:List (List Piece)) (Ps:List Pr) (q:Nat) (B:Nat) (H:Heap) (d:List Nat) (k:Nat):St:=
 ⟨[(1,vI to),(2,.yld q),(3,.lptr 3 0),(8,vPs Ps),(54,vPss Cs),(55,vI Cs.length),(56,vI k)],[(3,cPl j s m)],H,B,d⟩
def toX (to:Int) (Cs:List (List Piece)) (Ps:List Pr) (q:Nat) (B:Nat) (H:Heap) (d:List Nat):Ex×St:=
 (.exit 0,⟨[(1,vI to),(2,.yld q),(3,.lptr 3 0),(8,vPs Ps),(54,vPss Cs),(55,vI Cs.length),(56,vI Cs.length),(57,vB false)],[(3,cPl j s m)],H,B,d⟩)
include w hf he in
theorem to_lp (to:Int) (Cs:List (List Piece)) (hC:Cs.length<=100000000) (hCs: ∀p∈Cs,p.length<=1000000) (Ps:List Pr) (hP:Ps.length<=2000000000) (hPs: ∀x∈Ps,x.1.length<=1000000/\x.2.length<=1000000) (A:List Nat) (H0:Heap) (hq:q<H0.length) (c0:Nat)
  (hL:q16v L c0 (Cs.flatMap fun p=>Ps.flatMap (oneO j s m to p)))
  (A1:List Nat) (H1:Heap) (d1:List Nat) (h0:Ctx R q A H0 c0 A1 H1 d1):
  ∃r,evD EE q18r (toE j s m to Cs Ps q H0.length H1 d1 0)=some r/\((∃A' H' d,r=toX j s m to Cs Ps q H0.length H' d/\Ctx R q A H0 (c0+(Cs.flatMap fun p=>Ps.flatMap (oneO j s m to p)).length) A' H' d)\/ ∃A' H' d,r=toiY H0.length H' d/\Off F q A H0 A' H' d):=by
 rw [<-q17v]
 unfold q18r
 refine q17u Cs (fun i=>c0+sgm Cs (fun p=>Ps.flatMap (oneO j s m to p)) i) (toE j s m to Cs Ps q H0.length) (toX j s m to Cs Ps q H0.length) (toiY H0.length) (fun _ _ _=>rfl) (fun _ _=>by simp [toiY]) (fun _ _=>by simp [toX]) A H0 ?_ ?_ A1 H1 d1 (by simp only [q17k];exact h0)
 ·intro i p A' H' d hx hC'
  have hlt:=(Za.1 hx).1
  have hix:=fun H k=>q00c H encPs (k:=k) (s:=1) hx rfl
  simp only [encPs] at hix
  have w1:IntKind.i64.wrap ((i:Int)+1)=((i+1:Nat):Int):=w64 (by omega) (by omega)
  have hs:=q17l (f:=fun p=>Ps.flatMap (oneO j s m to p)) hx
  simp only [hs]
  obtain ⟨r,k1,k2⟩:=q1bs j w hf s m he to p (hCs p (Zp hx)) Cs i Ps hP hPs A H0 hq _ (q16y hL hx) A' H' d hC'
  rcases k2 with ⟨A2,H2,d2,rfl,hC2⟩|⟨A2,H2,d2,rfl,hO⟩
  ·refine .inl ⟨A2,H2,d2,by rw [<-Z3];exact hC2,?_⟩
   simp only [toiE,toiX,cPl,cStt,cColm,cJobW,cGeom,Zd,Zf,Int.natCast_zero] at k1
   simp only [toE,cPl,cStt,cColm,cJobW,cGeom,Zd,Zf]
   simp [hlt,hix,subs,q001,k1,w1]
  ·refine .inr ⟨A2,H2,d2,hO,?_⟩
   simp only [toiE,toiY,cPl,cStt,cColm,cJobW,cGeom,Zd,Zf,Int.natCast_zero] at k1
   simp only [toE,toiY,cPl,cStt,cColm,cJobW,cGeom,Zd,Zf]
   simp [hlt,hix,subs,q001,k1,w1]
 ·intro H' d
  simp only [toE,toX,cPl,cStt,cColm,cJobW,cGeom,Zd,Zf]
  simp
include w hf he in
theorem q1bm (r:rightP j s) (to:Int) (A:List Nat) (H:Heap) (hq:q<H.length) (c:Nat) (hL:q16v L c (toO j s m to)) (h0:R c A H):
  ∃b r,clD EE (.p (.fn 170)) [vPl j s m,vI to,.yld q] H=some (vB b,r)/\Fed R F q c (toO j s m to).length A H b r:=by
 rw [q002 _ _ _ _ _ _ (noP _) fn170]
 have br:=fun H=>q1ai j w hf s m to H
 unfold toO at hL⊢
 by_cases b0:bareO j s to=false/\to≠m.to
 ·rw [if_pos b0] at hL⊢
  refine ⟨true,none,?_,q18i h0⟩
  rw [b0.1] at br
  simp only [vPl,cPl,cStt,cColm,cJobW,cGeom,Zd,Zf] at br⊢
  simp [zEc,br,b0.2]
 ·rw [if_neg b0] at hL⊢
  rw [q1aj] at hL⊢
  have mp:=fun H=>q0gw j H
  have ah:=fun H=>q09v j.items j.floats to H
  have ry:=fun H=>q12s s.h (q01i j to) H
  have al:=fun H=>q19z j.g j.floats s.h (q129 s.h (q01i j to)) H w.w.n3
  have sp:=fun H=>q07t j w.w s to H
  have ch:=fun H=>q17n j.notes (spotS j s to) (q08n j w s to) (q19l w r to) (q0nx (q08n j w s to)) H
  have hps: ∀x∈allP j.g j.floats s.h (q129 s.h (q01i j to)),x.1.length<=1000000/\x.2.length<=1000000:=by
   intro x hx
   obtain ⟨c,d,_,_,_,_,rfl⟩:=q18g.1 hx
   exact ⟨q10q j.floats w.w.n3 _ _,q10q j.floats w.w.n3 _ _⟩
  obtain ⟨r2,k1,k2⟩:=to_lp j w hf s m he to _ (q0nx (q08n j w s to)) (q0d0 (q08n j w s to)) _ (q1b0 j.g j.floats s.h (q129 s.h (q01i j to))) hps A H hq c hL A H [] (Ctx.nil R q h0)
  change∀H,clD EE _ _ H=some (vC (q01i j to),none) at ah
  generalize (q00j j.notes (spotS j s to)).flatMap _=LL at*
  generalize allP j.g j.floats s.h (q129 s.h (q01i j to))=Ps at*
  generalize q129 s.h (q01i j to)=q1 at*
  generalize q01i j to=q2 at*
  generalize q00j j.notes (spotS j s to)=Cs at*
  generalize spotS j s to=q3 at*
  rcases k2 with ⟨A2,H2,d2,rfl,hC2⟩|⟨A2,H2,d2,rfl,hO⟩
  ·refine ⟨true,_,?_,q181 hC2⟩
   simp only [toE,toX,cPl,cStt,cColm,cJobW,cGeom,Zd,Zf,Int.natCast_zero] at k1
   simp only [vPl,cPl,cStt,cColm,cJobW,cGeom,Zd,Zf] at br⊢
   cases q:bareO j s to with
   |true=>
    rw [q] at br
    simp [zEc,br,mp,ah,ry,al,sp,ch,k1]
   |false=>
    rw [q] at br
    have e:to=m.to:=by simpa [q] using b0
    subst e
    simp [zEc,br,mp,ah,ry,al,sp,ch,k1]
  ·refine ⟨false,_,?_,q17t hO⟩
   simp only [toE,toiY,cPl,cStt,cColm,cJobW,cGeom,Zd,Zf,Int.natCast_zero] at k1
   simp only [vPl,cPl,cStt,cColm,cJobW,cGeom,Zd,Zf] at br⊢
   cases q:bareO j s to with
   |true=>
    rw [q] at br
    simp [zEc,br,mp,ah,ry,al,sp,ch,k1]
   |false=>
    rw [q] at br
    have e:to=m.to:=by simpa [q] using b0
    subst e
    simp [zEc,br,mp,ah,ry,al,sp,ch,k1]
end
end Go.EnvOf
