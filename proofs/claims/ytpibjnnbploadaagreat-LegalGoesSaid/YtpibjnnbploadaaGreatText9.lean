/- The program's functions and the document's, evaluated. -/
import Derived.Test.YtpibjnnbploadaaGreatText8
import Derived.Test.YtpibjnnbploadaaGreatText6
import Derived.Test.YtpibjnnbploadaaGreatText7
set_option linter.unusedSimpArgs false
set_option linter.unusedVariables false
namespace Go.EnvOf
open Go Go.Eng
set_option maxRecDepth 100000
def vOC (o:Option Colm):V:= .tup [vColm (o.getD q02d),vB o.isSome]
theorem q0b2 (j:Job) (w:okW j) (s:Stt) (H:Heap):clD EE (.p (.fn 249)) [vW j,vStt s] H=some (vB (q02f j s),none):=by
 rw [q002 _ _ _ _ _ _ (noP _) fn249]
 have hr:=fun H=>q02a j w s H
 have hd:=fun H=>q0rr j.items j.floats s.at_ H
 change∀H,clD EE _ _ H=some (vC (dueF j s.at_),none) at hd
 have re:=fun H=>in_ev (dueF j s.at_) s.h H
 unfold q02f
 cases c:q01c j s with
 |false=>
  rw [c] at hr
  simp [St.enter,q000,subs,q001,hr]
 |true=>
  rw [c] at hr
  simp only [vW,q00e,cJobW,cGeom,List.cons_append,List.nil_append] at hr⊢
  simp [St.enter,q000,subs,q001,hr,hd,re]
theorem q0fn (j:Job) (H:Heap):clD EE (.p (.fn 252)) [vW j] H=some (vMapW j.items j.floats,none):=by
 have hp: ∀H,clD EE (.p (.fn 211)) [vW j] H=some (q00e j,none):=by
  intro H
  rw [q002 _ _ _ _ _ _ (noP _) fn211]
  simp only [vW,cJobW,cGeom,List.cons_append,List.nil_append]
  simp [St.enter,q000,subs,q001]
 have hq: ∀H,clD EE (.p (.fn 367)) [q00e j] H=some (vMapW j.items j.floats,none):=by
  intro H
  rw [q002 _ _ _ _ _ _ (noP _) fn367]
  simp only [q00e]
  simp [St.enter,q000,subs,q001]
 rw [q002 _ _ _ _ _ _ (noP _) fn252]
 simp [St.enter,q000,subs,q001,hp,hq]
section
variable (j:Job) (w:wfJ j)
include w
theorem q0bm (s:Stt) (to:Int):spotB j.notes (spotS j s to):=by
 have hb:=q03h w.w to
 unfold spotS
 by_cases r:q01c j s=true
 ·rw [if_pos r]
  have c:=q09d w ((q01g j s).1 r)
  have:=w.w.n2
  exact ⟨w.w.n2,w.w.lines,hb,c.1,by simp only;omega,c.2.1⟩
 ·rw [if_neg r]
  exact ⟨w.w.n2,w.w.lines,by simp only;omega,by simp,by simp,by simp⟩
theorem q0d1 (s:Stt) (to:Int):spotB j.notes (q01q (spotS j s to)):=by
 have o:=q0bm j w s to
 exact ⟨o.l1,o.l2,o.b,o.n0,o.n1,o.li⟩
theorem q09f (s:Stt) (H:Heap):clD EE (.p (.fn 248)) [vW j,vStt s] H=some (vB (openS j s),none):=by
 rw [q002 _ _ _ _ _ _ (noP _) fn248]
 have r:=fun H=>q02a j w.w s H
 have d:=fun H=>q0gt j w.w s H
 unfold openS
 cases c:q01c j s with
 |false=>rw [c] at r;simp [St.enter,q000,subs,q001,r]
 |true=>rw [c] at r;simp [St.enter,q000,subs,q001,r,d]
theorem q0vu (s:Stt) (H:Heap):clD EE (.p (.fn 116)) [vW j,vStt s] H=some (vOC (textC j s),none):=by
 rw [q002 _ _ _ _ _ _ (noP _) fn116]
 have op:=fun H=>q09f j w s H
 have fl:=fun H=>q0b2 j w.w s H
 have wl:=fun H=>q073 j H
 have fb:=fun H=>q0aw j.items w.w.n1 s.at_ H
 have pl:=fun H=>q071 j H
 have sp:=fun H=>q061 j w.w s (q015 j.items s.at_) H
 have le:=fun H=>q09o j.notes (spotS j s (q015 j.items s.at_)) (q0bm j w s _) H
 unfold textC vOC
 cases c1:openS j s with
 |false=>rw [c1] at op;simp [St.enter,q000,subs,q001,op,q02d]
 |true=>
  rw [c1] at op
  cases c2:q02f j s with
  |false=>rw [c2] at fl;simp [St.enter,q000,subs,q001,op,fl,q02d]
  |true=>
   rw [c2] at fl
   have r:=((q05r j s).1 c1).1
   simp only [vJob,cGeom,List.cons_append,List.nil_append] at pl
   by_cases c3:s.at_<j.items.length
   ·have hb:=q0fl r.at0 (q0h2 r.at0 c3)
    have h0:=r.at0
    have hn: ¬q015 j.items s.at_<0:=by omega
    generalize q015 j.items s.at_=t at*
    generalize spotS j s t=q at*
    simp [St.enter,q000,subs,q001,fldvV,op,fl,wl,fb,pl,sp,le,hn,c3]
   ·have hn:q015 j.items s.at_= -1:=by
     unfold q015
     rw [show j.items.length-pos s.at_=0 by unfold pos;have:=r.at0;omega];rfl
    rw [hn] at fb
    simp [St.enter,q000,subs,q001,op,fl,wl,fb,c3,q02d]
theorem q0sg {s:Stt} (r:rightP j s) {n:C3} (hn:leC n (q00v j s.at_)):
  (s.h.a<n.a→okT j.floats s.h ⟨1,0,0⟩)∧(s.h.b<n.b→okT j.floats s.h ⟨0,1,0⟩)∧(s.h.c<n.c→okT j.floats s.h ⟨0,0,1⟩):=by
 have h0:=r.h0
 have h1:=q023 hn (q07h w.six _)
 have h2:=q0h3 w r
 unfold okT okU leC zeroC allC at*
 simp only at*
 omega
theorem q0h5 {s:Stt} (r:rightP j s) {n:C3} (hn:leC n (q00v j s.at_)) (H:Heap):clD EE (.p (.fn 251)) [vW j,vStt s,vC n] H=some (vOC (q03p j s n),none):=by
 rw [q002 _ _ _ _ _ _ (noP _) fn251]
 have ok:=q0sg j w r hn
 have pl:=fun H=>q071 j H
 have w1:IntKind.i64.wrap 1=1:=by decide
 have w2:IntKind.i64.wrap 2=2:=by decide
 have w3:IntKind.i64.wrap 3=3:=by decide
 have t1:=fun y H=>q0mp j.floats s.h y H w.w.n3
 unfold vTake at t1
 unfold q03p vOC
 simp only [vJob,cGeom,List.cons_append,List.nil_append] at pl
 by_cases c1:s.h.a<n.a
 ·have t:=fun H=>t1 ⟨1,0,0⟩ H
  simp only [if_pos (ok.1 c1)] at t
  generalize takeL j.floats s.h ⟨1,0,0⟩=T at*
  simp [St.enter,q000,subs,q001,fldvV,q085,q005,ixaV,ixvV,q00k,w1,w2,w3,c1,pl,t]
 ·by_cases c2:s.h.b<n.b
  ·have t:=fun H=>t1 ⟨0,1,0⟩ H
   simp only [if_pos (ok.2.1 c2)] at t
   generalize takeL j.floats s.h ⟨0,1,0⟩=T at*
   simp [St.enter,q000,subs,q001,fldvV,q085,q005,ixaV,ixvV,q00k,w1,w2,w3,c1,c2,pl,t]
  ·by_cases c3:s.h.c<n.c
   ·have t:=fun H=>t1 ⟨0,0,1⟩ H
    simp only [if_pos (ok.2.2 c3)] at t
    generalize takeL j.floats s.h ⟨0,0,1⟩=T at*
    simp [St.enter,q000,subs,q001,fldvV,q085,q005,ixaV,ixvV,q00k,w1,w2,w3,c1,c2,c3,pl,t]
   ·simp [St.enter,q000,subs,q001,q085,q005,ixaV,ixvV,q00k,w1,w2,w3,c1,c2,c3,q02d]
theorem q0z5 (s:Stt) (H:Heap):clD EE (.p (.fn 117)) [vW j,vStt s] H=some (vOC (dueC j s),none):=by
 rw [q002 _ _ _ _ _ _ (noP _) fn117]
 have op:=fun H=>q09f j w s H
 have mp:=fun H=>q0fn j H
 have hd:=fun H=>q0rr j.items j.floats s.at_ H
 change∀H,clD EE _ _ H=some (vC (dueF j s.at_),none) at hd
 unfold dueC
 cases c1:openS j s with
 |false=>rw [c1] at op;simp [St.enter,q000,subs,q001,op,vOC,q02d]
 |true=>
  rw [c1] at op
  have r:=((q05r j s).1 c1).1
  have al:=fun H=>q0h5 j w r (q0sa j.floats (j.items.take (putN j.items s.at_))) H
  change∀H,clD EE _ [vW j,vStt s,vC (dueF j s.at_)] H=some (vOC (q03p j s (dueF j s.at_)),none) at al
  unfold vOC at*
  simp [St.enter,q000,subs,q001,op,mp,hd,al]
theorem q0sh (s:Stt) (H:Heap):clD EE (.p (.fn 119)) [vW j,vStt s] H=some (vOC (q08g j s),none):=by
 rw [q002 _ _ _ _ _ _ (noP _) fn119]
 have op:=fun H=>q09f j w s H
 have mp:=fun H=>q0fn j H
 have hd:=fun H=>q09b j.items j.floats s.at_ H
 change∀H,clD EE _ _ H=some (vC (q00v j s.at_),none) at hd
 unfold q08g
 cases c1:openS j s with
 |false=>rw [c1] at op;simp [St.enter,q000,subs,q001,op,vOC,q02d]
 |true=>
  rw [c1] at op
  have r:=((q05r j s).1 c1).1
  have al:=fun H=>q0h5 j w r (q074 (q00v j s.at_)) H
  unfold vOC at*
  simp [St.enter,q000,subs,q001,op,mp,hd,al]
theorem q0vv (s:Stt) (H:Heap):clD EE (.p (.fn 118)) [vW j,vStt s] H=some (vOC (noteC j s),none):=by
 rw [q002 _ _ _ _ _ _ (noP _) fn118]
 have op:=fun H=>q09f j w s H
 have pl:=fun H=>q071 j H
 have wl:=fun H=>q073 j H
 have ll:=fun H=>q01r j.items H
 have sp:=fun H=>q061 j w.w s s.at_ H
 have le:=fun H=>q09o j.notes (q01q (spotS j s s.at_)) (q0d1 j w s _) H
 unfold noteC vOC
 simp only [vJob,cGeom,List.cons_append,List.nil_append] at pl
 cases c1:openS j s with
 |false=>rw [c1] at op;simp [St.enter,q000,subs,q001,fldvV,op,pl,q02d]
 |true=>
  rw [c1] at op
  have r:=((q05r j s).1 c1).1
  have h1:=r.at1
  generalize spotS j s s.at_=q at*
  unfold q01q at*
  by_cases c2:s.at_<j.items.length
  ·have c3: ¬s.at_=j.items.length:=by omega
   simp [St.enter,q000,subs,q001,fldvV,op,pl,wl,ll,c2,c3,q02d]
  ·have c3:s.at_=j.items.length:=by omega
   have c3:=eq_true c3
   by_cases c4:s.note=j.notes.length
   ·have c4:=eq_true c4
    simp [St.enter,q000,subs,q001,fldvV,op,pl,wl,ll,c2,c3,c4,q02d]
   ·simp [St.enter,q000,subs,q001,fldvV,op,pl,wl,ll,c2,c3,c4,sp,le]
theorem q0ej (s:Stt) (H:Heap):clD EE (.p (.fn 32)) [vW j,vStt s] H=some (vOC (q01t j s),none):=by
 rw [q002 _ _ _ _ _ _ (noP _) fn32]
 have f1:=fun H=>q0vu j w s H
 have f2:=fun H=>q0z5 j w s H
 have f3:=fun H=>q0vv j w s H
 have f4:=fun H=>q0sh j w s H
 have w1:IntKind.i64.wrap 1=1:=by decide
 have w2:IntKind.i64.wrap 2=2:=by decide
 have w3:IntKind.i64.wrap 3=3:=by decide
 have w4:IntKind.i64.wrap 4=4:=by decide
 unfold q01t vOC at*
 cases e1:textC j s with
 |some c=>rw [e1] at f1;simp [St.enter,q000,subs,q001,q07z,q005,ixsI,ixsV,w1,w2,w3,w4,f1]
 |none=>
  rw [e1] at f1
  cases e2:dueC j s with
  |some c=>rw [e2] at f2;simp [St.enter,q000,subs,q001,q07z,q005,ixsI,ixsV,w1,w2,w3,w4,f1,f2]
  |none=>
   rw [e2] at f2
   cases e3:noteC j s with
   |some c=>rw [e3] at f3;simp [St.enter,q000,subs,q001,q07z,q005,ixsI,ixsV,w1,w2,w3,w4,f1,f2,f3]
   |none=>
    rw [e3] at f3
    cases e4:q08g j s with
    |some c=>rw [e4] at f4;simp [St.enter,q000,subs,q001,q07z,q005,ixsI,ixsV,w1,w2,w3,w4,f1,f2,f3,f4]
    |none=>rw [e4] at f4;simp [St.enter,q000,subs,q001,q07z,q005,ixsI,ixsV,w1,w2,w3,w4,f1,f2,f3,f4,q02d]
end
end Go.EnvOf
namespace Go.EnvOf
open Go Go.Eng
set_option maxRecDepth 100000
abbrev c6 (t:Tot):List V:=[vI t.nat,vI t.s0,vI t.s1,vI t.s2,vI t.s3,vI t.shr]
section
variable (j:Job) (n1:j.items.length≤1000000) (hf: ∀x∈j.items,fairI x)
include n1 hf in
include n1 in
end
theorem q0si (l:List Int) (x:Int) (hl:l.length≤1000000) (H:Heap):evD EE q0ew ⟨[(0,sli l),(1,vI x),(7,vI l.length),(8,vI 0)],[],H,H.length,[]⟩=
  some (rng (fun (_:Unit) i y=>if x=y then .inr (Ex.ret,(⟨[(4,vI i)],[],H,H.length,[]⟩:St)) else .inl ()) (fun _=>(Ex.exit 0,(⟨[(0,sli l),(1,vI x),(7,vI l.length),(8,vI l.length),(9,vB false)],[],H,H.length,[]⟩:St))) () 0 l):=by
 unfold q0ew
 refine q027 l (fun (_:Unit) i=>⟨[(0,sli l),(1,vI x),(7,vI l.length),(8,vI i)],[],H,H.length,[]⟩) (fun _ _=>True) _ _ (fun _ _=>rfl) ?_ ?_ () 0 trivial (Nat.zero_le _)
 ·rintro _ i y-hx
  have hlt:=(List.getElem?_eq_some_iff.1 hx).1
  have w:IntKind.i64.wrap ((i:Int)+1)=((i+1:Nat):Int):=w64 (by omega) (by omega)
  have hix:=fun H k=>q00z H encI (k:=k) (s:=1) hx rfl
  simp only [encI] at hix
  by_cases c:x=y
  ·simp [hlt,hix,encI,subs,c]
  ·simp [hlt,hix,encI,subs,c,w]
 ·rintro _-
  simp
theorem q09g (x:Int) (H:Heap) (fin:Ex×St): ∀(l:List Int) (i:Nat),(l.contains x=false→rng (fun (_:Unit) i y=>if x=y then .inr (Ex.ret,(⟨[(4,vI i)],[],H,H.length,[]⟩:St)) else .inl ()) (fun _=>fin) () i l=fin)∧
  (l.contains x=true→ ∃k:Nat,rng (fun (_:Unit) i y=>if x=y then .inr (Ex.ret,(⟨[(4,vI i)],[],H,H.length,[]⟩:St)) else .inl ()) (fun _=>fin) () i l=(Ex.ret,⟨[(4,vI k)],[],H,H.length,[]⟩))
 |[],i=>by simp [rng]
 |y::r,i=>by
  have ih:=q09g x H fin r (i+1)
  simp only [rng]
  by_cases c:x=y
  ·subst c
   simp only [if_true]
   refine ⟨fun h=>by simp at h,fun _=>⟨i,rfl⟩⟩
  ·simp only [if_neg c]
   have e:(y::r).contains x=r.contains x:=by simp [c]
   rw [e];exact ih
theorem q0sj (l:List Int) (x:Int) (hl:l.length≤1000000) (H:Heap):clD EE (.p (.fn 89)) [sli l,vI x] H=some (vB (l.contains x),none):=by
 rw [q002 _ _ _ _ _ _ (noP _) fn89]
 have key:=fun H=>q0si l x hl H
 cases c:l.contains x with
 |false=>
  have i: ∀H,clD EE (.p (.fn 221)) [sli l,vI x] H=some (vI (-1),none):=by
   intro H
   rw [q002 _ _ _ _ _ _ (noP _) fn221]
   have k:=key H
   rw [(q09g x H _ l 0).1 c] at k
   simp [St.enter,q000,k]
  simp [St.enter,q000,i]
 |true=>
  have i: ∀H,∃k:Nat,clD EE (.p (.fn 221)) [sli l,vI x] H=some (vI k,none):=by
   intro H
   rw [q002 _ _ _ _ _ _ (noP _) fn221]
   have k:=key H
   obtain ⟨z,hz⟩:=(q09g x H (Ex.exit 0,⟨[(0,sli l),(1,vI x),(7,vI l.length),(8,vI l.length),(9,vB false)],[],H,H.length,[]⟩) l 0).2 c
   rw [hz] at k
   exact ⟨z,by simp [St.enter,q000,k]⟩
  obtain ⟨z,hz⟩:=i H
  have z0:(0:Int)≤z:=by omega
  simp [St.enter,q000,hz,z0]
section
variable (j:Job) (n1:j.items.length≤1000000) (hf: ∀x∈j.items,fairI x)
include n1 hf in
include n1 hf in
end
abbrev cAsk (j:Job) (s:Stt) (c:Colm):List V:=vW j::(cStt s++cColm c++cJobW j)
abbrev vAsk (j:Job) (s:Stt) (c:Colm):V:= .agg (cAsk j s c)
section
variable (j:Job) (w:wfJ j) (s:Stt) (c:Colm)
theorem q0h6 (H:Heap):clD EE (.p (.fn 258)) [vAsk j s c] H=some (vB (decide (s.at_=j.items.length)),none):=by
 rw [q002 _ _ _ _ _ _ (noP _) fn258]
 have wl:=fun H=>q073 j H
 have ll:=fun H=>q01r j.items H
 simp only [vAsk,cAsk,cStt,cColm,cJobW,cGeom,List.cons_append,List.nil_append]
 simp [St.enter,q000,subs,q001,wl,ll]
theorem q0h7 (H:Heap):clD EE (.p (.fn 266)) [vAsk j s c] H=some (vB (decide (c.to≠s.at_)),none):=by
 rw [q002 _ _ _ _ _ _ (noP _) fn266]
 simp only [vAsk,cAsk,cStt,cColm,cJobW,cGeom,List.cons_append,List.nil_append]
 simp [St.enter,q000,subs,q001]
include w in
theorem q0sk (H:Heap):clD EE (.p (.fn 259)) [vAsk j s c] H=some (vB (!q02f j s),none):=by
 rw [q002 _ _ _ _ _ _ (noP _) fn259]
 have fl:=fun H=>q0b2 j w.w s H
 simp only [vAsk,cAsk,cStt,cColm,cJobW,cGeom,List.cons_append,List.nil_append]
 simp [St.enter,q000,subs,q001,fl]
include w in
theorem q0sl (H:Heap):clD EE (.p (.fn 260)) [vAsk j s c] H=some (vB (!(brkF j.items s.at_).contains c.to),none):=by
 rw [q002 _ _ _ _ _ _ (noP _) fn260]
 have wl:=fun H=>q073 j H
 have br:=fun H=>q0s1 j.items w.w.n1 s.at_ H
 have hl:(brkF j.items s.at_).length≤1000000:=by
  unfold brkF brkN
  rw [List.length_map]
  have:=List.length_filter_le (fun (m:Nat)=>decide ((m:Int)≤q02k j.items s.at_)&&mayN j.items m) (List.range' (pos s.at_+1) (j.items.length-pos s.at_))
  rw [List.length_range'] at this
  have:=w.w.n1
  omega
 have hi:=fun H=>q0sj (brkF j.items s.at_) c.to hl H
 generalize brkF j.items s.at_=B at*
 simp only [vAsk,cAsk,cStt,cColm,cJobW,cGeom,List.cons_append,List.nil_append]
 simp [St.enter,q000,subs,q001,wl,br,hi]
include w in
theorem q0z6 (H:Heap):clD EE (.p (.fn 261)) [vAsk j s c] H=some (vB (!mayPc j.notes (spotS j s c.to) c.notes),none):=by
 rw [q002 _ _ _ _ _ _ (noP _) fn261]
 have sp:=fun H=>q061 j w.w s c.to H
 have my:=fun H=>q0ce j.notes (spotS j s c.to) (q0bm j w s _) c.notes H
 generalize spotS j s c.to=q at*
 simp only [vAsk,cAsk,cStt,cColm,cJobW,cGeom,List.cons_append,List.nil_append]
 simp [St.enter,q000,subs,q001,sp,my]
include w in
theorem q0ni (c2:c.top.length≤1000000) (c3:c.bot.length≤1000000) (to:Int) (H:Heap):clD EE (.p (.fn 264)) [vAsk j s c,vI to] H=some (vB (setF j s c to),none):=by
 rw [q002 _ _ _ _ _ _ (noP _) fn264]
 have o1:=fun H=>of_ev j.floats c.top H w.w.n3 c2
 have o2:=fun H=>of_ev j.floats c.bot H w.w.n3 c3
 have a1:=fun x y H=>q0mo x y H
 have n1:=fun x H=>q0mq j.floats x c.top H w.w.n3 c2
 have n2:=fun x H=>q0mq j.floats x c.bot H w.w.n3 c3
 have mp:=fun H=>q0fn j H
 have hd:=fun H=>q09b j.items j.floats to H
 change∀H,clD EE _ _ H=some (vC (q00v j to),none) at hd
 have re:=fun H=>in_ev (q02c j s c) (q00v j to) H
 unfold setF
 unfold q02c at*
 generalize ofL j.floats c.top=x1 at*
 generalize ofL j.floats c.bot=x2 at*
 generalize hm:addC s.h x1=m1 at*
 generalize hn:addC m1 x2=m2 at*
 simp only [vAsk,cAsk,cStt,cColm,cJobW,cGeom,List.cons_append,List.nil_append]
 cases e1:nextQ j.floats s.h c.top with
 |false=>
  have n1':=fun H=>n1 s.h H
  rw [e1] at n1'
  simp [St.enter,q000,subs,q001,o1,o2,a1,hm,hn,n1']
 |true=>
  have n1':=fun H=>n1 s.h H
  rw [e1] at n1'
  cases e2:nextQ j.floats m1 c.bot with
  |false=>
   have n2':=fun H=>n2 m1 H
   rw [e2] at n2'
   simp [St.enter,q000,subs,q001,o1,o2,a1,hm,hn,n1',n2']
  |true=>
   have n2':=fun H=>n2 m1 H
   rw [e2] at n2'
   simp [St.enter,q000,subs,q001,o1,o2,a1,hm,hn,n1',n2',mp,hd,re]
include w in
theorem q0vw (c2:c.top.length≤1000000) (c3:c.bot.length≤1000000) (H:Heap):clD EE (.p (.fn 263)) [vAsk j s c] H=some (vB (!(setF j s c c.to&&fitsC j c)),none):=by
 rw [q002 _ _ _ _ _ _ (noP _) fn263]
 have st:=fun H=>q0ni j w s c c2 c3 c.to H
 have ft:=fun H=>q0u7 j.g j.floats (c.top,c.bot) H c2 c3
 unfold fitsC
 simp only [vAsk,cAsk,cStt,cColm,cJobW,vGeom,cGeom,List.cons_append,List.nil_append] at st ft⊢
 generalize (fitT j.g j.floats c.top&&fitB j.g j.floats c.bot)=F at*
 cases e:setF j s c c.to with
 |false=>rw [e] at st;simp [St.enter,q000,subs,q001,st]
 |true=>rw [e] at st;simp [St.enter,q000,subs,q001,st,ft]
include w in
theorem q0kt (hf: ∀x∈j.items,fairI x) (c1:c.notes.length≤1000000) (c2:c.top.length≤1000000) (c3:c.bot.length≤1000000) (H:Heap):clD EE (.p (.fn 125)) [vAsk j s c] H=some (vB (q01x j s c).over,none):=by
 rw [q002 _ _ _ _ _ _ (noP _) fn125]
 have fc:=fun H=>q0kf j w.w hf s c c1 c2 c3 H
 generalize q01x j s c=F at*
 simp only [vAsk,cAsk,cStt,cColm,cJobW,cGeom,List.cons_append,List.nil_append]
 simp [St.enter,q000,subs,q001,fldvV,fc]
theorem q0vx (H:Heap):clD EE (.p (.fn 257)) [vAsk j s c] H=some (vB (decide (c.notes≠[])),none):=by
 rw [q002 _ _ _ _ _ _ (noP _) fn257]
 have e:(0<(c.notes.length:Int))=(c.notes≠[]):=by simp [List.length_pos_iff]
 simp only [vAsk,cAsk,cStt,cColm,cJobW,cGeom,List.cons_append,List.nil_append]
 cases hn:c.notes<;>simp [St.enter,q000,subs,q001,hn]
include w in
theorem q0sm (H:Heap):clD EE (.p (.fn 270)) [vAsk j s c] H=some (vB (mayPc j.notes (q01q (spotS j s s.at_)) c.notes),none):=by
 rw [q002 _ _ _ _ _ _ (noP _) fn270]
 have sp:=fun H=>q061 j w.w s s.at_ H
 have my:=fun H=>q0ce j.notes (q01q (spotS j s s.at_)) (q0d1 j w s _) c.notes H
 generalize spotS j s s.at_=q at*
 unfold q01q at*
 simp only [vAsk,cAsk,cStt,cColm,cJobW,cGeom,List.cons_append,List.nil_append]
 simp [St.enter,q000,subs,q001,sp,my]
include w in
theorem q0sn (hf: ∀x∈j.items,fairI x) (c1:c.notes.length≤1000000) (c2:c.top.length≤1000000) (c3:c.bot.length≤1000000) (H:Heap):
  clD EE (.p (.fn 267)) [vAsk j s c] H=some (vB (decide (c.top=[]∨8<c.top.length∨c.bot≠[]∨setF j s c s.at_=false∨(q01x j s c).over=true)),none):=by
 rw [q002 _ _ _ _ _ _ (noP _) fn267]
 have st:=fun H=>q0ni j w s c c2 c3 s.at_ H
 have ov:=fun H=>q0kt j w s c hf c1 c2 c3 H
 simp only [vAsk,cAsk,cStt,cColm,cJobW,vGeom,cGeom,List.cons_append,List.nil_append] at st ov⊢
 generalize (q01x j s c).over=F at*
 by_cases t0:c.top=[]
 ·simp only [t0] at*
  simp [St.enter,q000,subs,q001]
 ·have t1: ¬(c.top.length:Int)=0:=by
   have:=List.length_pos_iff.2 t0;omega
  have t1':=eq_false t0
  by_cases t2:8<c.top.length
  ·have t3:(8:Int)<c.top.length:=by omega
   simp [St.enter,q000,subs,q001,t1,t3,t0,t2]
  ·have t3: ¬(8:Int)<c.top.length:=by omega
   by_cases b0:c.bot=[]
   ·have b1: ¬0<c.bot.length:=by rw [b0];simp
    have b0:=eq_true b0
    cases e:setF j s c s.at_ with
    |false=>rw [e] at st;simp [St.enter,q000,subs,q001,t1,t3,t0,t2,b1,b0,st]
    |true=>
     rw [e] at st
     simp [St.enter,q000,subs,q001,t1,t3,t0,t2,b1,b0,st,ov]
   ·have b1:0<c.bot.length:=List.length_pos_iff.2 b0
    simp [St.enter,q000,subs,q001,t1,t3,t0,t2,b1,b0]
theorem q0z7 (H:Heap):clD EE (.p (.fn 268)) [vAsk j s c] H=some (vB (decide (c.to≠s.at_∨s.at_≠j.items.length)),none):=by
 rw [q002 _ _ _ _ _ _ (noP _) fn268]
 have m:=fun H=>q0h7 j s c H
 have e:=fun H=>q0h6 j s c H
 simp only [vAsk,cAsk,cStt,cColm,cJobW,vGeom,cGeom,List.cons_append,List.nil_append] at m e⊢
 by_cases h1:c.to=s.at_
 ·have h1:=eq_true h1
  by_cases h2:s.at_=j.items.length
  ·have h2:=eq_true h2
   simp [St.enter,q000,subs,q001,m,e,h1,h2]
  ·simp [St.enter,q000,subs,q001,m,e,h1,h2]
 ·simp [St.enter,q000,subs,q001,m,e,h1]
include w in
theorem q0vy (H:Heap):clD EE (.p (.fn 269)) [vAsk j s c] H=some (vB (decide (c.notes=[]∨mayPc j.notes (q01q (spotS j s s.at_)) c.notes=false)),none):=by
 rw [q002 _ _ _ _ _ _ (noP _) fn269]
 have l:=fun H=>q0sm j w s c H
 simp only [vAsk,cAsk,cStt,cColm,cJobW,vGeom,cGeom,List.cons_append,List.nil_append] at l⊢
 by_cases n0:c.notes=[]
 ·simp only [n0] at*
  simp [St.enter,q000,subs,q001]
 ·have n1: ¬(c.notes.length:Int)=0:=by
   have:=List.length_pos_iff.2 n0;omega
  cases e:mayPc j.notes (q01q (spotS j s s.at_)) c.notes<;>rw [e] at l<;>simp [St.enter,q000,subs,q001,n0,n1,l]
theorem q0vz (c2:c.top.length≤1000000) (c3:c.bot.length≤1000000) (H:Heap):clD EE (.p (.fn 271)) [vAsk j s c] H=some (vB (decide (c.top≠[]∨c.bot≠[])),none):=by
 rw [q002 _ _ _ _ _ _ (noP _) fn271]
 have w1:IntKind.i64.wrap ((c.top.length:Int)+c.bot.length)=c.top.length+c.bot.length:=w64 (by omega) (by omega)
 have e:decide (0<(c.top.length:Int)+c.bot.length)=decide (c.top≠[]∨c.bot≠[]):=by
  congr 1
  rw [eq_iff_iff]
  constructor
  ·intro h
   by_cases a:c.top=[]
   ·right;intro b;rw [a,b] at h;simp at h
   ·exact .inl a
  ·rintro (h|h)<;>have:=List.length_pos_iff.2 h<;>omega
 simp only [vAsk,cAsk,cStt,cColm,cJobW,vGeom,cGeom,List.cons_append,List.nil_append]
 rw [←e]
 simp [St.enter,q000,subs,q001,w1]
end
def ruE (x:Int×Nat):List PV:=[.int .i64 x.1,.fn x.2]
def rules1:List (Int×Nat):=[(19,258),(18,259),(14,260),(15,261),(16,263)]
def rules2:List (Int×Nat):=[(19,266),(15,257),(16,267)]
def rules3:List (Int×Nat):=[(19,268),(15,269),(16,271)]
def q04k:List (V×V):=[(vI 1,.p (.sl (rules1.map ruE))),(vI 2,.p (.sl (rules2.map ruE))),(vI 3,.p (.sl (rules3.map ruE)))]
theorem q0so (H:Heap):clD EE (.p (.fn 124)) [] H=some (.map H.length,some (H++[.map q04k],[])):=by
 rw [q002 _ _ _ _ _ _ (noP _) fn124]
 have m0: ∀es,mapAt (H++[.map es]) H.length=some es:=fun es=>by simp [mapAt]
 simp [St.enter,q000,subs,q001,m0,stmE,stmR,setM,findM,eqKey,keyB,q04k,rules1,rules2,rules3,ruE]
def q03d (k:Int):List (Int×Nat):=if k=1 then rules1 else if k=2 then rules2 else if k=3 then rules3 else []
theorem q0B9 (k:Int):lkmK .nils true (findM none (vI k) q04k 0)=some (.tup [if k=1∨k=2∨k=3 then .p (.sl ((q03d k).map ruE)) else .nils,vB (decide (k=1∨k=2∨k=3))]):=by
 unfold q03d
 by_cases k1:k=1
 ·simp [q04k,findM,eqKey,lkmK,k1]
 ·by_cases k2:k=2
  ·simp [q04k,findM,eqKey,lkmK,k2]
  ·by_cases k3:k=3
   ·simp [q04k,findM,eqKey,lkmK,k3]
   ·simp [q04k,findM,eqKey,lkmK,k1,k2,k3]
def q01z:List (Int×Bool)→Int
 |[]=>0
 |x::r=>if x.2=true then x.1 else q01z r
def ckLoc (j:Job) (s:Stt) (c:Colm):List (Nat×List V):=[(4,cStt s),(5,cColm c),(9,cAsk j s c)]
def cqE (j:Job) (s:Stt) (c:Colm) (L:List (Int×Nat)) (H:Heap) (B:Nat) (i:Nat):St:=⟨[(0,vW j),(4,.lptr 4 0),(5,.lptr 5 0),(9,.lptr 9 0),(47,.p (.sl (L.map ruE))),(48,vI L.length),(49,vI i)],ckLoc j s c,H,B,[]⟩
def cqX (j:Job) (s:Stt) (c:Colm) (L:List (Int×Nat)) (H:Heap) (B:Nat):Ex×St:=(.exit 0,⟨[(0,vW j),(4,.lptr 4 0),(5,.lptr 5 0),(9,.lptr 9 0),(47,.p (.sl (L.map ruE))),(48,vI L.length),(49,vI L.length),(50,vB false)],ckLoc j s c,H,B,[]⟩)
def cqS (H:Heap) (B:Nat) (f:Nat→Bool) (_:Unit) (_:Nat) (x:Int×Nat):Unit⊕(Ex×St):=if f x.2=true then .inr (.ret,⟨[(6,vI x.1)],[],H,B,[]⟩) else .inl ()
theorem q0sp (H:Heap) (B:Nat) (f:Nat→Bool) (fin:Ex×St): ∀(L:List (Int×Nat)) (i:Nat),(∀x∈L,x.1≠0)→rng (cqS H B f) (fun _=>fin) () i L=if q01z (L.map fun x=>(x.1,f x.2))=0 then fin else (.ret,⟨[(6,vI (q01z (L.map fun x=>(x.1,f x.2))))],[],H,B,[]⟩)
 |[],_,_=>by simp [rng,q01z]
 |x::r,i,h=>by
  simp only [rng,cqS,List.map_cons,q01z]
  by_cases q:f x.2=true
  ·rw [if_pos q];simp only [if_pos q];rw [if_neg (h x (by simp))]
  ·rw [if_neg q];simp only [if_neg q];exact q0sp H B f fin r (i+1) fun y hy=>h y (by simp [hy])
theorem cq_lp (j:Job) (s:Stt) (c:Colm) (L:List (Int×Nat)) (hn:L.length≤1000) (hz: ∀x∈L,x.1≠0) (f:Nat→Bool) (H:Heap) (B:Nat) (hL: ∀x∈L,clD EE (.p (.fn x.2)) [vAsk j s c] H=some (vB (f x.2),none)):
  evD EE q0iy (cqE j s c L H B 0)=some (if q01z (L.map fun x=>(x.1,f x.2))=0 then cqX j s c L H B else (.ret,⟨[(6,vI (q01z (L.map fun x=>(x.1,f x.2))))],[],H,B,[]⟩)):=by
 rw [←q0sp H B f (cqX j s c L H B) L 0 hz]
 unfold q0iy
 refine q027 L (fun (_:Unit) i=>cqE j s c L H B i) (fun _ _=>True) (cqS H B f) (fun _=>cqX j s c L H B) (fun _ _=>rfl) ?_ ?_ () 0 trivial (Nat.zero_le _)
 ·rintro _ i x-hx
  have hlt:=(List.getElem?_eq_some_iff.1 hx).1
  have w1:IntKind.i64.wrap ((i:Int)+1)=((i+1:Nat):Int):=w64 (by omega) (by omega)
  have hix:=fun H k=>q00z H ruE (k:=k) (s:=2) hx rfl
  simp only [ruE] at hix
  have h1:=hL x (List.mem_of_getElem? hx)
  simp only [vAsk,cAsk,cStt,cColm,cJobW,cGeom,List.cons_append,List.nil_append] at h1
  unfold cqS
  cases q:f x.2 with
  |true=>
   rw [q] at h1
   simp [cqE,ckLoc,hlt,hix,subs,q001,h1]
  |false=>
   rw [q] at h1
   simp [cqE,ckLoc,hlt,hix,subs,q001,h1,w1]
 ·rintro _-
  simp [cqE,cqX,ckLoc]
section
variable (j:Job) (w:wfJ j) (hf: ∀x∈j.items,fairI x) (s:Stt) (c:Colm) (c1:c.notes.length≤1000000) (c2:c.top.length≤1000000) (c3:c.bot.length≤1000000)
def ruleB (n:Nat):Bool:=
 if n=258 then decide (s.at_=j.items.length) else if n=259 then !q02f j s else if n=260 then !(brkF j.items s.at_).contains c.to
 else if n=261 then !mayPc j.notes (spotS j s c.to) c.notes else if n=263 then !(setF j s c c.to&&fitsC j c)
 else if n=266 then decide (c.to≠s.at_) else if n=257 then decide (c.notes≠[])
 else if n=267 then decide (c.top=[]∨8<c.top.length∨c.bot≠[]∨setF j s c s.at_=false∨(q01x j s c).over=true)
 else if n=268 then decide (c.to≠s.at_∨s.at_≠j.items.length)
 else if n=269 then decide (c.notes=[]∨mayPc j.notes (q01q (spotS j s s.at_)) c.notes=false) else decide (c.top≠[]∨c.bot≠[])
include w hf c1 c2 c3 in
theorem q0w0 (k:Int) (H:Heap): ∀x∈q03d k,clD EE (.p (.fn x.2)) [vAsk j s c] H=some (vB (ruleB j s c x.2),none):=by
 have e1:=q0h6 j s c H
 have e2:=q0sk j w s c H
 have e3:=q0sl j w s c H
 have e4:=q0z6 j w s c H
 have e5:=q0vw j w s c c2 c3 H
 have e6:=q0h7 j s c H
 have e7:=q0vx j s c H
 have e8:=q0sn j w s c hf c1 c2 c3 H
 have e9:=q0z7 j s c H
 have e10:=q0vy j w s c H
 have e11:=q0vz j s c c2 c3 H
 intro x hx
 unfold q03d at hx
 split at hx
 ·simp only [rules1,List.mem_cons,List.not_mem_nil,or_false] at hx
  rcases hx with rfl|rfl|rfl|rfl|rfl
  ·exact e1
  ·exact e2
  ·exact e3
  ·exact e4
  ·exact e5
 split at hx
 ·simp only [rules2,List.mem_cons,List.not_mem_nil,or_false] at hx
  rcases hx with rfl|rfl|rfl
  ·exact e6
  ·exact e7
  ·exact e8
 split at hx
 ·simp only [rules3,List.mem_cons,List.not_mem_nil,or_false] at hx
  rcases hx with rfl|rfl|rfl
  ·exact e9
  ·exact e10
  ·exact e11
 ·cases hx
theorem q0h8 (k:Int):(q03d k).length≤1000∧ ∀x∈q03d k,x.1≠0:=by
 unfold q03d
 split
 ·simp [rules1]
 split
 ·simp [rules2]
 split
 ·simp [rules3]
 ·simp
def ruleE (k:Int):Int:=q01z ((q03d k).map fun x=>(x.1,ruleB j s c x.2))
theorem q0ku (h: ¬(¬(c.k=1∨c.k=2∨c.k=3)∨openS j s=false∨c.frm≠s.at_)):(endE j s c=true∧ruleE j s c c.k=19)∨(endE j s c=false∧ruleE j s c c.k=kindE j s c):=by
 have hk:c.k=1∨c.k=2∨c.k=3:=Decidable.not_not.1 fun q=>h (.inl q)
 have ho:openS j s=true:=by
  cases q:openS j s with
  |true=>rfl
  |false=>exact absurd (.inr (.inl q)) h
 have hf:c.frm=s.at_:=Decidable.not_not.1 fun q=>h (.inr (.inr q))
 unfold endE
 simp only [decide_eq_true_eq,decide_eq_false_iff_not]
 unfold ruleE q03d kindE
 rcases hk with k|k|k
 ·rw [if_pos k,if_pos k]
  by_cases e:s.at_=j.items.length
  ·exact .inl ⟨.inr (.inr (.inr (.inr (.inl ⟨k,e⟩)))),by simp [rules1,q01z,ruleB,e]⟩
  ·refine .inr ⟨by simp [ho,k,hf,e],?_⟩
   unfold textE
   cases a1:q02f j s<;>cases a2:(brkF j.items s.at_).contains c.to<;>cases a3:mayPc j.notes (spotS j s c.to) c.notes<;>cases a4:setF j s c c.to<;>cases a5:fitsC j c<;>
    simp only [rules1,List.map_cons,List.map_nil,q01z,ruleB,a1,a2,a3,a4,a5]<;>simp [e]
 ·rw [if_neg (by omega),if_pos k,if_neg (by omega),if_pos k]
  by_cases e:c.to=s.at_
  ·refine .inr ⟨by simp [ho,k,hf,e],?_⟩
   unfold q0eg
   by_cases a1:c.notes=[]
   ·by_cases a2:c.top=[]∨8<c.top.length∨c.bot≠[]∨setF j s c s.at_=false∨(q01x j s c).over=true
    ·rw [if_neg (by simpa using a1),if_pos a2]
     have a2:=eq_true a2
     simp only [rules2,List.map_cons,List.map_nil,q01z,ruleB,a2,a1,e]
     simp
    ·rw [if_neg (by simpa using a1),if_neg a2]
     have a2:=eq_false a2
     simp only [rules2,List.map_cons,List.map_nil,q01z,ruleB,a2,a1,e]
     simp
   ·rw [if_pos a1]
    simp [rules2,q01z,ruleB,a1,e]
  ·exact .inl ⟨.inr (.inr (.inr (.inr (.inr (.inl ⟨by omega,e⟩))))),by simp [rules2,q01z,ruleB,e]⟩
 ·rw [if_neg (by omega),if_neg (by omega),if_pos k,if_neg (by omega),if_neg (by omega)]
  by_cases e:c.to=s.at_∧s.at_=j.items.length
  ·refine .inr ⟨by simp [ho,k,hf,e.1,e.2],?_⟩
   have e1:=eq_true e.1
   have e2:=eq_true e.2
   unfold noteE
   by_cases a1:c.notes=[]∨mayPc j.notes (q01q (spotS j s s.at_)) c.notes=false
   ·rw [if_pos a1]
    have a1:=eq_true a1
    simp only [rules3,List.map_cons,List.map_nil,q01z,ruleB,a1,ne_eq,e1,e2]
    simp
   ·rw [if_neg a1]
    have a1:=eq_false a1
    by_cases a2:c.top≠[]∨c.bot≠[]
    ·rw [if_pos a2]
     have a2:=eq_true a2
     simp only [rules3,List.map_cons,List.map_nil,q01z,ruleB,a1,a2,e1,e2]
     simp [e1,e2]
    ·rw [if_neg a2]
     have a2:=eq_false a2
     simp only [rules3,List.map_cons,List.map_nil,q01z,ruleB,a1,a2,e1,e2]
     simp [e1,e2]
  ·refine .inl ⟨?_,?_⟩
   ·by_cases e1:c.to=s.at_
    ·exact .inr (.inr (.inr (.inr (.inr (.inr ⟨k,fun h=>e ⟨e1,h⟩⟩)))))
    ·exact .inr (.inr (.inr (.inr (.inr (.inl ⟨by omega,e1⟩)))))
   ·have e':(c.to≠s.at_∨s.at_≠j.items.length)=True:=eq_true (by
     by_cases e1:c.to=s.at_
     ·exact .inr fun h=>e ⟨e1,h⟩
     ·exact .inl e1)
    simp only [rules3,List.map_cons,List.map_nil,q01z,ruleB,e']
    simp
theorem q0lv:q02t j s c=if¬(c.k=1∨c.k=2∨c.k=3)∨openS j s=false∨c.frm≠s.at_ then 19 else if ruleE j s c c.k≠0 then ruleE j s c c.k
  else if (q01x j s c).over=true∧sameC c ((q01t j s).getD q02d)=false then 17 else 0:=by
 by_cases h: ¬(c.k=1∨c.k=2∨c.k=3)∨openS j s=false∨c.frm≠s.at_
 ·rw [if_pos h]
  unfold q02t
  rw [if_pos]
  unfold endE
  rw [decide_eq_true_eq]
  rcases h with h|h|h
  ·by_cases q:c.k<1
   ·exact .inr (.inl q)
   ·exact .inr (.inr (.inl (by omega)))
  ·exact .inl h
  ·exact .inr (.inr (.inr (.inl h)))
 ·rw [if_neg h]
  unfold q02t
  rcases q0ku j s c h with ⟨h1,h2⟩|⟨h1,h2⟩
  ·rw [if_pos h1,h2,if_pos (by omega)]
  ·rw [if_neg (by rw [h1];simp),h2]
include w hf c1 c2 c3 in
theorem q0hr (H:Heap):clD EE (.p (.fn 35)) [vW j,vStt s,vColm c] H=some (vI (q02t j s c),none):=by
 rw [q002 _ _ _ _ _ _ (noP _) fn35,q0lv]
 have ru:=fun H=>q0so H
 have m0:mapAt (H++[.map q04k]) H.length=some q04k:=by simp [mapAt]
 have lk:=q0B9 c.k
 have r:=fun H=>q02a j w.w s H
 have d:=fun H=>q0gt j w.w s H
 have pl:=fun H=>q071 j H
 simp only [vJob,cGeom,List.cons_append,List.nil_append] at pl
 by_cases k:c.k=1∨c.k=2∨c.k=3
 ·simp only [if_pos k,decide_eq_true k] at lk
  have kk:=eq_true k
  cases b1:q01c j s with
  |false=>
   rw [b1] at r
   have o:openS j s=false:=by unfold openS;rw [b1];rfl
   simp [St.enter,q000,subs,q001,ru,m0,lk,r,o]
  |true=>
   rw [b1] at r
   cases b2:doneS j s with
   |true=>
    rw [b2] at d
    have o:openS j s=false:=by unfold openS;rw [b1,b2];rfl
    simp [St.enter,q000,subs,q001,ru,m0,lk,r,d,o]
   |false=>
    rw [b2] at d
    have o:openS j s=true:=by unfold openS;rw [b1,b2];rfl
    by_cases f:c.frm=s.at_
    ·have ff:=eq_true f
     have key:=cq_lp j s c (q03d c.k) (q0h8 c.k).1 (q0h8 c.k).2 (ruleB j s c) (H++[.map q04k]) H.length (q0w0 j w hf s c c1 c2 c3 c.k _)
     have ov:=fun H=>q0kt j w s c hf c1 c2 c3 H
     have ls:=fun H=>q0ej j w s H
     have sm:=fun H=>q0s6 c ((q01t j s).getD q02d) c1 c2 c3 H
     unfold ruleE
     unfold vOC at ls
     generalize q01z _=E at*
     generalize q03d c.k=L at*
     generalize q01x j s c=F at*
     generalize (q01t j s).getD q02d=Z at*
     simp only [vAsk,cAsk,cStt,cColm,cJobW,cGeom,List.cons_append,List.nil_append] at ov
     by_cases e0:E=0
     ·rw [if_pos e0] at key
      simp only [cqE,cqX,ckLoc,cAsk,cStt,cColm,cJobW,cGeom,List.cons_append,List.nil_append] at key
      simp at key
      obtain ⟨f1,f2,f3,f4,ovr,f6⟩:=F
      simp only at ov⊢
      cases ovr with
      |false=>simp [St.enter,q000,subs,q001,ru,m0,lk,r,d,o,ff,kk,pl,key,e0,ov]
      |true=>
       cases q:sameC c Z<;>rw [q] at sm<;>simp [St.enter,q000,subs,q001,ru,m0,lk,r,d,o,ff,kk,pl,key,e0,ov,ls,sm]
     ·rw [if_neg e0] at key
      simp only [cqE,ckLoc,cAsk,cStt,cColm,cJobW,cGeom,List.cons_append,List.nil_append] at key
      simp at key
      simp [St.enter,q000,subs,q001,ru,m0,lk,r,d,o,ff,kk,pl,key,e0]
    ·simp [St.enter,q000,subs,q001,ru,m0,lk,r,d,o,f]
 ·simp only [if_neg k,decide_eq_false k] at lk
  have kk:=eq_false k
  simp [St.enter,q000,subs,q001,ru,m0,lk,kk]
end
theorem q0kv (k:Int) (m:Nat) (f:Item→Item) (hf: ∀x,(f x).k=x.k∧(f x).n=x.n): ∀(l:List Item) (i n:Nat),refF k m i n (l.map f)=refF k m i n l
 |[],_,_=>rfl
 |x::r,i,n=>by
  simp only [List.map_cons,refF,(hf x).1,(hf x).2,q0kv k m f hf r]
theorem dn_eq {n s:Int} (h0:0≤n) (h1:n≤1073741823) (hs:1≤s):downG n s=s*(n/s):=by
 have a:=Int.emod_nonneg n (show s≠0 by omega)
 have b:=Int.emod_add_mul_ediv n s
 have c:0≤s*(n/s):=Int.mul_nonneg (by omega) (Int.ediv_nonneg h0 (by omega))
 unfold downG downF
 rw [if_neg (by omega)]
 unfold subF
 rw [if_pos (by omega)]
 simp only [orN]
 omega
theorem q0sq {a b s:Int} (h0:0≤a) (h:a≤b) (h1:b≤1073741823) (hs:1≤s):downG a s≤downG b s:=by
 rw [dn_eq h0 (by omega) hs,dn_eq (by omega) h1 hs]
 exact Int.mul_le_mul_of_nonneg_left (Int.ediv_le_ediv (by omega) h) (by omega)
theorem q0sr {g:Geom} (h:geomF g=0):1≤g.first∧g.first≤g.high∧0≤g.topMost∧0≤g.botMost∧0≤g.topMany∧0≤g.botMany∧g.topMany≤4∧g.botMany≤4∧0≤g.noteMost:=by
 unfold geomF at h
 by_cases q1:inR 1 8 [g.cols]=false
 ·rw [if_pos q1] at h;omega
 rw [if_neg q1] at h
 by_cases q2:inR 1 1073741823 [g.wide,g.high]=false
 ·rw [if_pos q2] at h;omega
 rw [if_neg q2] at h
 by_cases q3:inR 0 1073741823 [g.gap,g.noteMost,g.topMost,g.botMost]=false
 ·rw [if_pos q3] at h;omega
 rw [if_neg q3] at h
 by_cases q4:inR 0 536870912 [g.rule,g.sep,g.grid]=false
 ·rw [if_pos q4] at h;omega
 rw [if_neg q4] at h
 by_cases q5:inR 1 g.high [g.first]=false
 ·rw [if_pos q5] at h;omega
 rw [if_neg q5] at h
 by_cases q6:inR 0 g.first [g.grid]=false
 ·rw [if_pos q6] at h;omega
 rw [if_neg q6] at h
 by_cases q7:inR 0 4 [g.topMany,g.botMany]=false
 ·rw [if_pos q7] at h;omega
 have a1:=q043 q5 g.first (by simp)
 have a2:=q043 q3 g.topMost (by simp)
 have a3:=q043 q3 g.botMost (by simp)
 have a4:=q043 q7 g.topMany (by simp)
 have a5:=q043 q7 g.botMany (by simp)
 have a6:=q043 q3 g.noteMost (by simp)
 omega
theorem wf_of {j:Job} (r:Right j) (sm:small (snapG j)):wfJ (snapG j):=by
 have hg:=q0av r.g
 have hm:=q0sr r.g
 obtain ⟨f,hf,hk⟩:=q0e8 j
 have h5:=q06z 5 j.notes.length j.items 0 0 (Nat.zero_le _) r.r5
 have hgr:(snapG j).g.first≤(snapG j).g.high∧(snapG j).g.high≤4294967296∧0≤(snapG j).g.first∧0≤(snapG j).g.sep∧(snapG j).g.sep≤4294967296∧(snapG j).g.topMany=j.g.topMany∧(snapG j).g.botMany=j.g.botMany∧(snapG j).g.topMost=j.g.topMost∧(snapG j).g.botMost=j.g.botMost:=by
  unfold snapG
  split
  ·refine ⟨by omega,by omega,by omega,by omega,by omega,rfl,rfl,rfl,rfl⟩
  ·have b1:=q0sq (a:=j.g.first) (b:=j.g.high) (s:=j.g.grid) (by omega) (by omega) (by omega) (by omega)
   have b2:=q092 (n:=j.g.high) (s:=j.g.grid) (by omega) (by omega) (by omega) (by omega)
   have b3:=q092 (n:=j.g.first) (s:=j.g.grid) (by omega) (by omega) (by omega) (by omega)
   have b4:=q091 (n:=j.g.sep) (s:=j.g.grid) (by omega) (by omega) (by omega) (by omega)
   exact ⟨b1,b2.2,b3.1,b4.1,b4.2,rfl,rfl,rfl,rfl⟩
 refine ⟨q0B4 r sm,?_,?_,?_,?_,hgr.2.2.1,⟨hgr.1,hgr.2.1⟩,⟨hgr.2.2.2.1,hgr.2.2.2.2.1⟩,?_,?_⟩
 ·intro n hn
  unfold snapG at hn
  split at hn
  ·exact (q0nf (r.notes n hn)).1
  ·obtain ⟨m,hm,rfl⟩:=List.mem_map.1 hn
   have:=(q0nf (r.notes m hm)).1
   simpa [noteG] using this
 ·rw [q0gq,hf]
  unfold q00u
  rw [q0nb 5 f (fun x=>(hk x).1)]
  omega
 ·rw [q0rm,hf,q0kv 6 _ f hk]
  exact r.r6
 ·intro x hx
  have ht:=r.tall x hx
  unfold snapG at hx
  split at hx
  ·rename_i hgr
   have ho:=r.floats x hx
   unfold q029 at ho
   simp only [Bool.and_eq_true,decide_eq_true_eq] at ho
   exact ⟨by omega,by omega,by omega⟩
  ·obtain ⟨y,hy,rfl⟩:=List.mem_map.1 hx
   have ho:=r.floats y hy
   unfold q029 at ho
   simp only [Bool.and_eq_true,decide_eq_true_eq] at ho
   have b:=q091 (n:=y.h) (s:=j.g.grid) (by omega) (by omega) (by omega) (by omega)
   exact ⟨⟨by simp only [q03l];omega,by simp only [q03l];omega⟩,by simp only [q03l];omega,by omega⟩
 ·rw [hgr.2.2.2.2.2.1,hgr.2.2.2.2.2.2.1,hgr.2.2.2.2.2.2.2.1,hgr.2.2.2.2.2.2.2.2]
  omega
 ·rw [q0gr];omega
theorem q0b3 (j:Job) (w:wfJ j) (s:Stt) (H:Heap):clD EE (.p (.fn 41)) [vW j,vStt s] H=some (vI (q02g j s),none):=by
 rw [q002 _ _ _ _ _ _ (noP _) fn41]
 have hr:=fun H=>q02a j w.w s H
 have su:=fun H=>q0A6 s.h H
 unfold q02g
 cases c:q01c j s with
 |false=>rw [c] at hr;simp [St.enter,q000,subs,q001,hr]
 |true=>
  rw [c] at hr
  have r:=(q01g j s).1 c
  have cb:=q09d w r
  have bd:=q04p w.w s.at_
  have sb:0≤sumC s.h∧sumC s.h≤3000000:=by
   have h0:=r.h0
   have h1:=r.h1
   rw [q08h h0 (by unfold leC at h1;omega)]
   unfold leC zeroC at*
   simp only at*
   omega
  have n2:=w.w.n2
  have n1:=w.w.n1
  have lb:=q0kl (j.notes.take s.note.toNat) (fun n hn=>w.w.lines n (List.mem_of_mem_take hn))
  have ll:0≤s.line∧s.line≤1000000:=by
   by_cases z:s.line=0
   ·omega
   ·have h:=cb.2.2.2 z
    have:=w.w.lines _ (q05n cb.1 h.1)
    omega
  have hl:((j.notes.take s.note.toNat).length:Int)≤1000000:=by rw [List.length_take];omega
  have hx:(preN j.notes)[s.note.toNat]? =some (lineN (j.notes.take s.note.toNat)):=by
   unfold preN
   rw [List.getElem?_map,List.getElem?_range (by omega)]
   rfl
  have hix:=fun H k=>q04e H encI (k:=k) (s:=1) cb.1 hx rfl
  generalize lineN (j.notes.take s.note.toNat)=N at*
  generalize sumC s.h=S at*
  have h0:=r.at0
  have h1:=r.at1
  have w1:IntKind.i64.wrap (s.at_+N)=s.at_+N:=w64 (by omega) (by omega)
  have w2:IntKind.i64.wrap (s.at_+N+s.line)=s.at_+N+s.line:=w64 (by omega) (by omega)
  have w3:IntKind.i64.wrap (s.at_+N+s.line+S)=s.at_+N+s.line+S:=w64 (by omega) (by omega)
  simp only [encI] at hix
  simp only [vW,q00e,cJobW,cGeom,List.cons_append,List.nil_append] at hr⊢
  simp [St.enter,q000,subs,q001,hr,su,hix,w1,w2,w3]
theorem q0hs (j:Job) (w:wfJ j) (hf: ∀x∈j.items,fairI x) (s:Stt) (c:Colm) (c1:c.notes.length≤1000000) (c2:c.top.length≤1000000) (c3:c.bot.length≤1000000) (H:Heap):
  clD EE (.p (.fn 37)) [vW j,vStt s,vColm c] H=some (vB (decide (q02t j s c=0)),none):=by
 rw [q002 _ _ _ _ _ _ (noP _) fn37]
 have k:=fun H=>q0hr j w hf s c c1 c2 c3 H
 simp [St.enter,q000,subs,q001,k]
theorem q0w1 (fs:List Float) (h:fs.length≤100000) (x y:C3):(takeL fs x y).length≤1000000:=by
 have:=q0f7 fs x y
 unfold takeL
 rw [isort_len];omega
theorem q0h9 {j:Job} (w:wfJ j) {s:Stt} {n:C3} {c:Colm} (h:q03p j s n=some c):c.notes.length≤1000000∧c.top.length≤1000000∧c.bot.length≤1000000:=by
 have t:=q0w1 j.floats w.w.n3 s.h
 unfold q03p at h
 split at h
 ·cases h;exact ⟨by simp,t _,by simp⟩
 split at h
 ·cases h;exact ⟨by simp,t _,by simp⟩
 split at h
 ·cases h;exact ⟨by simp,t _,by simp⟩
 ·cases h
theorem q0ek {l:List Note} {s:Spot} (o:spotB l s):(q02l l s).length≤1000000:=by
 unfold q02l
 by_cases h:q00j l s=[]
 ·rw [h];simp
 ·exact q0cd o _ (q0gw h)
theorem q0ss {j:Job} (w:wfJ j) {s:Stt} {c:Colm} (h:q01t j s=some c):c.notes.length≤1000000∧c.top.length≤1000000∧c.bot.length≤1000000:=by
 unfold q01t at h
 cases e1:textC j s with
 |some x=>
  rw [e1] at h
  simp at h;subst h
  unfold textC at e1
  split at e1
  ·cases e1;exact ⟨q0ek (q0bm j w s _),by simp,by simp⟩
  ·cases e1
 |none=>
  cases e2:dueC j s with
  |some x=>
   rw [e1,e2] at h
   simp at h;subst h
   unfold dueC at e2
   split at e2
   ·exact q0h9 w e2
   ·cases e2
  |none=>
   cases e3:noteC j s with
   |some x=>
    rw [e1,e2,e3] at h
    simp at h;subst h
    unfold noteC at e3
    split at e3
    ·cases e3;exact ⟨q0ek (q0d1 j w s _),by simp,by simp⟩
    ·cases e3
   |none=>
    rw [e1,e2,e3] at h
    simp at h
    unfold q08g at h
    split at h
    ·exact q0h9 w h
    ·cases h
theorem legalGoes_ev (j:Job) (hj:jobI j) (s:Stt) (c:Colm):clD EE (.p (.fn 8)) [vJob j,vStt s,vColm c] []=some (.p (.bool true),none):=by
 rw [q002 _ _ _ _ _ _ (noP _) fn8]
 have l1:=fun H=>q0uw j H
 have aw:=fun H=>q0tt H
 simp only [vJob,cGeom,List.cons_append,List.nil_append] at l1
 cases b1:q0as j with
 |true=>simp [St.enter,q000,subs,q001,l1,b1,aw]
 |false=>
  by_cases c1:(50:Int)<c.notes.length
  ·simp [St.enter,q000,subs,q001,l1,b1,c1,aw]
  by_cases c2:(50:Int)<c.top.length
  ·simp [St.enter,q000,subs,q001,l1,b1,c1,c2,aw]
  by_cases c3:(50:Int)<c.bot.length
  ·simp [St.enter,q000,subs,q001,l1,b1,c1,c2,c3,aw]
  have sm:=q0uu b1
  have ok:=q0jy hj sm
  have sms:=q0oe sm
  have okS:=q0jy (q0s5 hj) sms
  have hw:=q0yw j ok okS (fun n hn=>by have:=sms.each n hn;omega)
  by_cases h:(q03n j).1=0
  ·have r:=(q0gk j).1 h
   have w:=wf_of r sms
   have hf:=q0gp r
   have ls:=fun H=>q0ej (snapG j) w s H
   have lr:=fun H=>q0hs (snapG j) w hf s c (by omega) (by omega) (by omega) H
   have nx:=fun H=>q0rt (snapG j) w.w s c (by omega) (by omega) (by omega) H
   have fc:=fun H=>q0kf (snapG j) w.w hf s c (by omega) (by omega) (by omega) H
   have ri:=fun H=>q02a (snapG j) w.w (nextS (snapG j) s c) H
   have m1:=fun H=>q0b3 (snapG j) w s H
   have m2:=fun H=>q0b3 (snapG j) w (nextS (snapG j) s c) H
   simp only [if_pos h] at hw
   unfold vOC at ls
   by_cases q:q02t (snapG j) s c=0
   ·simp only [q,decide_true] at lr
    obtain ⟨-,g2,g3⟩:=q0p9 w q
    obtain ⟨z,e1,-,-⟩:=q0lu w (q0pb q)
    obtain ⟨z1,z2,z3⟩:=q0ss w e1
    have sa:=fun H=>q0oz z c z1 z2 z3 H
    have hov:=q0pc q
    rw [e1,Option.getD_some] at hov
    rw [e1] at ls
    rw [(q01g _ _).2 g2] at ri
    generalize nextS (snapG j) s c=n at*
    generalize q02g (snapG j) s=a at*
    generalize q02g (snapG j) n=b at*
    generalize q01x (snapG j) s c=F at*
    generalize snapG j=J at*
    simp only [vJob,cJobW,cGeom,List.cons_append,List.nil_append] at hw
    obtain ⟨f1,f2,f3,f4,ovr,f6⟩:=F
    cases ovr with
    |false=>simp [St.enter,q000,subs,q001,fldvV,solN,sd,l1,b1,c1,c2,c3,aw,hw,ls,lr,nx,fc,ri,m1,m2,g3]
    |true=>
     have:sameC z c=true:=by
      have:=hov rfl
      unfold sameC at*
      simp only [Bool.and_eq_true,decide_eq_true_eq] at*
      exact ⟨⟨⟨⟨⟨this.1.1.1.1.1.symm,this.1.1.1.1.2.symm⟩,this.1.1.1.2.symm⟩,this.1.1.2.symm⟩,this.1.2.symm⟩,this.2.symm⟩
     rw [this] at sa
     simp [St.enter,q000,subs,q001,fldvV,solN,sd,l1,b1,c1,c2,c3,aw,hw,ls,lr,nx,fc,sa,ri,m1,m2,g3]
   ·simp only [q,decide_false] at lr
    generalize snapG j=J at*
    simp only [vJob,cJobW,cGeom,List.cons_append,List.nil_append] at hw
    simp [St.enter,q000,subs,q001,fldvV,solN,sd,l1,b1,c1,c2,c3,aw,hw,lr]
  ·simp only [if_neg h] at hw
   simp only [vJob,cGeom,List.cons_append,List.nil_append] at hw
   simp [St.enter,q000,subs,q001,fldvV,solN,sd,l1,b1,c1,c2,c3,aw,hw]
end Go.EnvOf
