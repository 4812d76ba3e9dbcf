/- The program's functions and the document's, evaluated. -/
import Derived.Test.YtjjdmlpdgcdehaaGreatText10
import Derived.Test.YtjjdmlpdgcdehaaGreatText11
import Derived.Test.YtjjdmlpdgcdehaaGreatText9
import Derived.Test.YtjjdmlpdgcdehaaGreatText8
set_option linter.unusedSimpArgs false
set_option linter.unusedVariables false
namespace Go.EnvOf
open Go Go.Eng
set_option maxRecDepth 100000
abbrev cAsk (j:Job) (s:Stt) (c:Colm):List V:=vW j::(cStt s++cColm c++cJobW j)
abbrev vAsk (j:Job) (s:Stt) (c:Colm):V:= .agg (cAsk j s c)
section
variable (j:Job) (w:wfJ j) (s:Stt) (c:Colm)
theorem q0ia (H:Heap):clD EE (.p (.fn 179)) [vAsk j s c] H=some (vB (decide (s.at_=j.items.length)),none):=by
 rw [q002 _ _ _ _ _ _ (noP _) fn179]
 have wl:=fun H=>q07e j H
 have ll:=fun H=>q021 j.items H
 simp only [vAsk,cAsk,cStt,cColm,cJobW,cGeom,List.cons_append,List.nil_append]
 simp [St.enter,q000,subs,q001,wl,ll]
theorem q0ib (H:Heap):clD EE (.p (.fn 190)) [vAsk j s c] H=some (vB (decide (c.to≠s.at_)),none):=by
 rw [q002 _ _ _ _ _ _ (noP _) fn190]
 simp only [vAsk,cAsk,cStt,cColm,cJobW,cGeom,List.cons_append,List.nil_append]
 simp [St.enter,q000,subs,q001]
include w in
theorem q0tw (H:Heap):clD EE (.p (.fn 180)) [vAsk j s c] H=some (vB (!q022 j s),none):=by
 rw [q002 _ _ _ _ _ _ (noP _) fn180]
 have fl:=fun H=>q0b4 j w.w s H
 simp only [vAsk,cAsk,cStt,cColm,cJobW,cGeom,List.cons_append,List.nil_append]
 simp [St.enter,q000,subs,q001,fl]
include w in
theorem q0tx (H:Heap):clD EE (.p (.fn 182)) [vAsk j s c] H=some (vB (!(brkF j.items s.at_).contains c.to),none):=by
 rw [q002 _ _ _ _ _ _ (noP _) fn182]
 have wl:=fun H=>q07e j H
 have br:=fun H=>q0vh j.items w.w.n1 s.at_ H
 have hl:(brkF j.items s.at_).length≤1000000:=by
  unfold brkF brkN
  rw [List.length_map]
  have:=List.length_filter_le (fun (m:Nat)=>decide ((m:Int)≤q010 j.items s.at_)&&mayN j.items m) (List.range' (pos s.at_+1) (j.items.length-pos s.at_))
  rw [List.length_range'] at this
  have:=w.w.n1
  omega
 have hi:=fun H=>q0tv (brkF j.items s.at_) c.to hl H
 generalize brkF j.items s.at_=B at*
 simp only [vAsk,cAsk,cStt,cColm,cJobW,cGeom,List.cons_append,List.nil_append]
 simp [St.enter,q000,subs,q001,wl,br,hi]
include w in
theorem q0Bh (H:Heap):clD EE (.p (.fn 185)) [vAsk j s c] H=some (vB (!mayPc j.notes (spotS j s c.to) c.notes),none):=by
 rw [q002 _ _ _ _ _ _ (noP _) fn185]
 have sp:=fun H=>q07t j w.w s c.to H
 have my:=fun H=>q0d1 j.notes (spotS j s c.to) (q08n j w s _) c.notes H
 generalize spotS j s c.to=q at*
 simp only [vAsk,cAsk,cStt,cColm,cJobW,cGeom,List.cons_append,List.nil_append]
 simp [St.enter,q000,subs,q001,sp,my]
include w in
theorem q0p9 (c2:c.top.length≤1000000) (c3:c.bot.length≤1000000) (to:Int) (H:Heap):clD EE (.p (.fn 188)) [vAsk j s c,vI to] H=some (vB (setF j s c to),none):=by
 rw [q002 _ _ _ _ _ _ (noP _) fn188]
 have o1:=fun H=>of_ev j.floats c.top H w.w.n3 c2
 have o2:=fun H=>of_ev j.floats c.bot H w.w.n3 c3
 have a1:=fun x y H=>q0Bm x y H
 have n1:=fun x H=>q0pc j.floats x c.top H w.w.n3 c2
 have n2:=fun x H=>q0pc j.floats x c.bot H w.w.n3 c3
 have mp:=fun H=>q0gw j H
 have hd:=fun H=>q09v j.items j.floats to H
 change∀H,clD EE _ _ H=some (vC (q01i j to),none) at hd
 have re:=fun H=>in_ev (q0b1 j s c) (q01i j to) H
 unfold setF
 unfold q0b1 at*
 generalize ofL j.floats c.top=x1 at*
 generalize ofL j.floats c.bot=x2 at*
 generalize hm:addC s.h x1=m1 at*
 generalize hn:addC m1 x2=m2 at*
 simp only [vAsk,cAsk,cStt,cColm,cJobW,cGeom,List.cons_append,List.nil_append]
 cases e1:nextQ j.floats s.h c.top with
 |false=>
  have n1':=fun H=>n1 s.h H
  rw [e1] at n1'
  simp [St.enter,q000,subs,q001,o1,o2,a1,hm,hn,n1']
 |true=>
  have n1':=fun H=>n1 s.h H
  rw [e1] at n1'
  cases e2:nextQ j.floats m1 c.bot with
  |false=>
   have n2':=fun H=>n2 m1 H
   rw [e2] at n2'
   simp [St.enter,q000,subs,q001,o1,o2,a1,hm,hn,n1',n2']
  |true=>
   have n2':=fun H=>n2 m1 H
   rw [e2] at n2'
   simp [St.enter,q000,subs,q001,o1,o2,a1,hm,hn,n1',n2',mp,hd,re]
include w in
theorem q0xe (c2:c.top.length≤1000000) (c3:c.bot.length≤1000000) (H:Heap):clD EE (.p (.fn 187)) [vAsk j s c] H=some (vB (!(setF j s c c.to&&fitsC j c)),none):=by
 rw [q002 _ _ _ _ _ _ (noP _) fn187]
 have st:=fun H=>q0p9 j w s c c2 c3 c.to H
 have ft:=fun H=>q0xt j.g j.floats (c.top,c.bot) H c2 c3
 unfold fitsC
 simp only [vAsk,cAsk,cStt,cColm,cJobW,vGeom,cGeom,List.cons_append,List.nil_append] at st ft⊢
 generalize (fitT j.g j.floats c.top&&fitB j.g j.floats c.bot)=F at*
 cases e:setF j s c c.to with
 |false=>rw [e] at st;simp [St.enter,q000,subs,q001,st]
 |true=>rw [e] at st;simp [St.enter,q000,subs,q001,st,ft]
include w in
theorem q0lv (hf: ∀x∈j.items,fairI x) (c1:c.notes.length≤1000000) (c2:c.top.length≤1000000) (c3:c.bot.length≤1000000) (H:Heap):clD EE (.p (.fn 90)) [vAsk j s c] H=some (vB (q02r j s c).over,none):=by
 rw [q002 _ _ _ _ _ _ (noP _) fn90]
 have fc:=fun H=>q0z3 j w.w hf s c c1 c2 c3 H
 generalize q02r j s c=F at*
 simp only [vAsk,cAsk,cStt,cColm,cJobW,cGeom,List.cons_append,List.nil_append]
 simp [St.enter,q000,subs,q001,fldvV,fc]
theorem q0xf (H:Heap):clD EE (.p (.fn 178)) [vAsk j s c] H=some (vB (decide (c.notes≠[])),none):=by
 rw [q002 _ _ _ _ _ _ (noP _) fn178]
 have e:(0<(c.notes.length:Int))=(c.notes≠[]):=by simp [List.length_pos_iff]
 simp only [vAsk,cAsk,cStt,cColm,cJobW,cGeom,List.cons_append,List.nil_append]
 cases hn:c.notes<;>simp [St.enter,q000,subs,q001,hn]
include w in
theorem q0ty (H:Heap):clD EE (.p (.fn 194)) [vAsk j s c] H=some (vB (mayPc j.notes (q02h (spotS j s s.at_)) c.notes),none):=by
 rw [q002 _ _ _ _ _ _ (noP _) fn194]
 have sp:=fun H=>q07t j w.w s s.at_ H
 have my:=fun H=>q0d1 j.notes (q02h (spotS j s s.at_)) (q09f j w s _) c.notes H
 generalize spotS j s s.at_=q at*
 unfold q02h at*
 simp only [vAsk,cAsk,cStt,cColm,cJobW,cGeom,List.cons_append,List.nil_append]
 simp [St.enter,q000,subs,q001,sp,my]
include w in
theorem q0tz (hf: ∀x∈j.items,fairI x) (c1:c.notes.length≤1000000) (c2:c.top.length≤1000000) (c3:c.bot.length≤1000000) (H:Heap):
  clD EE (.p (.fn 191)) [vAsk j s c] H=some (vB (decide (c.top=[]∨8<c.top.length∨c.bot≠[]∨setF j s c s.at_=false∨(q02r j s c).over=true)),none):=by
 rw [q002 _ _ _ _ _ _ (noP _) fn191]
 have st:=fun H=>q0p9 j w s c c2 c3 s.at_ H
 have ov:=fun H=>q0lv j w s c hf c1 c2 c3 H
 simp only [vAsk,cAsk,cStt,cColm,cJobW,vGeom,cGeom,List.cons_append,List.nil_append] at st ov⊢
 generalize (q02r j s c).over=F at*
 by_cases t0:c.top=[]
 ·simp only [t0] at*
  simp [St.enter,q000,subs,q001]
 ·have t1: ¬(c.top.length:Int)=0:=by
   have:=List.length_pos_iff.2 t0;omega
  have t1':=eq_false t0
  by_cases t2:8<c.top.length
  ·have t3:(8:Int)<c.top.length:=by omega
   simp [St.enter,q000,subs,q001,t1,t3,t0,t2]
  ·have t3: ¬(8:Int)<c.top.length:=by omega
   by_cases b0:c.bot=[]
   ·have b1: ¬0<c.bot.length:=by rw [b0];simp
    have b0:=eq_true b0
    cases e:setF j s c s.at_ with
    |false=>rw [e] at st;simp [St.enter,q000,subs,q001,t1,t3,t0,t2,b1,b0,st]
    |true=>
     rw [e] at st
     simp [St.enter,q000,subs,q001,t1,t3,t0,t2,b1,b0,st,ov]
   ·have b1:0<c.bot.length:=List.length_pos_iff.2 b0
    simp [St.enter,q000,subs,q001,t1,t3,t0,t2,b1,b0]
theorem q0Bi (H:Heap):clD EE (.p (.fn 192)) [vAsk j s c] H=some (vB (decide (c.to≠s.at_∨s.at_≠j.items.length)),none):=by
 rw [q002 _ _ _ _ _ _ (noP _) fn192]
 have m:=fun H=>q0ib j s c H
 have e:=fun H=>q0ia j s c H
 simp only [vAsk,cAsk,cStt,cColm,cJobW,vGeom,cGeom,List.cons_append,List.nil_append] at m e⊢
 by_cases h1:c.to=s.at_
 ·have h1:=eq_true h1
  by_cases h2:s.at_=j.items.length
  ·have h2:=eq_true h2
   simp [St.enter,q000,subs,q001,m,e,h1,h2]
  ·simp [St.enter,q000,subs,q001,m,e,h1,h2]
 ·simp [St.enter,q000,subs,q001,m,e,h1]
include w in
theorem q0xg (H:Heap):clD EE (.p (.fn 193)) [vAsk j s c] H=some (vB (decide (c.notes=[]∨mayPc j.notes (q02h (spotS j s s.at_)) c.notes=false)),none):=by
 rw [q002 _ _ _ _ _ _ (noP _) fn193]
 have l:=fun H=>q0ty j w s c H
 simp only [vAsk,cAsk,cStt,cColm,cJobW,vGeom,cGeom,List.cons_append,List.nil_append] at l⊢
 by_cases n0:c.notes=[]
 ·simp only [n0] at*
  simp [St.enter,q000,subs,q001]
 ·have n1: ¬(c.notes.length:Int)=0:=by
   have:=List.length_pos_iff.2 n0;omega
  cases e:mayPc j.notes (q02h (spotS j s s.at_)) c.notes<;>rw [e] at l<;>simp [St.enter,q000,subs,q001,n0,n1,l]
theorem q0xh (c2:c.top.length≤1000000) (c3:c.bot.length≤1000000) (H:Heap):clD EE (.p (.fn 195)) [vAsk j s c] H=some (vB (decide (c.top≠[]∨c.bot≠[])),none):=by
 rw [q002 _ _ _ _ _ _ (noP _) fn195]
 have w1:IntKind.i64.wrap ((c.top.length:Int)+c.bot.length)=c.top.length+c.bot.length:=w64 (by omega) (by omega)
 have e:decide (0<(c.top.length:Int)+c.bot.length)=decide (c.top≠[]∨c.bot≠[]):=by
  congr 1
  rw [eq_iff_iff]
  constructor
  ·intro h
   by_cases a:c.top=[]
   ·right;intro b;rw [a,b] at h;simp at h
   ·exact .inl a
  ·rintro (h|h)<;>have:=List.length_pos_iff.2 h<;>omega
 simp only [vAsk,cAsk,cStt,cColm,cJobW,vGeom,cGeom,List.cons_append,List.nil_append]
 rw [←e]
 simp [St.enter,q000,subs,q001,w1]
end
def ruE (x:Int×Nat):List PV:=[.int .i64 x.1,.fn x.2]
def rules1:List (Int×Nat):=[(19,179),(18,180),(14,182),(15,185),(16,187)]
def rules2:List (Int×Nat):=[(19,190),(15,178),(16,191)]
def rules3:List (Int×Nat):=[(19,192),(15,193),(16,195)]
def q03u:List (V×V):=[(vI 1,.p (.sl (rules1.map ruE))),(vI 2,.p (.sl (rules2.map ruE))),(vI 3,.p (.sl (rules3.map ruE)))]
theorem q0ic (H:Heap):clD EE (.p (.fn 88)) [] H=some (.map H.length,some (H++[.map q03u],[])):=by
 rw [q002 _ _ _ _ _ _ (noP _) fn88]
 have m0: ∀es,mapAt (H++[.map es]) H.length=some es:=fun es=>by simp [mapAt]
 simp [St.enter,q000,subs,q001,m0,stmE,stmR,setM,findM,eqKey,keyB,q03u,rules1,rules2,rules3,ruE]
def q03j (k:Int):List (Int×Nat):=if k=1 then rules1 else if k=2 then rules2 else if k=3 then rules3 else []
theorem q0u0 (k:Int):lkmK .nils true (findM none (vI k) q03u 0)=some (.tup [if k=1∨k=2∨k=3 then .p (.sl ((q03j k).map ruE)) else .nils,vB (decide (k=1∨k=2∨k=3))]):=by
 unfold q03j
 by_cases k1:k=1
 ·simp [q03u,findM,eqKey,lkmK,k1]
 ·by_cases k2:k=2
  ·simp [q03u,findM,eqKey,lkmK,k2]
  ·by_cases k3:k=3
   ·simp [q03u,findM,eqKey,lkmK,k3]
   ·simp [q03u,findM,eqKey,lkmK,k1,k2,k3]
def q028:List (Int×Bool)→Int
 |[]=>0
 |x::r=>if x.2=true then x.1 else q028 r
def ckLoc (j:Job) (s:Stt) (c:Colm):List (Nat×List V):=[(4,cStt s),(5,cColm c),(9,cAsk j s c)]
def cqE (j:Job) (s:Stt) (c:Colm) (L:List (Int×Nat)) (H:Heap) (B:Nat) (i:Nat):St:=⟨[(0,vW j),(4,.lptr 4 0),(5,.lptr 5 0),(9,.lptr 9 0),(47,.p (.sl (L.map ruE))),(48,vI L.length),(49,vI i)],ckLoc j s c,H,B,[]⟩
def cqX (j:Job) (s:Stt) (c:Colm) (L:List (Int×Nat)) (H:Heap) (B:Nat):Ex×St:=(.exit 0,⟨[(0,vW j),(4,.lptr 4 0),(5,.lptr 5 0),(9,.lptr 9 0),(47,.p (.sl (L.map ruE))),(48,vI L.length),(49,vI L.length),(50,vB false)],ckLoc j s c,H,B,[]⟩)
def cqS (H:Heap) (B:Nat) (f:Nat→Bool) (_:Unit) (_:Nat) (x:Int×Nat):Unit⊕(Ex×St):=if f x.2=true then .inr (.ret,⟨[(6,vI x.1)],[],H,B,[]⟩) else .inl ()
theorem q0u1 (H:Heap) (B:Nat) (f:Nat→Bool) (fin:Ex×St): ∀(L:List (Int×Nat)) (i:Nat),(∀x∈L,x.1≠0)→rng (cqS H B f) (fun _=>fin) () i L=if q028 (L.map fun x=>(x.1,f x.2))=0 then fin else (.ret,⟨[(6,vI (q028 (L.map fun x=>(x.1,f x.2))))],[],H,B,[]⟩)
 |[],_,_=>by simp [rng,q028]
 |x::r,i,h=>by
  simp only [rng,cqS,List.map_cons,q028]
  by_cases q:f x.2=true
  ·rw [if_pos q];simp only [if_pos q];rw [if_neg (h x (by simp))]
  ·rw [if_neg q];simp only [if_neg q];exact q0u1 H B f fin r (i+1) fun y hy=>h y (by simp [hy])
theorem cq_lp (j:Job) (s:Stt) (c:Colm) (L:List (Int×Nat)) (hn:L.length≤1000) (hz: ∀x∈L,x.1≠0) (f:Nat→Bool) (H:Heap) (B:Nat) (hL: ∀x∈L,clD EE (.p (.fn x.2)) [vAsk j s c] H=some (vB (f x.2),none)):
  evD EE q0Vi (cqE j s c L H B 0)=some (if q028 (L.map fun x=>(x.1,f x.2))=0 then cqX j s c L H B else (.ret,⟨[(6,vI (q028 (L.map fun x=>(x.1,f x.2))))],[],H,B,[]⟩)):=by
 rw [←q0u1 H B f (cqX j s c L H B) L 0 hz]
 unfold q0Vi
 refine q013 L (fun (_:Unit) i=>cqE j s c L H B i) (fun _ _=>True) (cqS H B f) (fun _=>cqX j s c L H B) (fun _ _=>rfl) ?_ ?_ () 0 trivial (Nat.zero_le _)
 ·rintro _ i x-hx
  have hlt:=(List.getElem?_eq_some_iff.1 hx).1
  have w1:IntKind.i64.wrap ((i:Int)+1)=((i+1:Nat):Int):=w64 (by omega) (by omega)
  have hix:=fun H k=>q00c H ruE (k:=k) (s:=2) hx rfl
  simp only [ruE] at hix
  have h1:=hL x (List.mem_of_getElem? hx)
  simp only [vAsk,cAsk,cStt,cColm,cJobW,cGeom,List.cons_append,List.nil_append] at h1
  unfold cqS
  cases q:f x.2 with
  |true=>
   rw [q] at h1
   simp [cqE,ckLoc,hlt,hix,subs,q001,h1]
  |false=>
   rw [q] at h1
   simp [cqE,ckLoc,hlt,hix,subs,q001,h1,w1]
 ·rintro _-
  simp [cqE,cqX,ckLoc]
section
variable (j:Job) (w:wfJ j) (hf: ∀x∈j.items,fairI x) (s:Stt) (c:Colm) (c1:c.notes.length≤1000000) (c2:c.top.length≤1000000) (c3:c.bot.length≤1000000)
def ruleB (n:Nat):Bool:=
 if n=179 then decide (s.at_=j.items.length) else if n=180 then !q022 j s else if n=182 then !(brkF j.items s.at_).contains c.to
 else if n=185 then !mayPc j.notes (spotS j s c.to) c.notes else if n=187 then !(setF j s c c.to&&fitsC j c)
 else if n=190 then decide (c.to≠s.at_) else if n=178 then decide (c.notes≠[])
 else if n=191 then decide (c.top=[]∨8<c.top.length∨c.bot≠[]∨setF j s c s.at_=false∨(q02r j s c).over=true)
 else if n=192 then decide (c.to≠s.at_∨s.at_≠j.items.length)
 else if n=193 then decide (c.notes=[]∨mayPc j.notes (q02h (spotS j s s.at_)) c.notes=false) else decide (c.top≠[]∨c.bot≠[])
include w hf c1 c2 c3 in
theorem q0xi (k:Int) (H:Heap): ∀x∈q03j k,clD EE (.p (.fn x.2)) [vAsk j s c] H=some (vB (ruleB j s c x.2),none):=by
 have e1:=q0ia j s c H
 have e2:=q0tw j w s c H
 have e3:=q0tx j w s c H
 have e4:=q0Bh j w s c H
 have e5:=q0xe j w s c c2 c3 H
 have e6:=q0ib j s c H
 have e7:=q0xf j s c H
 have e8:=q0tz j w s c hf c1 c2 c3 H
 have e9:=q0Bi j s c H
 have e10:=q0xg j w s c H
 have e11:=q0xh j s c c2 c3 H
 intro x hx
 unfold q03j at hx
 split at hx
 ·simp only [rules1,List.mem_cons,List.not_mem_nil,or_false] at hx
  rcases hx with rfl|rfl|rfl|rfl|rfl
  ·exact e1
  ·exact e2
  ·exact e3
  ·exact e4
  ·exact e5
 split at hx
 ·simp only [rules2,List.mem_cons,List.not_mem_nil,or_false] at hx
  rcases hx with rfl|rfl|rfl
  ·exact e6
  ·exact e7
  ·exact e8
 split at hx
 ·simp only [rules3,List.mem_cons,List.not_mem_nil,or_false] at hx
  rcases hx with rfl|rfl|rfl
  ·exact e9
  ·exact e10
  ·exact e11
 ·cases hx
theorem q0id (k:Int):(q03j k).length≤1000∧ ∀x∈q03j k,x.1≠0:=by
 unfold q03j
 split
 ·simp [rules1]
 split
 ·simp [rules2]
 split
 ·simp [rules3]
 ·simp
def ruleE (k:Int):Int:=q028 ((q03j k).map fun x=>(x.1,ruleB j s c x.2))
theorem q0lw (h: ¬(¬(c.k=1∨c.k=2∨c.k=3)∨openS j s=false∨c.frm≠s.at_)):(endE j s c=true∧ruleE j s c c.k=19)∨(endE j s c=false∧ruleE j s c c.k=kindE j s c):=by
 have hk:c.k=1∨c.k=2∨c.k=3:=Decidable.not_not.1 fun q=>h (.inl q)
 have ho:openS j s=true:=by
  cases q:openS j s with
  |true=>rfl
  |false=>exact absurd (.inr (.inl q)) h
 have hf:c.frm=s.at_:=Decidable.not_not.1 fun q=>h (.inr (.inr q))
 unfold endE
 simp only [decide_eq_true_eq,decide_eq_false_iff_not]
 unfold ruleE q03j kindE
 rcases hk with k|k|k
 ·rw [if_pos k,if_pos k]
  by_cases e:s.at_=j.items.length
  ·exact .inl ⟨.inr (.inr (.inr (.inr (.inl ⟨k,e⟩)))),by simp [rules1,q028,ruleB,e]⟩
  ·refine .inr ⟨by simp [ho,k,hf,e],?_⟩
   unfold textE
   cases a1:q022 j s<;>cases a2:(brkF j.items s.at_).contains c.to<;>cases a3:mayPc j.notes (spotS j s c.to) c.notes<;>cases a4:setF j s c c.to<;>cases a5:fitsC j c<;>
    simp only [rules1,List.map_cons,List.map_nil,q028,ruleB,a1,a2,a3,a4,a5]<;>simp [e]
 ·rw [if_neg (by omega),if_pos k,if_neg (by omega),if_pos k]
  by_cases e:c.to=s.at_
  ·refine .inr ⟨by simp [ho,k,hf,e],?_⟩
   unfold q0b2
   by_cases a1:c.notes=[]
   ·by_cases a2:c.top=[]∨8<c.top.length∨c.bot≠[]∨setF j s c s.at_=false∨(q02r j s c).over=true
    ·rw [if_neg (by simpa using a1),if_pos a2]
     have a2:=eq_true a2
     simp only [rules2,List.map_cons,List.map_nil,q028,ruleB,a2,a1,e]
     simp
    ·rw [if_neg (by simpa using a1),if_neg a2]
     have a2:=eq_false a2
     simp only [rules2,List.map_cons,List.map_nil,q028,ruleB,a2,a1,e]
     simp
   ·rw [if_pos a1]
    simp [rules2,q028,ruleB,a1,e]
  ·exact .inl ⟨.inr (.inr (.inr (.inr (.inr (.inl ⟨by omega,e⟩))))),by simp [rules2,q028,ruleB,e]⟩
 ·rw [if_neg (by omega),if_neg (by omega),if_pos k,if_neg (by omega),if_neg (by omega)]
  by_cases e:c.to=s.at_∧s.at_=j.items.length
  ·refine .inr ⟨by simp [ho,k,hf,e.1,e.2],?_⟩
   have e1:=eq_true e.1
   have e2:=eq_true e.2
   unfold noteE
   by_cases a1:c.notes=[]∨mayPc j.notes (q02h (spotS j s s.at_)) c.notes=false
   ·rw [if_pos a1]
    have a1:=eq_true a1
    simp only [rules3,List.map_cons,List.map_nil,q028,ruleB,a1,ne_eq,e1,e2]
    simp
   ·rw [if_neg a1]
    have a1:=eq_false a1
    by_cases a2:c.top≠[]∨c.bot≠[]
    ·rw [if_pos a2]
     have a2:=eq_true a2
     simp only [rules3,List.map_cons,List.map_nil,q028,ruleB,a1,a2,e1,e2]
     simp [e1,e2]
    ·rw [if_neg a2]
     have a2:=eq_false a2
     simp only [rules3,List.map_cons,List.map_nil,q028,ruleB,a1,a2,e1,e2]
     simp [e1,e2]
  ·refine .inl ⟨?_,?_⟩
   ·by_cases e1:c.to=s.at_
    ·exact .inr (.inr (.inr (.inr (.inr (.inr ⟨k,fun h=>e ⟨e1,h⟩⟩)))))
    ·exact .inr (.inr (.inr (.inr (.inr (.inl ⟨by omega,e1⟩)))))
   ·have e':(c.to≠s.at_∨s.at_≠j.items.length)=True:=eq_true (by
     by_cases e1:c.to=s.at_
     ·exact .inr fun h=>e ⟨e1,h⟩
     ·exact .inl e1)
    simp only [rules3,List.map_cons,List.map_nil,q028,ruleB,e']
    simp
theorem q0ny:q06c j s c=if¬(c.k=1∨c.k=2∨c.k=3)∨openS j s=false∨c.frm≠s.at_ then 19 else if ruleE j s c c.k≠0 then ruleE j s c c.k
  else if (q02r j s c).over=true∧sameC c ((q04r j s).getD q014)=false then 17 else 0:=by
 by_cases h: ¬(c.k=1∨c.k=2∨c.k=3)∨openS j s=false∨c.frm≠s.at_
 ·rw [if_pos h]
  unfold q06c
  rw [if_pos]
  unfold endE
  rw [decide_eq_true_eq]
  rcases h with h|h|h
  ·by_cases q:c.k<1
   ·exact .inr (.inl q)
   ·exact .inr (.inr (.inl (by omega)))
  ·exact .inl h
  ·exact .inr (.inr (.inr (.inl h)))
 ·rw [if_neg h]
  unfold q06c
  rcases q0lw j s c h with ⟨h1,h2⟩|⟨h1,h2⟩
  ·rw [if_pos h1,h2,if_pos (by omega)]
  ·rw [if_neg (by rw [h1];simp),h2]
include w hf c1 c2 c3 in
theorem q0a3 (H:Heap):clD EE (.p (.fn 33)) [vW j,vStt s,vColm c] H=some (vI (q06c j s c),none):=by
 rw [q002 _ _ _ _ _ _ (noP _) fn33,q0ny]
 have ru:=fun H=>q0ic H
 have m0:mapAt (H++[.map q03u]) H.length=some q03u:=by simp [mapAt]
 have lk:=q0u0 c.k
 have r:=fun H=>q03r j w.w s H
 have d:=fun H=>q0j3 j w.w s H
 have pl:=fun H=>q07d j H
 simp only [vJob,cGeom,List.cons_append,List.nil_append] at pl
 by_cases k:c.k=1∨c.k=2∨c.k=3
 ·simp only [if_pos k,decide_eq_true k] at lk
  have kk:=eq_true k
  cases b1:q01g j s with
  |false=>
   rw [b1] at r
   have o:openS j s=false:=by unfold openS;rw [b1];rfl
   simp [St.enter,q000,subs,q001,ru,m0,lk,r,o]
  |true=>
   rw [b1] at r
   cases b2:doneS j s with
   |true=>
    rw [b2] at d
    have o:openS j s=false:=by unfold openS;rw [b1,b2];rfl
    simp [St.enter,q000,subs,q001,ru,m0,lk,r,d,o]
   |false=>
    rw [b2] at d
    have o:openS j s=true:=by unfold openS;rw [b1,b2];rfl
    by_cases f:c.frm=s.at_
    ·have ff:=eq_true f
     have key:=cq_lp j s c (q03j c.k) (q0id c.k).1 (q0id c.k).2 (ruleB j s c) (H++[.map q03u]) H.length (q0xi j w hf s c c1 c2 c3 c.k _)
     have ov:=fun H=>q0lv j w s c hf c1 c2 c3 H
     have ls:=fun H=>q0qq j w s H
     have sm:=fun H=>q0vn c ((q04r j s).getD q014) c1 c2 c3 H
     unfold ruleE
     unfold vOC at ls
     generalize q028 _=E at*
     generalize q03j c.k=L at*
     generalize q02r j s c=F at*
     generalize (q04r j s).getD q014=Z at*
     simp only [vAsk,cAsk,cStt,cColm,cJobW,cGeom,List.cons_append,List.nil_append] at ov
     by_cases e0:E=0
     ·rw [if_pos e0] at key
      simp only [cqE,cqX,ckLoc,cAsk,cStt,cColm,cJobW,cGeom,List.cons_append,List.nil_append] at key
      simp at key
      obtain ⟨f1,f2,f3,f4,ovr,f6⟩:=F
      simp only at ov⊢
      cases ovr with
      |false=>simp [St.enter,q000,subs,q001,ru,m0,lk,r,d,o,ff,kk,pl,key,e0,ov]
      |true=>
       cases q:sameC c Z<;>rw [q] at sm<;>simp [St.enter,q000,subs,q001,ru,m0,lk,r,d,o,ff,kk,pl,key,e0,ov,ls,sm]
     ·rw [if_neg e0] at key
      simp only [cqE,ckLoc,cAsk,cStt,cColm,cJobW,cGeom,List.cons_append,List.nil_append] at key
      simp at key
      simp [St.enter,q000,subs,q001,ru,m0,lk,r,d,o,ff,kk,pl,key,e0]
    ·simp [St.enter,q000,subs,q001,ru,m0,lk,r,d,o,f]
 ·simp only [if_neg k,decide_eq_false k] at lk
  have kk:=eq_false k
  simp [St.enter,q000,subs,q001,ru,m0,lk,kk]
end
theorem q0lx (k:Int) (m:Nat) (f:Item→Item) (hf: ∀x,(f x).k=x.k∧(f x).n=x.n): ∀(l:List Item) (i n:Nat),refF k m i n (l.map f)=refF k m i n l
 |[],_,_=>rfl
 |x::r,i,n=>by
  simp only [List.map_cons,refF,(hf x).1,(hf x).2,q0lx k m f hf r]
theorem dn_eq {n s:Int} (h0:0≤n) (h1:n≤1073741823) (hs:1≤s):downG n s=s*(n/s):=by
 have a:=Int.emod_nonneg n (show s≠0 by omega)
 have b:=Int.emod_add_mul_ediv n s
 have c:0≤s*(n/s):=Int.mul_nonneg (by omega) (Int.ediv_nonneg h0 (by omega))
 unfold downG downF
 rw [if_neg (by omega)]
 unfold subF
 rw [if_pos (by omega)]
 simp only [orN]
 omega
theorem q0u2 {a b s:Int} (h0:0≤a) (h:a≤b) (h1:b≤1073741823) (hs:1≤s):downG a s≤downG b s:=by
 rw [dn_eq h0 (by omega) hs,dn_eq (by omega) h1 hs]
 exact Int.mul_le_mul_of_nonneg_left (Int.ediv_le_ediv (by omega) h) (by omega)
theorem q0u3 {g:Geom} (h:geomF g=0):1≤g.first∧g.first≤g.high∧0≤g.topMost∧0≤g.botMost∧0≤g.topMany∧0≤g.botMany∧g.topMany≤4∧g.botMany≤4∧0≤g.noteMost:=by
 unfold geomF at h
 by_cases q1:inR 1 8 [g.cols]=false
 ·rw [if_pos q1] at h;omega
 rw [if_neg q1] at h
 by_cases q2:inR 1 1073741823 [g.wide,g.high]=false
 ·rw [if_pos q2] at h;omega
 rw [if_neg q2] at h
 by_cases q3:inR 0 1073741823 [g.gap,g.noteMost,g.topMost,g.botMost]=false
 ·rw [if_pos q3] at h;omega
 rw [if_neg q3] at h
 by_cases q4:inR 0 536870912 [g.rule,g.sep,g.grid]=false
 ·rw [if_pos q4] at h;omega
 rw [if_neg q4] at h
 by_cases q5:inR 1 g.high [g.first]=false
 ·rw [if_pos q5] at h;omega
 rw [if_neg q5] at h
 by_cases q6:inR 0 g.first [g.grid]=false
 ·rw [if_pos q6] at h;omega
 rw [if_neg q6] at h
 by_cases q7:inR 0 4 [g.topMany,g.botMany]=false
 ·rw [if_pos q7] at h;omega
 have a1:=q04b q5 g.first (by simp)
 have a2:=q04b q3 g.topMost (by simp)
 have a3:=q04b q3 g.botMost (by simp)
 have a4:=q04b q7 g.topMany (by simp)
 have a5:=q04b q7 g.botMany (by simp)
 have a6:=q04b q3 g.noteMost (by simp)
 omega
theorem wf_of {j:Job} (r:Right j) (sm:small (snapG j)):wfJ (snapG j):=by
 have hg:=q0bp r.g
 have hm:=q0u3 r.g
 obtain ⟨f,hf,hk⟩:=q0fj j
 have h5:=q07c 5 j.notes.length j.items 0 0 (Nat.zero_le _) r.r5
 have hgr:(snapG j).g.first≤(snapG j).g.high∧(snapG j).g.high≤4294967296∧0≤(snapG j).g.first∧0≤(snapG j).g.sep∧(snapG j).g.sep≤4294967296∧(snapG j).g.topMany=j.g.topMany∧(snapG j).g.botMany=j.g.botMany∧(snapG j).g.topMost=j.g.topMost∧(snapG j).g.botMost=j.g.botMost:=by
  unfold snapG
  split
  ·refine ⟨by omega,by omega,by omega,by omega,by omega,rfl,rfl,rfl,rfl⟩
  ·have b1:=q0u2 (a:=j.g.first) (b:=j.g.high) (s:=j.g.grid) (by omega) (by omega) (by omega) (by omega)
   have b2:=q09m (n:=j.g.high) (s:=j.g.grid) (by omega) (by omega) (by omega) (by omega)
   have b3:=q09m (n:=j.g.first) (s:=j.g.grid) (by omega) (by omega) (by omega) (by omega)
   have b4:=q09l (n:=j.g.sep) (s:=j.g.grid) (by omega) (by omega) (by omega) (by omega)
   exact ⟨b1,b2.2,b3.1,b4.1,b4.2,rfl,rfl,rfl,rfl⟩
 refine ⟨q0Ex r sm,?_,?_,?_,?_,hgr.2.2.1,⟨hgr.1,hgr.2.1⟩,⟨hgr.2.2.2.1,hgr.2.2.2.2.1⟩,?_,?_⟩
 ·intro n hn
  unfold snapG at hn
  split at hn
  ·exact (q0pu (r.notes n hn)).1
  ·obtain ⟨m,hm,rfl⟩:=List.mem_map.1 hn
   have:=(q0pu (r.notes m hm)).1
   simpa [noteG] using this
 ·rw [q0j0,hf]
  unfold q01a
  rw [q0pq 5 f (fun x=>(hk x).1)]
  omega
 ·rw [q0v3,hf,q0lx 6 _ f hk]
  exact r.r6
 ·intro x hx
  have ht:=r.tall x hx
  unfold snapG at hx
  split at hx
  ·rename_i hgr
   have ho:=r.floats x hx
   unfold q01l at ho
   simp only [Bool.and_eq_true,decide_eq_true_eq] at ho
   exact ⟨by omega,by omega,by omega⟩
  ·obtain ⟨y,hy,rfl⟩:=List.mem_map.1 hx
   have ho:=r.floats y hy
   unfold q01l at ho
   simp only [Bool.and_eq_true,decide_eq_true_eq] at ho
   have b:=q09l (n:=y.h) (s:=j.g.grid) (by omega) (by omega) (by omega) (by omega)
   exact ⟨⟨by simp only [q01h];omega,by simp only [q01h];omega⟩,by simp only [q01h];omega,by omega⟩
 ·rw [hgr.2.2.2.2.2.1,hgr.2.2.2.2.2.2.1,hgr.2.2.2.2.2.2.2.1,hgr.2.2.2.2.2.2.2.2]
  omega
 ·rw [q0j1];omega
theorem q0jn (j:Job) (w:wfJ j) (hf: ∀x∈j.items,fairI x) (s:Stt) (c:Colm) (c1:c.notes.length≤1000000) (c2:c.top.length≤1000000) (c3:c.bot.length≤1000000) (H:Heap):
  clD EE (.p (.fn 35)) [vW j,vStt s,vColm c] H=some (vB (decide (q06c j s c=0)),none):=by
 rw [q002 _ _ _ _ _ _ (noP _) fn35]
 have k:=fun H=>q0a3 j w hf s c c1 c2 c3 H
 simp [St.enter,q000,subs,q001,k]
section
variable (j:Job) (w:wfJ j) (s:Stt) (c:Colm) (c1:c.notes.length≤1000000) (c2:c.top.length≤1000000) (c3:c.bot.length≤1000000)
include w c2 c3 in
theorem q0ie (to:Int) (H:Heap):clD EE (.p (.fn 203)) [vJob j,vStt s,vColm c,vI to] H=some (vB (setF j s c to),none):=by
 rw [q002 _ _ _ _ _ _ (noP _) fn203]
 have o1:=fun H=>q0n0 j.floats c.top c2 H
 have o2:=fun H=>q0n0 j.floats c.bot c3 H
 have a1:=fun x y H=>q0xq x y H
 have n1:=fun x H=>q0i9 j.floats x c.top H w.w.n3 c2
 have n2:=fun x H=>q0i9 j.floats x c.bot H w.w.n3 c3
 have hd:=fun H=>q07u j.items j.floats to w.w.n1 H
 change∀H,clD EE _ _ H=some (vC (q01i j to),none) at hd
 have re:=fun H=>q0f7 (q0b1 j s c) (q01i j to) H
 unfold setF
 unfold q0b1 at*
 generalize ofL j.floats c.top=x1 at*
 generalize ofL j.floats c.bot=x2 at*
 generalize hm:addC s.h x1=m1 at*
 generalize hn:addC m1 x2=m2 at*
 simp only [vJob,cGeom,List.cons_append,List.nil_append]
 have n1':=fun H=>n1 s.h H
 have n2':=fun H=>n2 m1 H
 cases e1:nextQ j.floats s.h c.top with
 |false=>
  rw [e1] at n1'
  simp [St.enter,q000,subs,q001,o1,o2,a1,hm,hn,n1']
 |true=>
  rw [e1] at n1'
  cases e2:nextQ j.floats m1 c.bot with
  |false=>rw [e2] at n2';simp [St.enter,q000,subs,q001,o1,o2,a1,hm,hn,n1',n2']
  |true=>rw [e2] at n2';simp [St.enter,q000,subs,q001,o1,o2,a1,hm,hn,n1',n2',hd,re]
include w c2 c3 in
theorem q0r2 (H:Heap):clD EE (.p (.fn 92)) [vJob j,vStt s,vColm c] H=some (vI (textE j s c),none):=by
 rw [q002 _ _ _ _ _ _ (noP _) fn92]
 have fl:=fun H=>q06f j w.w s H
 have br:=fun H=>q0qt j.items w.w.n1 s.at_ H
 have hl:(brkF j.items s.at_).length≤1000000:=by
  unfold brkF brkN
  rw [List.length_map]
  have:=List.length_filter_le (fun (m:Nat)=>decide ((m:Int)≤q010 j.items s.at_)&&mayN j.items m) (List.range' (pos s.at_+1) (j.items.length-pos s.at_))
  rw [List.length_range'] at this
  have:=w.w.n1
  omega
 have hi:=fun H=>q0xd (brkF j.items s.at_) c.to hl H
 have sp:=fun H=>q06o j w.w s c.to H
 have my:=fun H=>q0i8 j.notes (spotS j s c.to) (q08n j w s _) c.notes H
 have st:=fun H=>q0ie j w s c c2 c3 c.to H
 have ft:=fun H=>q0tm j.g j.floats (c.top,c.bot) H c2 c3
 unfold textE fitsC
 generalize brkF j.items s.at_=B at*
 generalize spotS j s c.to=q at*
 generalize mayPc j.notes q c.notes=M at*
 generalize (fitT j.g j.floats c.top&&fitB j.g j.floats c.bot)=F at*
 simp only [vJob,vGeom,cGeom,List.cons_append,List.nil_append] at fl sp st ft⊢
 cases e1:q022 j s with
 |false=>rw [e1] at fl;simp [St.enter,q000,subs,q001,fl]
 |true=>
  rw [e1] at fl
  cases e2:B.contains c.to with
  |false=>rw [e2] at hi;simp [St.enter,q000,subs,q001,fl,br,hi]
  |true=>
   rw [e2] at hi
   cases M with
   |false=>simp [St.enter,q000,subs,q001,fl,br,hi,sp,my]
   |true=>
    cases e4:setF j s c c.to with
    |false=>rw [e4] at st;simp [St.enter,q000,subs,q001,fl,br,hi,sp,my,st]
    |true=>
     rw [e4] at st
     cases F<;>simp [St.enter,q000,subs,q001,fl,br,hi,sp,my,st,ft]
include w c1 c2 c3 in
theorem q0nz (hf: ∀x∈j.items,fairI x) (H:Heap):clD EE (.p (.fn 93)) [vJob j,vStt s,vColm c] H=some (vI (q0b2 j s c),none):=by
 rw [q002 _ _ _ _ _ _ (noP _) fn93]
 have st:=fun H=>q0ie j w s c c2 c3 s.at_ H
 have fc:=fun H=>q0i7 j w.w hf s c c1 c2 c3 H
 unfold q0b2
 generalize q02r j s c=F at*
 simp only [vJob,vGeom,cGeom,List.cons_append,List.nil_append] at st fc⊢
 by_cases n0:c.notes=[]
 ·have n1: ¬0<c.notes.length:=by rw [n0];simp
  have n0:=eq_true n0
  by_cases t0:c.top=[]
  ·have t1:c.top.length=0:=by rw [t0];rfl
   have t1:=eq_true t1
   have t0:=eq_true t0
   simp [St.enter,q000,subs,q001,n0,n1,t0,t1]
  ·have t1: ¬c.top.length=0:=fun h=>t0 (List.eq_nil_of_length_eq_zero h)
   by_cases t2:8<c.top.length
   ·have t3:(8:Int)<c.top.length:=by omega
    simp [St.enter,q000,subs,q001,n0,n1,t0,t1,t2,t3]
   ·have t3: ¬(8:Int)<c.top.length:=by omega
    by_cases b0:c.bot=[]
    ·have b1: ¬0<c.bot.length:=by rw [b0];simp
     have b0:=eq_true b0
     cases e:setF j s c s.at_ with
     |false=>rw [e] at st;simp [St.enter,q000,subs,q001,n0,n1,t0,t1,t2,t3,b0,b1,st]
     |true=>
      rw [e] at st
      obtain ⟨f1,f2,f3,f4,ov,f6⟩:=F
      cases ov<;>simp [St.enter,q000,subs,q001,fldvV,n0,n1,t0,t1,t2,t3,b0,b1,st,fc]
    ·have b1:0<c.bot.length:=List.length_pos_iff.2 b0
     simp [St.enter,q000,subs,q001,n0,n1,t0,t1,t2,t3,b0,b1]
 ·have n1:0<c.notes.length:=List.length_pos_iff.2 n0
  simp [St.enter,q000,subs,q001,n0,n1]
include w in
theorem q0r3 (H:Heap):clD EE (.p (.fn 94)) [vJob j,vStt s,vColm c] H=some (vI (noteE j s c),none):=by
 rw [q002 _ _ _ _ _ _ (noP _) fn94]
 have sp:=fun H=>q06o j w.w s s.at_ H
 have my:=fun H=>q0i8 j.notes (q02h (spotS j s s.at_)) (q09f j w s _) c.notes H
 unfold noteE
 generalize spotS j s s.at_=q at*
 unfold q02h at*
 generalize mayPc j.notes ⟨q.note,q.line,q.begun,true⟩ c.notes=M at*
 simp only [vJob,vGeom,cGeom,List.cons_append,List.nil_append] at sp⊢
 by_cases n0:c.notes=[]
 ·have n1:c.notes.length=0:=by rw [n0];rfl
  have n1:=eq_true n1
  have n0:=eq_true n0
  simp [St.enter,q000,subs,q001,sp,n0,n1]
 ·have n1: ¬c.notes.length=0:=fun h=>n0 (List.eq_nil_of_length_eq_zero h)
  cases M with
  |false=>simp [St.enter,q000,subs,q001,sp,my,n0,n1]
  |true=>
   by_cases t0:c.top=[]
   ·have t1: ¬0<c.top.length:=by rw [t0];simp
    have t0:=eq_true t0
    by_cases b0:c.bot=[]
    ·have b1: ¬0<c.bot.length:=by rw [b0];simp
     have b0:=eq_true b0
     simp [St.enter,q000,subs,q001,sp,my,n0,n1,t0,t1,b0,b1]
    ·have b1:0<c.bot.length:=List.length_pos_iff.2 b0
     simp [St.enter,q000,subs,q001,sp,my,n0,n1,t0,t1,b0,b1]
   ·have t1:0<c.top.length:=List.length_pos_iff.2 t0
    simp [St.enter,q000,subs,q001,sp,my,n0,n1,t0,t1]
include w c1 c2 c3 in
theorem q0o0 (hf: ∀x∈j.items,fairI x) (H:Heap):clD EE (.p (.fn 34)) [vJob j,vStt s,vColm c] H=some (vI (q06c j s c),none):=by
 rw [q002 _ _ _ _ _ _ (noP _) fn34]
 have ri:=fun H=>q025 j w.w s H
 have dn:=fun H=>q09h j w s H
 have k1:=fun H=>q0r2 j w s c c2 c3 H
 have k2:=fun H=>q0nz j w s c c1 c2 c3 hf H
 have k3:=fun H=>q0r3 j w s c H
 have fc:=fun H=>q0i7 j w.w hf s c c1 c2 c3 H
 have sm:=fun H=>q0rr c ((q04r j s).getD q014) c1 c2 c3 H
 unfold q06c endE
 simp only [vJob,vGeom,cGeom,List.cons_append,List.nil_append] at ri dn k1 k2 k3 fc⊢
 cases o:openS j s with
 |false=>
  unfold openS at o
  cases a1:q01g j s with
  |false=>rw [a1] at ri;simp [St.enter,q000,subs,q001,ri]
  |true=>
   rw [a1] at ri o
   have a2:doneS j s=true:=by simpa using o
   rw [a2] at dn
   simp [St.enter,q000,subs,q001,ri,dn]
 |true=>
  obtain ⟨r,d⟩:=(q04a j s).1 o
  have h1:=r.at1
  have ls:=fun H=>q0tt j w s o H
  rw [(q02k j s).2 r] at ri
  rw [d] at dn
  unfold kindE
  simp only [vJob,vGeom,cGeom,List.cons_append,List.nil_append] at ls
  generalize q02r j s c=F at*
  generalize textE j s c=E1 at*
  generalize q0b2 j s c=E2 at*
  generalize noteE j s c=E3 at*
  generalize hL:q04r j s=L at*
  obtain ⟨f1,f2,f3,f4,ov,f6⟩:=F
  by_cases a1:c.k<1
  ·simp [St.enter,q000,subs,q001,ri,dn,a1]
  by_cases a2:3<c.k
  ·simp [St.enter,q000,subs,q001,ri,dn,a1,a2]
  by_cases a3:c.frm=s.at_
  ·have a3:=eq_true a3
   have kk:c.k=1∨c.k=2∨c.k=3:=by omega
   rcases kk with k|k|k
   ·have m1:=eq_true k
    have m2:(c.k=2)=False:=eq_false (by omega)
    have m3:(c.k=3)=False:=eq_false (by omega)
    by_cases a4:s.at_=j.items.length
    ·have a4:=eq_true a4
     simp [St.enter,q000,subs,q001,ri,dn,a1,a2,a3,a4,m1,m2,m3]
    ·have a4:=eq_false a4
     by_cases z:E1=0
     ·subst z
      cases ov with
      |false=>simp [St.enter,q000,subs,q001,fldvV,ri,dn,a1,a2,a3,a4,m1,m2,m3,k1,fc]
      |true=>
       cases q:sameC c (L.getD q014)<;>rw [q] at sm<;>simp [St.enter,q000,subs,q001,fldvV,ri,dn,a1,a2,a3,a4,m1,m2,m3,k1,fc,ls,sm]
     ·simp [St.enter,q000,subs,q001,fldvV,ri,dn,a1,a2,a3,a4,m1,m2,m3,k1,z]
   ·have m1:(c.k=1)=False:=eq_false (by omega)
    have m2:=eq_true k
    have m3:(c.k=3)=False:=eq_false (by omega)
    by_cases a4:c.to=s.at_
    ·have a4:=eq_true a4
     by_cases z:E2=0
     ·subst z
      cases ov with
      |false=>simp [St.enter,q000,subs,q001,fldvV,ri,dn,a1,a2,a3,a4,m1,m2,m3,k2,fc]
      |true=>
       cases q:sameC c (L.getD q014)<;>rw [q] at sm<;>simp [St.enter,q000,subs,q001,fldvV,ri,dn,a1,a2,a3,a4,m1,m2,m3,k2,fc,ls,sm]
     ·simp [St.enter,q000,subs,q001,fldvV,ri,dn,a1,a2,a3,a4,m1,m2,m3,k2,z]
    ·have a4:=eq_false a4
     simp [St.enter,q000,subs,q001,ri,dn,a1,a2,a3,a4,m1,m2,m3]
   ·have m1:(c.k=1)=False:=eq_false (by omega)
    have m2:(c.k=2)=False:=eq_false (by omega)
    have m3:=eq_true k
    by_cases a4:c.to=s.at_
    ·have a4:=eq_true a4
     by_cases a5:s.at_=j.items.length
     ·have a6: ¬s.at_<j.items.length:=by omega
      have a5:=eq_true a5
      by_cases z:E3=0
      ·subst z
       cases ov with
       |false=>simp [St.enter,q000,subs,q001,fldvV,ri,dn,a1,a2,a3,a4,a5,a6,m1,m2,m3,k3,fc]
       |true=>
        cases q:sameC c (L.getD q014)<;>rw [q] at sm<;>simp [St.enter,q000,subs,q001,fldvV,ri,dn,a1,a2,a3,a4,a5,a6,m1,m2,m3,k3,fc,ls,sm]
      ·simp [St.enter,q000,subs,q001,fldvV,ri,dn,a1,a2,a3,a4,a5,a6,m1,m2,m3,k3,z]
     ·have a6:s.at_<j.items.length:=by omega
      have a5:=eq_false a5
      simp [St.enter,q000,subs,q001,ri,dn,a1,a2,a3,a4,a5,a6,m1,m2,m3]
    ·have a4:=eq_false a4
     simp [St.enter,q000,subs,q001,ri,dn,a1,a2,a3,a4,m1,m2,m3]
  ·simp [St.enter,q000,subs,q001,ri,dn,a1,a2,a3]
end
theorem q0xj (s:Stt) (H:Heap):clD EE (.p (.fn 89)) [.p .nilp,vStt s] H=some (vB false,none):=by
 rw [q002 _ _ _ _ _ _ (noP _) fn89]
 simp [St.enter,q000,subs,q001]
theorem q0xk (s:Stt) (c:Colm) (H:Heap):clD EE (.p (.fn 33)) [.p .nilp,vStt s,vColm c] H=some (vI 19,none):=by
 rw [q002 _ _ _ _ _ _ (noP _) fn33]
 have ru:=fun H=>q0ic H
 have m0:mapAt (H++[.map q03u]) H.length=some q03u:=by simp [mapAt]
 have lk:=q0u0 c.k
 have n1:=fun H=>q0xj s H
 by_cases k:c.k=1∨c.k=2∨c.k=3
 ·simp only [if_pos k,decide_eq_true k] at lk
  simp [St.enter,q000,subs,q001,ru,m0,lk,n1]
 ·simp only [if_neg k,decide_eq_false k] at lk
  simp [St.enter,q000,subs,q001,ru,m0,lk]
theorem legalTells_ev (j:Job) (hj:jobI j) (s:Stt) (c:Colm):clD EE (.p (.fn 7)) [vJob j,vStt s,vColm c] []=some (.p (.bool true),none):=by
 rw [q002 _ _ _ _ _ _ (noP _) fn7]
 have l1:=fun H=>q0yo j H
 have aw:=fun H=>q0Xq H
 simp only [vJob,cGeom,List.cons_append,List.nil_append] at l1
 cases b1:q0bl j with
 |true=>simp [St.enter,q000,subs,q001,l1,b1,aw]
 |false=>
  by_cases c1:(50:Int)<c.notes.length
  ·simp [St.enter,q000,subs,q001,l1,b1,c1,aw]
  by_cases c2:(50:Int)<c.top.length
  ·simp [St.enter,q000,subs,q001,l1,b1,c1,c2,aw]
  by_cases c3:(50:Int)<c.bot.length
  ·simp [St.enter,q000,subs,q001,l1,b1,c1,c2,c3,aw]
  have sm:=q0ym b1
  have ok:=q0mo hj sm
  have sms:=q0r9 sm
  have okS:=q0mo (q0vm hj) sms
  have hw:=q0Cs j ok okS (fun n hn=>by have:=sms.each n hn;omega)
  have hx:=fun H=>q0vl j ok H
  by_cases h:(q02q j).1=0
  ·have r:=(q0it j).1 h
   have w:=wf_of r sms
   have hf:=q0iz r
   have k1:=fun H=>q0a3 (snapG j) w hf s c (by omega) (by omega) (by omega) H
   have k2:=fun H=>q0jn (snapG j) w hf s c (by omega) (by omega) (by omega) H
   have k3:=fun H=>q0o0 (snapG j) w s c (by omega) (by omega) (by omega) hf H
   simp only [if_pos h] at hw hx
   generalize q06c (snapG j) s c=E at*
   generalize snapG j=J at*
   simp only [vJob,cJobW,cGeom,List.cons_append,List.nil_append] at hw hx k3
   simp [St.enter,q000,subs,q001,fldvV,solN,sd,l1,b1,c1,c2,c3,aw,hw,hx,k1,k2,k3]
  ·have k1:=fun H=>q0xk s c H
   simp only [if_neg h] at hw hx
   simp only [vJob,cGeom,List.cons_append,List.nil_append] at hw hx
   simp [St.enter,q000,subs,q001,fldvV,solN,sd,l1,b1,c1,c2,c3,aw,hw,hx,k1]
end Go.EnvOf
