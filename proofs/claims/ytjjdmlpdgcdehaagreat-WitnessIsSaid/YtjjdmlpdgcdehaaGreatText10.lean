/- The program's functions and the document's, evaluated. -/
import Derived.Test.YtjjdmlpdgcdehaaGreatText9
import Derived.Test.YtjjdmlpdgcdehaaGreatText8
import Derived.Test.YtjjdmlpdgcdehaaGreatText7
import Derived.Test.YtjjdmlpdgcdehaaGreatText3
set_option linter.unusedSimpArgs false
set_option linter.unusedVariables false
namespace Go.EnvOf
open Go Go.Eng
set_option maxRecDepth 100000
abbrev cAsk (j:Job) (s:Stt) (c:Colm):List V:=vW j::(cStt s++cColm c++cJobW j)
abbrev vAsk (j:Job) (s:Stt) (c:Colm):V:= .agg (cAsk j s c)
section
variable (j:Job) (w:wfJ j) (s:Stt) (c:Colm)
theorem q0ia (H:Heap):clD EE (.p (.fn 179)) [vAsk j s c] H=some (vB (decide (s.at_=j.items.length)),none):=by
 rw [q002 _ _ _ _ _ _ (noP _) fn179]
 have wl:=fun H=>q07e j H
 have ll:=fun H=>q021 j.items H
 simp only [vAsk,cAsk,cStt,cColm,cJobW,cGeom,List.cons_append,List.nil_append]
 simp [St.enter,q000,subs,q001,wl,ll]
theorem q0ib (H:Heap):clD EE (.p (.fn 190)) [vAsk j s c] H=some (vB (decide (c.to≠s.at_)),none):=by
 rw [q002 _ _ _ _ _ _ (noP _) fn190]
 simp only [vAsk,cAsk,cStt,cColm,cJobW,cGeom,List.cons_append,List.nil_append]
 simp [St.enter,q000,subs,q001]
include w in
theorem q0tw (H:Heap):clD EE (.p (.fn 180)) [vAsk j s c] H=some (vB (!q022 j s),none):=by
 rw [q002 _ _ _ _ _ _ (noP _) fn180]
 have fl:=fun H=>q0b4 j w.w s H
 simp only [vAsk,cAsk,cStt,cColm,cJobW,cGeom,List.cons_append,List.nil_append]
 simp [St.enter,q000,subs,q001,fl]
include w in
theorem q0tx (H:Heap):clD EE (.p (.fn 182)) [vAsk j s c] H=some (vB (!(brkF j.items s.at_).contains c.to),none):=by
 rw [q002 _ _ _ _ _ _ (noP _) fn182]
 have wl:=fun H=>q07e j H
 have br:=fun H=>q0vh j.items w.w.n1 s.at_ H
 have hl:(brkF j.items s.at_).length≤1000000:=by
  unfold brkF brkN
  rw [List.length_map]
  have:=List.length_filter_le (fun (m:Nat)=>decide ((m:Int)≤q010 j.items s.at_)&&mayN j.items m) (List.range' (pos s.at_+1) (j.items.length-pos s.at_))
  rw [List.length_range'] at this
  have:=w.w.n1
  omega
 have hi:=fun H=>q0tv (brkF j.items s.at_) c.to hl H
 generalize brkF j.items s.at_=B at*
 simp only [vAsk,cAsk,cStt,cColm,cJobW,cGeom,List.cons_append,List.nil_append]
 simp [St.enter,q000,subs,q001,wl,br,hi]
include w in
theorem q0Bh (H:Heap):clD EE (.p (.fn 185)) [vAsk j s c] H=some (vB (!mayPc j.notes (spotS j s c.to) c.notes),none):=by
 rw [q002 _ _ _ _ _ _ (noP _) fn185]
 have sp:=fun H=>q07t j w.w s c.to H
 have my:=fun H=>q0d1 j.notes (spotS j s c.to) (q08n j w s _) c.notes H
 generalize spotS j s c.to=q at*
 simp only [vAsk,cAsk,cStt,cColm,cJobW,cGeom,List.cons_append,List.nil_append]
 simp [St.enter,q000,subs,q001,sp,my]
include w in
theorem q0p9 (c2:c.top.length≤1000000) (c3:c.bot.length≤1000000) (to:Int) (H:Heap):clD EE (.p (.fn 188)) [vAsk j s c,vI to] H=some (vB (setF j s c to),none):=by
 rw [q002 _ _ _ _ _ _ (noP _) fn188]
 have o1:=fun H=>of_ev j.floats c.top H w.w.n3 c2
 have o2:=fun H=>of_ev j.floats c.bot H w.w.n3 c3
 have a1:=fun x y H=>q0Bm x y H
 have n1:=fun x H=>q0pc j.floats x c.top H w.w.n3 c2
 have n2:=fun x H=>q0pc j.floats x c.bot H w.w.n3 c3
 have mp:=fun H=>q0gw j H
 have hd:=fun H=>q09v j.items j.floats to H
 change∀H,clD EE _ _ H=some (vC (q01i j to),none) at hd
 have re:=fun H=>in_ev (q0b1 j s c) (q01i j to) H
 unfold setF
 unfold q0b1 at*
 generalize ofL j.floats c.top=x1 at*
 generalize ofL j.floats c.bot=x2 at*
 generalize hm:addC s.h x1=m1 at*
 generalize hn:addC m1 x2=m2 at*
 simp only [vAsk,cAsk,cStt,cColm,cJobW,cGeom,List.cons_append,List.nil_append]
 cases e1:nextQ j.floats s.h c.top with
 |false=>
  have n1':=fun H=>n1 s.h H
  rw [e1] at n1'
  simp [St.enter,q000,subs,q001,o1,o2,a1,hm,hn,n1']
 |true=>
  have n1':=fun H=>n1 s.h H
  rw [e1] at n1'
  cases e2:nextQ j.floats m1 c.bot with
  |false=>
   have n2':=fun H=>n2 m1 H
   rw [e2] at n2'
   simp [St.enter,q000,subs,q001,o1,o2,a1,hm,hn,n1',n2']
  |true=>
   have n2':=fun H=>n2 m1 H
   rw [e2] at n2'
   simp [St.enter,q000,subs,q001,o1,o2,a1,hm,hn,n1',n2',mp,hd,re]
include w in
theorem q0xe (c2:c.top.length≤1000000) (c3:c.bot.length≤1000000) (H:Heap):clD EE (.p (.fn 187)) [vAsk j s c] H=some (vB (!(setF j s c c.to&&fitsC j c)),none):=by
 rw [q002 _ _ _ _ _ _ (noP _) fn187]
 have st:=fun H=>q0p9 j w s c c2 c3 c.to H
 have ft:=fun H=>q0xt j.g j.floats (c.top,c.bot) H c2 c3
 unfold fitsC
 simp only [vAsk,cAsk,cStt,cColm,cJobW,vGeom,cGeom,List.cons_append,List.nil_append] at st ft⊢
 generalize (fitT j.g j.floats c.top&&fitB j.g j.floats c.bot)=F at*
 cases e:setF j s c c.to with
 |false=>rw [e] at st;simp [St.enter,q000,subs,q001,st]
 |true=>rw [e] at st;simp [St.enter,q000,subs,q001,st,ft]
include w in
theorem q0lv (hf: ∀x∈j.items,fairI x) (c1:c.notes.length≤1000000) (c2:c.top.length≤1000000) (c3:c.bot.length≤1000000) (H:Heap):clD EE (.p (.fn 90)) [vAsk j s c] H=some (vB (q02r j s c).over,none):=by
 rw [q002 _ _ _ _ _ _ (noP _) fn90]
 have fc:=fun H=>q0z3 j w.w hf s c c1 c2 c3 H
 generalize q02r j s c=F at*
 simp only [vAsk,cAsk,cStt,cColm,cJobW,cGeom,List.cons_append,List.nil_append]
 simp [St.enter,q000,subs,q001,fldvV,fc]
theorem q0xf (H:Heap):clD EE (.p (.fn 178)) [vAsk j s c] H=some (vB (decide (c.notes≠[])),none):=by
 rw [q002 _ _ _ _ _ _ (noP _) fn178]
 have e:(0<(c.notes.length:Int))=(c.notes≠[]):=by simp [List.length_pos_iff]
 simp only [vAsk,cAsk,cStt,cColm,cJobW,cGeom,List.cons_append,List.nil_append]
 cases hn:c.notes<;>simp [St.enter,q000,subs,q001,hn]
include w in
theorem q0ty (H:Heap):clD EE (.p (.fn 194)) [vAsk j s c] H=some (vB (mayPc j.notes (q02h (spotS j s s.at_)) c.notes),none):=by
 rw [q002 _ _ _ _ _ _ (noP _) fn194]
 have sp:=fun H=>q07t j w.w s s.at_ H
 have my:=fun H=>q0d1 j.notes (q02h (spotS j s s.at_)) (q09f j w s _) c.notes H
 generalize spotS j s s.at_=q at*
 unfold q02h at*
 simp only [vAsk,cAsk,cStt,cColm,cJobW,cGeom,List.cons_append,List.nil_append]
 simp [St.enter,q000,subs,q001,sp,my]
include w in
theorem q0tz (hf: ∀x∈j.items,fairI x) (c1:c.notes.length≤1000000) (c2:c.top.length≤1000000) (c3:c.bot.length≤1000000) (H:Heap):
  clD EE (.p (.fn 191)) [vAsk j s c] H=some (vB (decide (c.top=[]∨8<c.top.length∨c.bot≠[]∨setF j s c s.at_=false∨(q02r j s c).over=true)),none):=by
 rw [q002 _ _ _ _ _ _ (noP _) fn191]
 have st:=fun H=>q0p9 j w s c c2 c3 s.at_ H
 have ov:=fun H=>q0lv j w s c hf c1 c2 c3 H
 simp only [vAsk,cAsk,cStt,cColm,cJobW,vGeom,cGeom,List.cons_append,List.nil_append] at st ov⊢
 generalize (q02r j s c).over=F at*
 by_cases t0:c.top=[]
 ·simp only [t0] at*
  simp [St.enter,q000,subs,q001]
 ·have t1: ¬(c.top.length:Int)=0:=by
   have:=List.length_pos_iff.2 t0;omega
  have t1':=eq_false t0
  by_cases t2:8<c.top.length
  ·have t3:(8:Int)<c.top.length:=by omega
   simp [St.enter,q000,subs,q001,t1,t3,t0,t2]
  ·have t3: ¬(8:Int)<c.top.length:=by omega
   by_cases b0:c.bot=[]
   ·have b1: ¬0<c.bot.length:=by rw [b0];simp
    have b0:=eq_true b0
    cases e:setF j s c s.at_ with
    |false=>rw [e] at st;simp [St.enter,q000,subs,q001,t1,t3,t0,t2,b1,b0,st]
    |true=>
     rw [e] at st
     simp [St.enter,q000,subs,q001,t1,t3,t0,t2,b1,b0,st,ov]
   ·have b1:0<c.bot.length:=List.length_pos_iff.2 b0
    simp [St.enter,q000,subs,q001,t1,t3,t0,t2,b1,b0]
theorem q0Bi (H:Heap):clD EE (.p (.fn 192)) [vAsk j s c] H=some (vB (decide (c.to≠s.at_∨s.at_≠j.items.length)),none):=by
 rw [q002 _ _ _ _ _ _ (noP _) fn192]
 have m:=fun H=>q0ib j s c H
 have e:=fun H=>q0ia j s c H
 simp only [vAsk,cAsk,cStt,cColm,cJobW,vGeom,cGeom,List.cons_append,List.nil_append] at m e⊢
 by_cases h1:c.to=s.at_
 ·have h1:=eq_true h1
  by_cases h2:s.at_=j.items.length
  ·have h2:=eq_true h2
   simp [St.enter,q000,subs,q001,m,e,h1,h2]
  ·simp [St.enter,q000,subs,q001,m,e,h1,h2]
 ·simp [St.enter,q000,subs,q001,m,e,h1]
include w in
theorem q0xg (H:Heap):clD EE (.p (.fn 193)) [vAsk j s c] H=some (vB (decide (c.notes=[]∨mayPc j.notes (q02h (spotS j s s.at_)) c.notes=false)),none):=by
 rw [q002 _ _ _ _ _ _ (noP _) fn193]
 have l:=fun H=>q0ty j w s c H
 simp only [vAsk,cAsk,cStt,cColm,cJobW,vGeom,cGeom,List.cons_append,List.nil_append] at l⊢
 by_cases n0:c.notes=[]
 ·simp only [n0] at*
  simp [St.enter,q000,subs,q001]
 ·have n1: ¬(c.notes.length:Int)=0:=by
   have:=List.length_pos_iff.2 n0;omega
  cases e:mayPc j.notes (q02h (spotS j s s.at_)) c.notes<;>rw [e] at l<;>simp [St.enter,q000,subs,q001,n0,n1,l]
theorem q0xh (c2:c.top.length≤1000000) (c3:c.bot.length≤1000000) (H:Heap):clD EE (.p (.fn 195)) [vAsk j s c] H=some (vB (decide (c.top≠[]∨c.bot≠[])),none):=by
 rw [q002 _ _ _ _ _ _ (noP _) fn195]
 have w1:IntKind.i64.wrap ((c.top.length:Int)+c.bot.length)=c.top.length+c.bot.length:=w64 (by omega) (by omega)
 have e:decide (0<(c.top.length:Int)+c.bot.length)=decide (c.top≠[]∨c.bot≠[]):=by
  congr 1
  rw [eq_iff_iff]
  constructor
  ·intro h
   by_cases a:c.top=[]
   ·right;intro b;rw [a,b] at h;simp at h
   ·exact .inl a
  ·rintro (h|h)<;>have:=List.length_pos_iff.2 h<;>omega
 simp only [vAsk,cAsk,cStt,cColm,cJobW,vGeom,cGeom,List.cons_append,List.nil_append]
 rw [←e]
 simp [St.enter,q000,subs,q001,w1]
end
def ruE (x:Int×Nat):List PV:=[.int .i64 x.1,.fn x.2]
def rules1:List (Int×Nat):=[(19,179),(18,180),(14,182),(15,185),(16,187)]
def rules2:List (Int×Nat):=[(19,190),(15,178),(16,191)]
def rules3:List (Int×Nat):=[(19,192),(15,193),(16,195)]
def q03u:List (V×V):=[(vI 1,.p (.sl (rules1.map ruE))),(vI 2,.p (.sl (rules2.map ruE))),(vI 3,.p (.sl (rules3.map ruE)))]
theorem q0ic (H:Heap):clD EE (.p (.fn 88)) [] H=some (.map H.length,some (H++[.map q03u],[])):=by
 rw [q002 _ _ _ _ _ _ (noP _) fn88]
 have m0: ∀es,mapAt (H++[.map es]) H.length=some es:=fun es=>by simp [mapAt]
 simp [St.enter,q000,subs,q001,m0,stmE,stmR,setM,findM,eqKey,keyB,q03u,rules1,rules2,rules3,ruE]
def q03j (k:Int):List (Int×Nat):=if k=1 then rules1 else if k=2 then rules2 else if k=3 then rules3 else []
theorem q0u0 (k:Int):lkmK .nils true (findM none (vI k) q03u 0)=some (.tup [if k=1∨k=2∨k=3 then .p (.sl ((q03j k).map ruE)) else .nils,vB (decide (k=1∨k=2∨k=3))]):=by
 unfold q03j
 by_cases k1:k=1
 ·simp [q03u,findM,eqKey,lkmK,k1]
 ·by_cases k2:k=2
  ·simp [q03u,findM,eqKey,lkmK,k2]
  ·by_cases k3:k=3
   ·simp [q03u,findM,eqKey,lkmK,k3]
   ·simp [q03u,findM,eqKey,lkmK,k1,k2,k3]
def q028:List (Int×Bool)→Int
 |[]=>0
 |x::r=>if x.2=true then x.1 else q028 r
def ckLoc (j:Job) (s:Stt) (c:Colm):List (Nat×List V):=[(4,cStt s),(5,cColm c),(9,cAsk j s c)]
def cqE (j:Job) (s:Stt) (c:Colm) (L:List (Int×Nat)) (H:Heap) (B:Nat) (i:Nat):St:=⟨[(0,vW j),(4,.lptr 4 0),(5,.lptr 5 0),(9,.lptr 9 0),(47,.p (.sl (L.map ruE))),(48,vI L.length),(49,vI i)],ckLoc j s c,H,B,[]⟩
def cqX (j:Job) (s:Stt) (c:Colm) (L:List (Int×Nat)) (H:Heap) (B:Nat):Ex×St:=(.exit 0,⟨[(0,vW j),(4,.lptr 4 0),(5,.lptr 5 0),(9,.lptr 9 0),(47,.p (.sl (L.map ruE))),(48,vI L.length),(49,vI L.length),(50,vB false)],ckLoc j s c,H,B,[]⟩)
def cqS (H:Heap) (B:Nat) (f:Nat→Bool) (_:Unit) (_:Nat) (x:Int×Nat):Unit⊕(Ex×St):=if f x.2=true then .inr (.ret,⟨[(6,vI x.1)],[],H,B,[]⟩) else .inl ()
theorem q0u1 (H:Heap) (B:Nat) (f:Nat→Bool) (fin:Ex×St): ∀(L:List (Int×Nat)) (i:Nat),(∀x∈L,x.1≠0)→rng (cqS H B f) (fun _=>fin) () i L=if q028 (L.map fun x=>(x.1,f x.2))=0 then fin else (.ret,⟨[(6,vI (q028 (L.map fun x=>(x.1,f x.2))))],[],H,B,[]⟩)
 |[],_,_=>by simp [rng,q028]
 |x::r,i,h=>by
  simp only [rng,cqS,List.map_cons,q028]
  by_cases q:f x.2=true
  ·rw [if_pos q];simp only [if_pos q];rw [if_neg (h x (by simp))]
  ·rw [if_neg q];simp only [if_neg q];exact q0u1 H B f fin r (i+1) fun y hy=>h y (by simp [hy])
theorem cq_lp (j:Job) (s:Stt) (c:Colm) (L:List (Int×Nat)) (hn:L.length≤1000) (hz: ∀x∈L,x.1≠0) (f:Nat→Bool) (H:Heap) (B:Nat) (hL: ∀x∈L,clD EE (.p (.fn x.2)) [vAsk j s c] H=some (vB (f x.2),none)):
  evD EE q0Vi (cqE j s c L H B 0)=some (if q028 (L.map fun x=>(x.1,f x.2))=0 then cqX j s c L H B else (.ret,⟨[(6,vI (q028 (L.map fun x=>(x.1,f x.2))))],[],H,B,[]⟩)):=by
 rw [←q0u1 H B f (cqX j s c L H B) L 0 hz]
 unfold q0Vi
 refine q013 L (fun (_:Unit) i=>cqE j s c L H B i) (fun _ _=>True) (cqS H B f) (fun _=>cqX j s c L H B) (fun _ _=>rfl) ?_ ?_ () 0 trivial (Nat.zero_le _)
 ·rintro _ i x-hx
  have hlt:=(List.getElem?_eq_some_iff.1 hx).1
  have w1:IntKind.i64.wrap ((i:Int)+1)=((i+1:Nat):Int):=w64 (by omega) (by omega)
  have hix:=fun H k=>q00c H ruE (k:=k) (s:=2) hx rfl
  simp only [ruE] at hix
  have h1:=hL x (List.mem_of_getElem? hx)
  simp only [vAsk,cAsk,cStt,cColm,cJobW,cGeom,List.cons_append,List.nil_append] at h1
  unfold cqS
  cases q:f x.2 with
  |true=>
   rw [q] at h1
   simp [cqE,ckLoc,hlt,hix,subs,q001,h1]
  |false=>
   rw [q] at h1
   simp [cqE,ckLoc,hlt,hix,subs,q001,h1,w1]
 ·rintro _-
  simp [cqE,cqX,ckLoc]
section
variable (j:Job) (w:wfJ j) (hf: ∀x∈j.items,fairI x) (s:Stt) (c:Colm) (c1:c.notes.length≤1000000) (c2:c.top.length≤1000000) (c3:c.bot.length≤1000000)
def ruleB (n:Nat):Bool:=
 if n=179 then decide (s.at_=j.items.length) else if n=180 then !q022 j s else if n=182 then !(brkF j.items s.at_).contains c.to
 else if n=185 then !mayPc j.notes (spotS j s c.to) c.notes else if n=187 then !(setF j s c c.to&&fitsC j c)
 else if n=190 then decide (c.to≠s.at_) else if n=178 then decide (c.notes≠[])
 else if n=191 then decide (c.top=[]∨8<c.top.length∨c.bot≠[]∨setF j s c s.at_=false∨(q02r j s c).over=true)
 else if n=192 then decide (c.to≠s.at_∨s.at_≠j.items.length)
 else if n=193 then decide (c.notes=[]∨mayPc j.notes (q02h (spotS j s s.at_)) c.notes=false) else decide (c.top≠[]∨c.bot≠[])
include w hf c1 c2 c3 in
theorem q0xi (k:Int) (H:Heap): ∀x∈q03j k,clD EE (.p (.fn x.2)) [vAsk j s c] H=some (vB (ruleB j s c x.2),none):=by
 have e1:=q0ia j s c H
 have e2:=q0tw j w s c H
 have e3:=q0tx j w s c H
 have e4:=q0Bh j w s c H
 have e5:=q0xe j w s c c2 c3 H
 have e6:=q0ib j s c H
 have e7:=q0xf j s c H
 have e8:=q0tz j w s c hf c1 c2 c3 H
 have e9:=q0Bi j s c H
 have e10:=q0xg j w s c H
 have e11:=q0xh j s c c2 c3 H
 intro x hx
 unfold q03j at hx
 split at hx
 ·simp only [rules1,List.mem_cons,List.not_mem_nil,or_false] at hx
  rcases hx with rfl|rfl|rfl|rfl|rfl
  ·exact e1
  ·exact e2
  ·exact e3
  ·exact e4
  ·exact e5
 split at hx
 ·simp only [rules2,List.mem_cons,List.not_mem_nil,or_false] at hx
  rcases hx with rfl|rfl|rfl
  ·exact e6
  ·exact e7
  ·exact e8
 split at hx
 ·simp only [rules3,List.mem_cons,List.not_mem_nil,or_false] at hx
  rcases hx with rfl|rfl|rfl
  ·exact e9
  ·exact e10
  ·exact e11
 ·cases hx
theorem q0id (k:Int):(q03j k).length≤1000∧ ∀x∈q03j k,x.1≠0:=by
 unfold q03j
 split
 ·simp [rules1]
 split
 ·simp [rules2]
 split
 ·simp [rules3]
 ·simp
def ruleE (k:Int):Int:=q028 ((q03j k).map fun x=>(x.1,ruleB j s c x.2))
theorem q0lw (h: ¬(¬(c.k=1∨c.k=2∨c.k=3)∨openS j s=false∨c.frm≠s.at_)):(endE j s c=true∧ruleE j s c c.k=19)∨(endE j s c=false∧ruleE j s c c.k=kindE j s c):=by
 have hk:c.k=1∨c.k=2∨c.k=3:=Decidable.not_not.1 fun q=>h (.inl q)
 have ho:openS j s=true:=by
  cases q:openS j s with
  |true=>rfl
  |false=>exact absurd (.inr (.inl q)) h
 have hf:c.frm=s.at_:=Decidable.not_not.1 fun q=>h (.inr (.inr q))
 unfold endE
 simp only [decide_eq_true_eq,decide_eq_false_iff_not]
 unfold ruleE q03j kindE
 rcases hk with k|k|k
 ·rw [if_pos k,if_pos k]
  by_cases e:s.at_=j.items.length
  ·exact .inl ⟨.inr (.inr (.inr (.inr (.inl ⟨k,e⟩)))),by simp [rules1,q028,ruleB,e]⟩
  ·refine .inr ⟨by simp [ho,k,hf,e],?_⟩
   unfold textE
   cases a1:q022 j s<;>cases a2:(brkF j.items s.at_).contains c.to<;>cases a3:mayPc j.notes (spotS j s c.to) c.notes<;>cases a4:setF j s c c.to<;>cases a5:fitsC j c<;>
    simp only [rules1,List.map_cons,List.map_nil,q028,ruleB,a1,a2,a3,a4,a5]<;>simp [e]
 ·rw [if_neg (by omega),if_pos k,if_neg (by omega),if_pos k]
  by_cases e:c.to=s.at_
  ·refine .inr ⟨by simp [ho,k,hf,e],?_⟩
   unfold q0b2
   by_cases a1:c.notes=[]
   ·by_cases a2:c.top=[]∨8<c.top.length∨c.bot≠[]∨setF j s c s.at_=false∨(q02r j s c).over=true
    ·rw [if_neg (by simpa using a1),if_pos a2]
     have a2:=eq_true a2
     simp only [rules2,List.map_cons,List.map_nil,q028,ruleB,a2,a1,e]
     simp
    ·rw [if_neg (by simpa using a1),if_neg a2]
     have a2:=eq_false a2
     simp only [rules2,List.map_cons,List.map_nil,q028,ruleB,a2,a1,e]
     simp
   ·rw [if_pos a1]
    simp [rules2,q028,ruleB,a1,e]
  ·exact .inl ⟨.inr (.inr (.inr (.inr (.inr (.inl ⟨by omega,e⟩))))),by simp [rules2,q028,ruleB,e]⟩
 ·rw [if_neg (by omega),if_neg (by omega),if_pos k,if_neg (by omega),if_neg (by omega)]
  by_cases e:c.to=s.at_∧s.at_=j.items.length
  ·refine .inr ⟨by simp [ho,k,hf,e.1,e.2],?_⟩
   have e1:=eq_true e.1
   have e2:=eq_true e.2
   unfold noteE
   by_cases a1:c.notes=[]∨mayPc j.notes (q02h (spotS j s s.at_)) c.notes=false
   ·rw [if_pos a1]
    have a1:=eq_true a1
    simp only [rules3,List.map_cons,List.map_nil,q028,ruleB,a1,ne_eq,e1,e2]
    simp
   ·rw [if_neg a1]
    have a1:=eq_false a1
    by_cases a2:c.top≠[]∨c.bot≠[]
    ·rw [if_pos a2]
     have a2:=eq_true a2
     simp only [rules3,List.map_cons,List.map_nil,q028,ruleB,a1,a2,e1,e2]
     simp [e1,e2]
    ·rw [if_neg a2]
     have a2:=eq_false a2
     simp only [rules3,List.map_cons,List.map_nil,q028,ruleB,a1,a2,e1,e2]
     simp [e1,e2]
  ·refine .inl ⟨?_,?_⟩
   ·by_cases e1:c.to=s.at_
    ·exact .inr (.inr (.inr (.inr (.inr (.inr ⟨k,fun h=>e ⟨e1,h⟩⟩)))))
    ·exact .inr (.inr (.inr (.inr (.inr (.inl ⟨by omega,e1⟩)))))
   ·have e':(c.to≠s.at_∨s.at_≠j.items.length)=True:=eq_true (by
     by_cases e1:c.to=s.at_
     ·exact .inr fun h=>e ⟨e1,h⟩
     ·exact .inl e1)
    simp only [rules3,List.map_cons,List.map_nil,q028,ruleB,e']
    simp
theorem q0ny:q06c j s c=if¬(c.k=1∨c.k=2∨c.k=3)∨openS j s=false∨c.frm≠s.at_ then 19 else if ruleE j s c c.k≠0 then ruleE j s c c.k
  else if (q02r j s c).over=true∧sameC c ((q04r j s).getD q014)=false then 17 else 0:=by
 by_cases h: ¬(c.k=1∨c.k=2∨c.k=3)∨openS j s=false∨c.frm≠s.at_
 ·rw [if_pos h]
  unfold q06c
  rw [if_pos]
  unfold endE
  rw [decide_eq_true_eq]
  rcases h with h|h|h
  ·by_cases q:c.k<1
   ·exact .inr (.inl q)
   ·exact .inr (.inr (.inl (by omega)))
  ·exact .inl h
  ·exact .inr (.inr (.inr (.inl h)))
 ·rw [if_neg h]
  unfold q06c
  rcases q0lw j s c h with ⟨h1,h2⟩|⟨h1,h2⟩
  ·rw [if_pos h1,h2,if_pos (by omega)]
  ·rw [if_neg (by rw [h1];simp),h2]
include w hf c1 c2 c3 in
theorem q0a3 (H:Heap):clD EE (.p (.fn 33)) [vW j,vStt s,vColm c] H=some (vI (q06c j s c),none):=by
 rw [q002 _ _ _ _ _ _ (noP _) fn33,q0ny]
 have ru:=fun H=>q0ic H
 have m0:mapAt (H++[.map q03u]) H.length=some q03u:=by simp [mapAt]
 have lk:=q0u0 c.k
 have r:=fun H=>q03r j w.w s H
 have d:=fun H=>q0j3 j w.w s H
 have pl:=fun H=>q07d j H
 simp only [vJob,cGeom,List.cons_append,List.nil_append] at pl
 by_cases k:c.k=1∨c.k=2∨c.k=3
 ·simp only [if_pos k,decide_eq_true k] at lk
  have kk:=eq_true k
  cases b1:q01g j s with
  |false=>
   rw [b1] at r
   have o:openS j s=false:=by unfold openS;rw [b1];rfl
   simp [St.enter,q000,subs,q001,ru,m0,lk,r,o]
  |true=>
   rw [b1] at r
   cases b2:doneS j s with
   |true=>
    rw [b2] at d
    have o:openS j s=false:=by unfold openS;rw [b1,b2];rfl
    simp [St.enter,q000,subs,q001,ru,m0,lk,r,d,o]
   |false=>
    rw [b2] at d
    have o:openS j s=true:=by unfold openS;rw [b1,b2];rfl
    by_cases f:c.frm=s.at_
    ·have ff:=eq_true f
     have key:=cq_lp j s c (q03j c.k) (q0id c.k).1 (q0id c.k).2 (ruleB j s c) (H++[.map q03u]) H.length (q0xi j w hf s c c1 c2 c3 c.k _)
     have ov:=fun H=>q0lv j w s c hf c1 c2 c3 H
     have ls:=fun H=>q0qq j w s H
     have sm:=fun H=>q0vn c ((q04r j s).getD q014) c1 c2 c3 H
     unfold ruleE
     unfold vOC at ls
     generalize q028 _=E at*
     generalize q03j c.k=L at*
     generalize q02r j s c=F at*
     generalize (q04r j s).getD q014=Z at*
     simp only [vAsk,cAsk,cStt,cColm,cJobW,cGeom,List.cons_append,List.nil_append] at ov
     by_cases e0:E=0
     ·rw [if_pos e0] at key
      simp only [cqE,cqX,ckLoc,cAsk,cStt,cColm,cJobW,cGeom,List.cons_append,List.nil_append] at key
      simp at key
      obtain ⟨f1,f2,f3,f4,ovr,f6⟩:=F
      simp only at ov⊢
      cases ovr with
      |false=>simp [St.enter,q000,subs,q001,ru,m0,lk,r,d,o,ff,kk,pl,key,e0,ov]
      |true=>
       cases q:sameC c Z<;>rw [q] at sm<;>simp [St.enter,q000,subs,q001,ru,m0,lk,r,d,o,ff,kk,pl,key,e0,ov,ls,sm]
     ·rw [if_neg e0] at key
      simp only [cqE,ckLoc,cAsk,cStt,cColm,cJobW,cGeom,List.cons_append,List.nil_append] at key
      simp at key
      simp [St.enter,q000,subs,q001,ru,m0,lk,r,d,o,ff,kk,pl,key,e0]
    ·simp [St.enter,q000,subs,q001,ru,m0,lk,r,d,o,f]
 ·simp only [if_neg k,decide_eq_false k] at lk
  have kk:=eq_false k
  simp [St.enter,q000,subs,q001,ru,m0,lk,kk]
end
theorem q0lx (k:Int) (m:Nat) (f:Item→Item) (hf: ∀x,(f x).k=x.k∧(f x).n=x.n): ∀(l:List Item) (i n:Nat),refF k m i n (l.map f)=refF k m i n l
 |[],_,_=>rfl
 |x::r,i,n=>by
  simp only [List.map_cons,refF,(hf x).1,(hf x).2,q0lx k m f hf r]
theorem dn_eq {n s:Int} (h0:0≤n) (h1:n≤1073741823) (hs:1≤s):downG n s=s*(n/s):=by
 have a:=Int.emod_nonneg n (show s≠0 by omega)
 have b:=Int.emod_add_mul_ediv n s
 have c:0≤s*(n/s):=Int.mul_nonneg (by omega) (Int.ediv_nonneg h0 (by omega))
 unfold downG downF
 rw [if_neg (by omega)]
 unfold subF
 rw [if_pos (by omega)]
 simp only [orN]
 omega
theorem q0u2 {a b s:Int} (h0:0≤a) (h:a≤b) (h1:b≤1073741823) (hs:1≤s):downG a s≤downG b s:=by
 rw [dn_eq h0 (by omega) hs,dn_eq (by omega) h1 hs]
 exact Int.mul_le_mul_of_nonneg_left (Int.ediv_le_ediv (by omega) h) (by omega)
theorem q0u3 {g:Geom} (h:geomF g=0):1≤g.first∧g.first≤g.high∧0≤g.topMost∧0≤g.botMost∧0≤g.topMany∧0≤g.botMany∧g.topMany≤4∧g.botMany≤4∧0≤g.noteMost:=by
 unfold geomF at h
 by_cases q1:inR 1 8 [g.cols]=false
 ·rw [if_pos q1] at h;omega
 rw [if_neg q1] at h
 by_cases q2:inR 1 1073741823 [g.wide,g.high]=false
 ·rw [if_pos q2] at h;omega
 rw [if_neg q2] at h
 by_cases q3:inR 0 1073741823 [g.gap,g.noteMost,g.topMost,g.botMost]=false
 ·rw [if_pos q3] at h;omega
 rw [if_neg q3] at h
 by_cases q4:inR 0 536870912 [g.rule,g.sep,g.grid]=false
 ·rw [if_pos q4] at h;omega
 rw [if_neg q4] at h
 by_cases q5:inR 1 g.high [g.first]=false
 ·rw [if_pos q5] at h;omega
 rw [if_neg q5] at h
 by_cases q6:inR 0 g.first [g.grid]=false
 ·rw [if_pos q6] at h;omega
 rw [if_neg q6] at h
 by_cases q7:inR 0 4 [g.topMany,g.botMany]=false
 ·rw [if_pos q7] at h;omega
 have a1:=q04b q5 g.first (by simp)
 have a2:=q04b q3 g.topMost (by simp)
 have a3:=q04b q3 g.botMost (by simp)
 have a4:=q04b q7 g.topMany (by simp)
 have a5:=q04b q7 g.botMany (by simp)
 have a6:=q04b q3 g.noteMost (by simp)
 omega
theorem wf_of {j:Job} (r:Right j) (sm:small (snapG j)):wfJ (snapG j):=by
 have hg:=q0bp r.g
 have hm:=q0u3 r.g
 obtain ⟨f,hf,hk⟩:=q0fj j
 have h5:=q07c 5 j.notes.length j.items 0 0 (Nat.zero_le _) r.r5
 have hgr:(snapG j).g.first≤(snapG j).g.high∧(snapG j).g.high≤4294967296∧0≤(snapG j).g.first∧0≤(snapG j).g.sep∧(snapG j).g.sep≤4294967296∧(snapG j).g.topMany=j.g.topMany∧(snapG j).g.botMany=j.g.botMany∧(snapG j).g.topMost=j.g.topMost∧(snapG j).g.botMost=j.g.botMost:=by
  unfold snapG
  split
  ·refine ⟨by omega,by omega,by omega,by omega,by omega,rfl,rfl,rfl,rfl⟩
  ·have b1:=q0u2 (a:=j.g.first) (b:=j.g.high) (s:=j.g.grid) (by omega) (by omega) (by omega) (by omega)
   have b2:=q09m (n:=j.g.high) (s:=j.g.grid) (by omega) (by omega) (by omega) (by omega)
   have b3:=q09m (n:=j.g.first) (s:=j.g.grid) (by omega) (by omega) (by omega) (by omega)
   have b4:=q09l (n:=j.g.sep) (s:=j.g.grid) (by omega) (by omega) (by omega) (by omega)
   exact ⟨b1,b2.2,b3.1,b4.1,b4.2,rfl,rfl,rfl,rfl⟩
 refine ⟨q0Ex r sm,?_,?_,?_,?_,hgr.2.2.1,⟨hgr.1,hgr.2.1⟩,⟨hgr.2.2.2.1,hgr.2.2.2.2.1⟩,?_,?_⟩
 ·intro n hn
  unfold snapG at hn
  split at hn
  ·exact (q0pu (r.notes n hn)).1
  ·obtain ⟨m,hm,rfl⟩:=List.mem_map.1 hn
   have:=(q0pu (r.notes m hm)).1
   simpa [noteG] using this
 ·rw [q0j0,hf]
  unfold q01a
  rw [q0pq 5 f (fun x=>(hk x).1)]
  omega
 ·rw [q0v3,hf,q0lx 6 _ f hk]
  exact r.r6
 ·intro x hx
  have ht:=r.tall x hx
  unfold snapG at hx
  split at hx
  ·rename_i hgr
   have ho:=r.floats x hx
   unfold q01l at ho
   simp only [Bool.and_eq_true,decide_eq_true_eq] at ho
   exact ⟨by omega,by omega,by omega⟩
  ·obtain ⟨y,hy,rfl⟩:=List.mem_map.1 hx
   have ho:=r.floats y hy
   unfold q01l at ho
   simp only [Bool.and_eq_true,decide_eq_true_eq] at ho
   have b:=q09l (n:=y.h) (s:=j.g.grid) (by omega) (by omega) (by omega) (by omega)
   exact ⟨⟨by simp only [q01h];omega,by simp only [q01h];omega⟩,by simp only [q01h];omega,by omega⟩
 ·rw [hgr.2.2.2.2.2.1,hgr.2.2.2.2.2.2.1,hgr.2.2.2.2.2.2.2.1,hgr.2.2.2.2.2.2.2.2]
  omega
 ·rw [q0j1];omega
theorem q10q (fs:List Float) (h:fs.length≤100000) (x y:C3):(takeL fs x y).length≤1000000:=by
 have:=q0pa fs x y
 unfold takeL
 rw [isort_len];omega
theorem q0Yy {j:Job} (w:wfJ j) {s:Stt} {n:C3} {c:Colm} (h:q03i j s n=some c):c.notes.length≤1000000∧c.top.length≤1000000∧c.bot.length≤1000000:=by
 have t:=q10q j.floats w.w.n3 s.h
 unfold q03i at h
 split at h
 ·cases h;exact ⟨by simp,t _,by simp⟩
 split at h
 ·cases h;exact ⟨by simp,t _,by simp⟩
 split at h
 ·cases h;exact ⟨by simp,t _,by simp⟩
 ·cases h
theorem q0Yn {l:List Note} {s:Spot} (o:spotB l s):(q05q l s).length≤1000000:=by
 unfold q05q
 by_cases h:q00j l s=[]
 ·rw [h];simp
 ·exact q0d0 o _ (q0Z4 h)
theorem q0Y6 {j:Job} (w:wfJ j) {s:Stt} {c:Colm} (h:q04r j s=some c):c.notes.length≤1000000∧c.top.length≤1000000∧c.bot.length≤1000000:=by
 unfold q04r at h
 cases e1:textC j s with
 |some x=>
  rw [e1] at h
  simp at h;subst h
  unfold textC at e1
  split at e1
  ·cases e1;exact ⟨q0Yn (q08n j w s _),by simp,by simp⟩
  ·cases e1
 |none=>
  cases e2:dueC j s with
  |some x=>
   rw [e1,e2] at h
   simp at h;subst h
   unfold dueC at e2
   split at e2
   ·exact q0Yy w e2
   ·cases e2
  |none=>
   cases e3:noteC j s with
   |some x=>
    rw [e1,e2,e3] at h
    simp at h;subst h
    unfold noteC at e3
    split at e3
    ·cases e3;exact ⟨q0Yn (q09f j w s _),by simp,by simp⟩
    ·cases e3
   |none=>
    rw [e1,e2,e3] at h
    simp at h
    unfold q08m at h
    split at h
    ·exact q0Yy w h
    ·cases h
def wits (j:Job):Stt→List Colm→Stt→Prop
 |s,[],t=>s=t
 |s,c::r,t=>q04r j s=some c∧wits j (nextS j s c) r t
theorem q0Ym {j:Job}: ∀ {l m:List Colm} {s t u:Stt},wits j s l t→q04r j t=none→wits j s m u→q04r j u=none→l=m∧t=u
 |[],[],_,_,_,h,_,g,_=>⟨rfl,h.symm.trans g⟩
 |[],y::q,_,_,_,h,e,g,_=>by cases h;have:=g.1;rw [e] at this;cases this
 |x::r,[],_,_,_,h,_,g,f=>by cases g;have:=h.1;rw [f] at this;cases this
 |x::r,y::q,_,_,_,h,e,g,f=>by
  have:=h.1.symm.trans g.1
  cases this
  obtain ⟨rfl,rfl⟩:=q0Ym h.2 e g.2 f
  exact ⟨rfl,rfl⟩
def q0Yo (j:Job):Stt→List Colm→Prop
 |_,[]=>True
 |s,c::r=>q06c j s c=0∧q0Yo j (nextS j s c) r
def goS (j:Job):Stt→List Colm→Stt
 |s,[]=>s
 |s,c::r=>goS j (nextS j s c) r
theorem q0Y2 {j:Job} (w:wfJ j) {s:Stt} {c:Colm} (h:q04r j s=some c):q06c j s c=0:=by
 cases o:openS j s with
 |false=>rw [q0Y9 o] at h;cases h
 |true=>
  obtain ⟨d,e1,e2,-⟩:=q0Yi w o
  rw [e1] at h;cases h;exact e2
theorem q0Yp {j:Job} (w:wfJ j): ∀ {l:List Colm} {s t:Stt},wits j s l t→q0Yo j s l∧goS j s l=t
 |[],_,_,h=>⟨trivial,h⟩
 |_::_,_,_,h=>by
  have ih:=q0Yp w h.2
  exact ⟨⟨q0Y2 w h.1,ih.1⟩,ih.2⟩
theorem q0Z0 {j:Job} (w:wfJ j): ∀ {l:List Colm} {s:Stt},rightP j s→q0Yo j s l→rightP j (goS j s l)∧q0Xw j s+l.length≤q0Xw j (goS j s l)
 |[],s,r,_=>⟨r,by simp [goS]⟩
 |c::l,s,r,h=>by
  obtain ⟨-,g2,g3⟩:=q0Y1 w h.1
  have ih:=q0Z0 w g2 h.2
  refine ⟨ih.1,?_⟩
  have:=ih.2
  simp only [goS,List.length_cons]
  push_cast
  omega
theorem q0Zd: ∀(l:List Float) (i:Nat),(figOf 0 i l).length+(figOf 1 i l).length+(figOf 2 i l).length≤l.length
 |[],_=>by simp [figOf]
 |x::r,i=>by
  have:=q0Zd r (i+1)
  simp only [figOf,List.length_append,List.length_cons]
  by_cases a:x.c=0
  ·rw [if_pos a,if_neg (by omega),if_neg (by omega)];simp;omega
  by_cases b:x.c=1
  ·rw [if_neg a,if_pos b,if_neg (by omega)];simp;omega
  by_cases c:x.c=2
  ·rw [if_neg a,if_neg b,if_pos c];simp;omega
  ·rw [if_neg a,if_neg b,if_neg c];simp;omega
theorem q0Xx {j:Job} (w:wfJ j) {s:Stt} (r:rightP j s):0≤q0Xw j s∧q0Xw j s≤j.items.length+lineN j.notes+j.floats.length:=by
 have cb:=q09w w r
 have h0:=r.h0
 have h1:=r.h1
 have h2:=q0hy w r
 have bd:=q0wx w.w s.at_
 have a0:=r.at0
 have a1:=r.at1
 have f3:=q0Zd j.floats 0
 rw [q0Yc r,q0Y7 h0 (by unfold leC at h1;omega)]
 have lb:0≤progN j.notes s.note s.line∧progN j.notes s.note s.line≤lineN j.notes:=by
  unfold progN
  have l0:=q0Yb j.notes cb.1
  have z:lineN (j.notes.take (0:Int).toNat)=0:=by simp [lineN]
  have l1:=q0Yb j.notes cb.2.2.1
  have e:j.notes.take ((j.notes.length:Nat):Int).toNat=j.notes:=by simp
  rw [e] at l1
  refine ⟨by omega,?_⟩
  by_cases q:s.line=0
  ·omega
  ·have h:=cb.2.2.2 q
   have l2:=q0Y0 j.notes s.note cb.1 h.1
   have l3:=q0Yb j.notes (show s.note+1≤(j.notes.length:Int) by omega)
   rw [e] at l3
   omega
 unfold leC allC zeroC at*
 simp only at*
 omega
theorem q10c {j:Job} (w:wfJ j) {l:List Colm} {s:Stt} (r:rightP j s) (h:q0Yo j s l):(l.length:Int)≤j.items.length+lineN j.notes+j.floats.length:=by
 have a:=q0Z0 w r h
 have b:=q0Xx w r
 have c:=q0Xx w a.1
 omega
def wfE (j:Job) (H:Heap) (l:List Colm) (s:Stt):St:=⟨[(0,vW j),(3,.lptr 3 0),(5,.row H.length l.length 0 l.length)],[(3,cStt s)],H++[DObj.row 6 (upV (l.map encCo))],H.length,[]⟩
def wfX (H:Heap) (l:List Colm):Ex×St:=(.ret,⟨[(4,.row H.length l.length 0 l.length)],[],H++[DObj.row 6 (upV (l.map encCo))],H.length,[]⟩)
def wfR:IC:=(q019 q0Xy 0).getD .skip
theorem q11c:q019 q0Xy 0=some wfR:=rfl
theorem q0Z1 (b:IC) (l:Nat) (S:St):seqK EE b (some (.goto l,S))=some (.goto l,S):=rfl
section
variable (j:Job) (w:wfJ j)
include w
theorem q114 (H:Heap) (l:List Colm) (s:Stt) (c:Colm) (h:q04r j s=some c) (hl:l.length≤1000000):evD EE wfR (wfE j H l s)=some (.goto 0,wfE j H (l++[c]) (nextS j s c)):=by
 obtain ⟨c1,c2,c3⟩:=q0Y6 w h
 have ls:=fun H=>q0qq j w s H
 have nx:=fun H=>q0Z3 j w.w s c c1 c2 c3 H
 unfold vOC at ls
 rw [h] at ls
 have hm:l.length+1<most:=by unfold most;omega
 generalize nextS j s c=n at*
 unfold wfR q0Xy
 simp [q019,wfE,subs,q001,ls,nx,hm,encCo,q0Z1]
theorem q115 (H:Heap) (l:List Colm) (s:Stt) (h:q04r j s=none):evD EE wfR (wfE j H l s)=some (wfX H l):=by
 have ls:=fun H=>q0qq j w s H
 unfold vOC at ls
 rw [h] at ls
 unfold wfR q0Xy
 simp [q019,wfE,wfX,subs,q001,ls,q014]
theorem wf_lp (hM:(j.items.length:Int)+lineN j.notes+j.floats.length≤1000000) (H:Heap): ∀(k:Nat) (l:List Colm) (s:Stt),(q01g j s=true→(l.length:Int)≤q0Xw j s∧1000000<q0Xw j s+k)→l.length≤1000000→
  ∃m t,wits j s m t∧q04r j t=none∧scopeK EE q0Xy (some (.goto 0,wfE j H l s))=some (wfX H (l++m))
 |k,l,s,hr,hl=>by
  have e: ∀S,scopeK EE q0Xy (some (.goto 0,S))=scopeK EE q0Xy (evD EE wfR S):=fun S=>by
   simp only [scopeK,q11c]
   rw [q0q1]
   rfl
  cases h:q04r j s with
  |none=>exact ⟨[],s,rfl,h,by rw [e,q115 j w H l s h,List.append_nil];rfl⟩
  |some c=>
   obtain ⟨g1,g2,g3⟩:=q0Y1 w (q0Y2 w h)
   have m1:=q0Xx w g1
   have m2:=q0Xx w g2
   have q:=hr ((q02k j s).2 g1)
   match k,q with
   |0,q=>exact absurd q.2 (by omega)
   |k+1,q=>
    have q2:=q.2
    push_cast at q2
    obtain ⟨m,t,i1,i2,i3⟩:=wf_lp hM H k (l++[c]) (nextS j s c) (fun _=>⟨by rw [List.length_append,List.length_singleton];push_cast;omega,by omega⟩) (by rw [List.length_append,List.length_singleton];omega)
    refine ⟨c::m,t,⟨h,i1⟩,i2,?_⟩
    rw [e,q114 j w H l s c h hl,i3]
    simp
theorem q0Yq (hM:(j.items.length:Int)+lineN j.notes+j.floats.length≤1000000) (s:Stt): ∃m t,wits j s m t∧q04r j t=none∧ ∀H,clD EE (.p (.fn 25)) [vW j,vStt s] H=some (vCos m,none):=by
 have ls:=fun H=>q0qq j w s H
 unfold vOC at ls
 cases h:q04r j s with
 |none=>
  rw [h] at ls
  refine ⟨[],s,rfl,h,fun H=> ?_⟩
  rw [q002 _ _ _ _ _ _ (noP _) fn25]
  have f1: ∀b H,frzK 0 0 0 b H 2 (some (6,[]))=some (.sl []):=fun b H=>q09c 0 0 0 b 2 6 H []
  have f2: ∀i b H,idsK i 0 0 0 b H 2 (some (6,[]))=[i]:=fun i b H=>q0Qm i 0 0 0 b 2 6 H []
  simp [St.enter,q000,subs,q001,q0Xy,ls,q014,f1,f2]
 |some c=>
  rw [h] at ls
  obtain ⟨g1,g2,g3⟩:=q0Y1 w (q0Y2 w h)
  have m1:=q0Xx w g1
  have m2:=q0Xx w g2
  obtain ⟨c1,c2,c3⟩:=q0Y6 w h
  have nx:=fun H=>q0Z3 j w.w s c c1 c2 c3 H
  have key:=fun H=>wf_lp j w hM H 1000001 [c] (nextS j s c) (fun _=>⟨by rw [List.length_singleton];omega,by omega⟩) (by simp)
  obtain ⟨m,t,i1,i2,-⟩:=key []
  refine ⟨c::m,t,⟨h,i1⟩,i2,fun H=> ?_⟩
  obtain ⟨m',t',i1',i2',i3⟩:=key H
  obtain ⟨rfl,rfl⟩:=q0Ym i1 i2 i1' i2'
  have h1:evD EE q0Xy ⟨[(0,vW j),(3,.lptr 3 0)],[(3,cStt s)],H,H.length,[]⟩=some (.goto 0,wfE j H [c] (nextS j s c)):=by
   have hm:1<most:=by decide
   generalize nextS j s c=n at*
   unfold q0Xy
   simp [wfE,subs,q001,ls,nx,hm,encCo,q0Z1]
  rw [q002 _ _ _ _ _ _ (noP _) fn25]
  generalize nextS j s c=n at*
  simp only [wfE,wfX,cStt] at h1 i3
  simp at h1 i3
  simp [St.enter,q000,subs,q001,h1,i3]
end
end Go.EnvOf
namespace Go.EnvOf
open Go Go.Eng
set_option maxRecDepth 100000
section
variable (j:Job) (w:okW j)
include w in
include w in
end
def Rows (b:Nat) (H:Heap) (id:Nat) (ps:List (List Piece)):Prop:=
 ∃vs:List V,Eng.rowAt H id=some (1,vs.map fun v=>[v])∧vs.length=ps.length∧ ∀(k:Nat) (v:V) (p:List Piece),vs[k]? =some v→ps[k]? =some p→ ∃B,repP p v H B∧ ∀k∈B,b≤k∧k≠id
end Go.EnvOf
namespace Go.EnvOf
open Go Go.Eng
set_option maxRecDepth 100000
section
variable (j:Job) (w:wfJ j)
include w in
include w in
include w in
include w in
include w in
end
section
variable (j:Job) (w:wfJ j)
theorem q10r (hM:(j.items.length:Int)+lineN j.notes+j.floats.length≤1000000) (w:okW j) (H:Heap):clD EE (.p (.fn 26)) [vW j] H=some (vI (j.items.length+lineN j.notes+j.floats.length),none):=by
 rw [q002 _ _ _ _ _ _ (noP _) fn26]
 have p:=fun H=>q07d j H
 have l0:=(q0zd j.notes w.lines).1
 have n:=fun H=>q0n8 j.notes H w.n2 (by omega)
 have w1:IntKind.i64.wrap ((j.items.length:Int)+lineN j.notes)=j.items.length+lineN j.notes:=w64 (by omega) (by omega)
 have w2:IntKind.i64.wrap ((j.items.length:Int)+lineN j.notes+j.floats.length)=j.items.length+lineN j.notes+j.floats.length:=w64 (by omega) (by omega)
 simp only [vJob,cGeom,List.cons_append,List.nil_append] at p
 simp [St.enter,q000,subs,q001,fldvV,p,n,w1,w2]
include w in
include w in
end
theorem q0Yd {j:Job} (w:wfJ j): ∀ {l:List Colm} {s t:Stt},wits j s l t→ ∀c∈l,c.notes.length≤1000000∧c.top.length≤1000000∧c.bot.length≤1000000
 |[],_,_,_=>fun c hc=>by cases hc
 |x::r,_,_,h=>fun c hc=>by
  rcases List.mem_cons.1 hc with rfl|hc
  ·exact q0Y6 w h.1
  ·exact q0Yd w h.2 c hc
theorem q0Ze {j:Job} (w:wfJ j) {l:List Colm} {s t:Stt} (h:wits j s l t):(l.length:Int)≤j.items.length+lineN j.notes+j.floats.length:=by
 cases l with
 |nil=>have:=q0zd j.notes w.w.lines;simp only [List.length_nil];omega
 |cons c r=>
  have g:=(q0Y1 w (q0Y2 w h.1)).1
  exact q10c w g (q0Yp w h).1
theorem q0Zw (k:Int) (l:List Note) (h: ∀n∈l,(n.lines.length:Int)≤k):lineN l≤k*l.length:=by
 induction l with
 |nil=>simp [lineN]
 |cons n r ih=>
  have h1:=h n List.mem_cons_self
  have h2:=ih fun m hm=>h m (List.mem_cons_of_mem _ hm)
  simp only [lineN,List.map_cons,List.sum_cons,List.length_cons] at h2⊢
  push_cast
  rw [Int.mul_add]
  omega
theorem q10f {j:Job} (s:small j):(j.items.length:Int)+lineN j.notes+j.floats.length≤1000000:=by
 have a:=s.items
 have b:=s.notes
 have c:=s.floats
 have d:=q0Zw 100 j.notes fun n hn=>by have:=(s.each n hn).1;omega
 omega
theorem q10s (j:Job) (w:okW j) {m:List Colm} (hm: ∀H,clD EE (.p (.fn 25)) [vW j,vStt (q0Y3 j)] H=some (vCos m,none)) (H:Heap):clD EE (.p (.fn 24)) [vW j] H=some (vCos m,none):=by
 rw [q002 _ _ _ _ _ _ (noP _) fn24]
 have st:=fun H=>q0Zz j w H
 have e:eqnV NK.ptr false (vW j)=some (vB false):=rfl
 simp [St.enter,q000,subs,q001,st,hm,e]
def q123 (s:Stt):List PV:=[.int .i64 s.at_,.int .i64 s.col,.int .i64 s.note,.int .i64 s.line,.int .i64 s.h.a,.int .i64 s.h.b,.int .i64 s.h.c]
@[simp] theorem q13o (s:Stt):(q123 s).length=7:=rfl
def addCo (a b:Int×Int):Int×Int:=(addM a.1 b.1,addM a.2 b.2)
abbrev roB2 (j:Job) (sm:Int×Int) (s:Stt) (v:V):List V:=[vW j,vI sm.1,vI sm.2,vI s.at_,vI s.col,vI s.note,vI s.line,vI s.h.a,vI s.h.b,vI s.h.c,v]
def roH2 (H:Heap) (j:Job) (sm:Int×Int) (s:Stt) (L:List Stt):Heap:=H++[DObj.row 7 (upV (L.map q123)),DObj.box (roB2 j sm s (.row H.length L.length 0 L.length))]
theorem set0 (H:Heap) (a b x:DObj):(H++[a,b]).set H.length x=H++[x,b]:=by rw [List.set_append_right _ _ (Nat.le_refl _),Nat.sub_self];rfl
theorem set1 (H:Heap) (a b x:DObj):(H++[a,b]).set (H.length+1) x=H++[a,x]:=by rw [List.set_append_right _ _ (by omega)];simp
theorem box1 (H:Heap) (a:DObj) (cs:List V):Eng.boxAt (H++[a,.box cs]) (H.length+1)=some cs:=by
 unfold Eng.boxAt
 rw [List.getElem?_append_right (by omega)];simp
theorem row0 (H:Heap) (s:Nat) (es:List (List V)) (b:DObj):Eng.rowAt (H++[.row s es,b]) H.length=some (s,es):=by
 unfold Eng.rowAt
 rw [List.getElem?_append_right (Nat.le_refl _),Nat.sub_self];rfl
theorem len2 (H:Heap) (a b:DObj):(H++[a,b]).length=H.length+2:=by simp
theorem q12l (H:Heap) (a:DObj) (j:Job) (sm:Int×Int) (s:Stt) (v:V) (x y:Int):clD EE (.p (.fn 110)) [.ptr (H.length+1) 1,vCost x y] (H++[a,.box (roB2 j sm s v)])=some (.tup [],some (H++[a,.box (roB2 j (addCo sm (x,y)) s v)],[H.length+1])):=by
 rw [q002 _ _ _ _ _ _ (noP _) fn110]
 have c:=fun a b c d H=>q0Uk a b c d H
 have b1:=fun cs=>box1 H a cs
 simp [St.enter,q000,subs,q001,c,b1,set1,addCo]
theorem q125 (j:Job) (w:okW j) (H:Heap):clD EE (.p (.fn 60)) [vW j] H=some (.ptr (H.length+1) 0,some (roH2 H j (0,0) (q0Y3 j) [q0Y3 j],[])):=by
 rw [q002 _ _ _ _ _ _ (noP _) fn60]
 have st:=fun H=>q0Zz j w H
 unfold roH2
 generalize q0Y3 j=s at*
 simp [St.enter,q000,subs,q001,st,q123,rowI,okEl,upV]
section
variable (j:Job) (s:Stt) (c:Colm) (e:Int) (hc: ∀H,clD EE (.p (.fn 33)) [vW j,vStt s,vColm c] H=some (vI e,none))
 (hk:e=0→(∀H,clD EE (.p (.fn 46)) [vW j,vStt s,vColm c] H=some (vCost (costC j s c).1 (costC j s c).2,none))∧ ∀H,clD EE (.p (.fn 83)) [vW j,vStt s,vColm c] H=some (vStt (nextS j s c),none))
include hc hk
theorem q127 (H:Heap) (sm:Int×Int) (L:List Stt) (hL:L.length≤1000000):clD EE (.p (.fn 62)) [.ptr (H.length+1) 0,vColm c] (roH2 H j sm s L)=if e=0 then some (vI 0,some (roH2 H j (addCo sm (costC j s c)) (nextS j s c) (L++[nextS j s c]),[H.length+1,H.length,H.length+1,H.length+1])) else some (vI e,none):=by
 rw [q002 _ _ _ _ _ _ (noP _) fn62]
 unfold roH2
 have b1:=fun a cs=>box1 H a cs
 have r1:=fun s es b=>row0 H s es b
 by_cases h:e=0
 ·rw [if_pos h]
  obtain ⟨k1,k2⟩:=hk h
  have hc:=hc
  rw [h] at hc
  have sp:=fun a s v x y=>q12l H a j sm s v x y
  have hm:L.length+1<most:=by unfold most;omega
  generalize costC j s c=C at*
  obtain ⟨C1,C2⟩:=C
  generalize nextS j s c=n at*
  simp [St.enter,q000,subs,q001,b1,r1,set0,set1,len2,hc,k1,k2,sp,hm,q123]
 ·rw [if_neg h]
  simp [St.enter,q000,subs,q001,b1,r1,hc,h]
end
def runF (ck:Stt→Colm→Int) (j:Job):Int×Int→Stt→Nat→List Colm→(Int×Int)×Stt×Int×Nat
 |sm,s,i,[]=>(sm,s,0,i)
 |sm,s,i,c::r=>if ck s c=0 then runF ck j (addCo sm (costC j s c)) (nextS j s c) (i+1) r else (sm,s,ck s c,i)
def stF (ck:Stt→Colm→Int) (j:Job):Stt→List Colm→List Stt
 |_,[]=>[]
 |s,c::r=>if ck s c=0 then nextS j s c::stF ck j (nextS j s c) r else []
structure Asks (ck:Stt→Colm→Int) (j:Job) (c:Colm):Prop where
 ask: ∀s H,clD EE (.p (.fn 33)) [vW j,vStt s,vColm c] H=some (vI (ck s c),none)
 cost: ∀s,ck s c=0→ ∀H,clD EE (.p (.fn 46)) [vW j,vStt s,vColm c] H=some (vCost (costC j s c).1 (costC j s c).2,none)
 next: ∀s,ck s c=0→ ∀H,clD EE (.p (.fn 83)) [vW j,vStt s,vColm c] H=some (vStt (nextS j s c),none)
abbrev takeV (H:Heap):V:= .fn (.func 62) [.ptr (H.length+1) 0] []
def roqE (l:List Colm) (H G:Heap) (d:List Nat) (i:Nat):St:=⟨[(0,vCos l),(1,takeV H),(9,vCos l),(10,vI l.length),(11,vI i)],[],G,H.length+2,d⟩
def roqX (l:List Colm) (H G:Heap) (d:List Nat):Ex×St:=(.exit 0,⟨[(0,vCos l),(1,takeV H),(9,vCos l),(10,vI l.length),(11,vI l.length),(12,vB false)],[],G,H.length+2,d⟩)
def roqY (H G:Heap) (d:List Nat) (i:Nat) (e:Int):Ex×St:=(.ret,⟨[(4,vI i),(5,vI e)],[],G,H.length+2,d⟩)
section
variable (ck:Stt→Colm→Int) (j:Job) (l:List Colm) (H:Heap) (s0:Stt)
def roqG (d:List Nat) (sm:Int×Int) (s:Stt) (L:List Stt) (i:Nat):Prop:=(∀x∈d,H.length≤x)∧(d=[]→sm=(0,0)∧s=s0∧L=[s0])∧L.length≤i+1
def roqR (i:Nat) (S:St):Prop:= ∃sm s L d,S=roqE l H (roH2 H j sm s L) d i∧roqG H s0 d sm s L i∧runF ck j (0,0) s0 0 l=runF ck j sm s i (l.drop i)∧s0::stF ck j s0 l=L++stF ck j s (l.drop i)
def roqF (r:Ex×St):Prop:= ∃sm s L d e i,(r=roqX l H (roH2 H j sm s L) d∧e=0∧i=l.length∨r=roqY H (roH2 H j sm s L) d i e)∧roqG H s0 d sm s L i∧runF ck j (0,0) s0 0 l=(sm,s,e,i)∧s0::stF ck j s0 l=L
theorem q13c (hl:l.length≤1000000) (ha: ∀c∈l,Asks ck j c) (S:St) (hS:roqR ck j l H s0 0 S): ∃r,evD EE q0Vj S=some r∧roqF ck j l H s0 r:=by
 unfold q0Vj
 refine q0vo l (roqR ck j l H s0) (roqF ck j l H s0) (by rintro i S ⟨sm,s,L,d,rfl,-⟩;rfl) ?_ ?_ _ 0 S rfl hS (Nat.zero_le _)
 ·rintro i x S ⟨sm,s,L,d,rfl,⟨g1,g2,g3⟩,hr,hs⟩ hx
  have hlt:=(List.getElem?_eq_some_iff.1 hx).1
  have hd:l.drop i=x::l.drop (i+1):=by
   rw [List.drop_eq_getElem_cons hlt]
   congr 1
   exact (List.getElem?_eq_some_iff.1 hx).2
  rw [hd] at hr hs
  have hA:=ha x (List.mem_of_getElem? hx)
  have hix:=fun H k=>q00c H encCo (k:=k) (s:=6) hx rfl
  have w1:IntKind.i64.wrap ((i:Int)+1)=((i+1:Nat):Int):=w64 (by omega) (by omega)
  have tk:=q127 j s x (ck s x) (hA.ask s) (fun h=>⟨hA.cost s h,hA.next s h⟩) H sm L (by omega)
  simp only [runF] at hr
  simp only [stF] at hs
  by_cases h:ck s x=0
  ·rw [if_pos h] at tk hr hs
   have hb1:H.length<H.length+2:=by omega
   have hb2:H.length+1<H.length+2:=by omega
   refine .inl ⟨roqE l H (roH2 H j (addCo sm (costC j s x)) (nextS j s x) (L++[nextS j s x])) ([H.length+1,H.length,H.length+1,H.length+1].foldr (addD (H.length+2)) d) (i+1),?_,_,_,_,_,rfl,⟨?_,?_,?_⟩,hr,by rw [hs,List.append_assoc];rfl⟩
   ·generalize addCo sm (costC j s x)=C at*
    generalize nextS j s x=n at*
    generalize roH2 H j C n (L++[n])=G2 at*
    simp only [vColm] at tk
    simp [roqE,hlt,hix,encCo,subs,q001,tk,w1]
   ·intro y hy
    rcases q06d hy with hy|hy
    ·simp at hy;omega
    ·exact g1 y hy
   ·intro h0
    have:H.length+1∈[H.length+1,H.length,H.length+1,H.length+1].foldr (addD (H.length+2)) d:=q09u (by simp) hb2
    rw [h0] at this;cases this
   ·simp;omega
  ·rw [if_neg h] at tk hr hs
   refine .inr ⟨roqY H (roH2 H j sm s L) d i (ck s x),?_,by simp [roqY],sm,s,L,d,_,i,.inr rfl,⟨g1,g2,g3⟩,hr,by rw [hs,List.append_nil]⟩
   generalize roH2 H j sm s L=G at*
   generalize ck s x=e at*
   simp [roqE,roqY,hlt,hix,encCo,subs,q001,tk,w1,h]
 ·rintro S ⟨sm,s,L,d,rfl,g,hr,hs⟩
  rw [List.drop_length] at hr hs
  refine ⟨roqX l H (roH2 H j sm s L) d,?_,by simp [roqX],sm,s,L,d,0,l.length,.inl ⟨rfl,rfl,rfl⟩,g,hr,by rw [hs];exact List.append_nil _⟩
  simp [roqE,roqX]
theorem q12g {B:Nat}: ∀ {ds:List Nat},(∀x∈ds,B≤x)→ds.foldr (addD B) []=[]
 |[],_=>rfl
 |x::r,h=>by
  have:=h x (by simp)
  rw [List.foldr_cons,q12g fun y hy=>h y (by simp [hy])]
  unfold addD
  rw [if_neg (by omega)]
theorem q128 (hl:l.length≤1000000) (ha: ∀c∈l,Asks ck j c):
  ∃sm s e i r,runF ck j (0,0) s0 0 l=(sm,s,e,i)∧clD EE (.p (.fn 61)) [vCos l,takeV H] (roH2 H j (0,0) s0 [s0])=some (.tup [vI (i:Nat),vI e],r)∧hpOf (roH2 H j (0,0) s0 [s0]) r=roH2 H j sm s (s0::stF ck j s0 l)∧ ∀x∈dsOf r,H.length≤x:=by
 obtain ⟨r,k1,sm,s,L,d,e,i,k2,⟨g1,g2,g3⟩,k3,k4⟩:=q13c ck j l H s0 hl ha (roqE l H (roH2 H j (0,0) s0 [s0]) [] 0) ⟨_,_,_,_,rfl,⟨by simp,fun _=>⟨rfl,rfl,rfl⟩,by simp⟩,rfl,rfl⟩
 rw [k4]
 refine ⟨sm,s,e,i,if d=[] then none else some (roH2 H j sm s L,d),k3,?_,?_,?_⟩
 ·rw [q002 _ _ _ _ _ _ (noP _) fn61]
  have hln:(roH2 H j (0,0) s0 [s0]).length=H.length+2:=by unfold roH2;exact len2 ..
  generalize roH2 H j (0,0) s0 [s0]=G0 at*
  generalize roH2 H j sm s L=G at*
  rcases k2 with ⟨rfl,rfl,rfl⟩|rfl
  ·simp only [roqE,roqX] at k1
   simp at k1
   simp [St.enter,q000,subs,q001,hln,k1]
  ·simp only [roqE,roqY] at k1
   simp at k1
   simp [St.enter,q000,subs,q001,hln,k1]
 ·by_cases h:d=[]
  ·obtain ⟨rfl,rfl,rfl⟩:=g2 h
   rw [if_pos h];rfl
  ·rw [if_neg h];rfl
 ·by_cases h:d=[]
  ·rw [if_pos h];intro x hx;cases hx
  ·rw [if_neg h];exact g1
end
structure Toldr where
 sum:Int×Int
 fin:Stt
 e:Int
 at_:Int
abbrev vTold (t:Toldr):V:= .agg [vI t.sum.1,vI t.sum.2,vI t.fin.at_,vI t.fin.col,vI t.fin.note,vI t.fin.line,vI t.fin.h.a,vI t.fin.h.b,vI t.fin.h.c,vI t.e,vI t.at_]
def toldR (j:Job) (r:(Int×Int)×Stt×Int×Nat):Toldr:=
 if r.2.2.1≠0 then ⟨r.1,r.2.1,r.2.2.1,r.2.2.2⟩ else if doneS j r.2.1=true then ⟨r.1,r.2.1,0,0⟩ else ⟨r.1,r.2.1,19,r.2.2.2⟩
def toldF (ck:Stt→Colm→Int) (j:Job) (l:List Colm):Toldr:=toldR j (runF ck j (0,0) (q0Y3 j) 0 l)
theorem q12d (H:Heap) (a:DObj) (j:Job) (sm:Int×Int) (s:Stt) (v:V):clD EE (.p (.fn 63)) [.ptr (H.length+1) 1] (H++[a,.box (roB2 j sm s v)])=some (vCost sm.1 sm.2,none):=by
 rw [q002 _ _ _ _ _ _ (noP _) fn63]
 have b1:=fun cs=>box1 H a cs
 simp [St.enter,q000,subs,q001,b1]
theorem q12e (ck:Stt→Colm→Int) (j:Job) (w:okW j) (l:List Colm) (hl:l.length≤1000000) (ha: ∀c∈l,Asks ck j c) (H:Heap):clD EE (.p (.fn 18)) [vW j,vCos l] H=some (vTold (toldF ck j l),none):=by
 rw [q002 _ _ _ _ _ _ (noP _) fn18]
 have e0:eqnV NK.ptr false (vW j)=some (vB false):=rfl
 have bg:=q125 j w H
 obtain ⟨sm,s,e,i,r,k1,k2,k3,k4⟩:=q128 ck j l H (q0Y3 j) hl ha
 have k5:=q12g k4
 have dn:=fun H=>q0j3 j w s H
 have sc:=fun a v=>q12d H a j sm s v
 have b1:=fun a cs=>box1 H a cs
 have q1: ∀G:Heap,hpOf H (some (G,[]))=G:=fun _=>rfl
 have q2: ∀G:Heap,dsOf (some (G,[]))=[]:=fun _=>rfl
 unfold toldF toldR
 rw [k1]
 generalize roH2 H j (0,0) (q0Y3 j) [q0Y3 j]=G0 at*
 unfold roH2 at k3
 unfold takeV at k2
 by_cases h:e=0
 ·subst h
  cases d:doneS j s with
  |true=>
   rw [d] at dn
   simp [St.enter,q000,subs,q001,e0,bg,k2,q121,q1,q2,k3,k5,sc,b1,dn]
  |false=>
   rw [d] at dn
   simp [St.enter,q000,subs,q001,e0,bg,k2,q121,q1,q2,k3,k5,sc,b1,dn]
 ·simp [St.enter,q000,subs,q001,e0,bg,k2,q121,q1,q2,k3,k5,sc,b1,h]
theorem q126 (ck:Stt→Colm→Int) (j:Job) (w:okW j) (l:List Colm) (hl:l.length≤1000000) (ha: ∀c∈l,Asks ck j c) (H:Heap):clD EE (.p (.fn 15)) [vW j,vCos l] H=some (vB (decide ((toldF ck j l).e=0)),none):=by
 rw [q002 _ _ _ _ _ _ (noP _) fn15]
 have k:=fun H=>q12e ck j w l hl ha H
 generalize toldF ck j l=t at*
 simp [St.enter,q000,subs,q001,fldvV,k]
theorem asksC (j:Job) (w:wfJ j) (hf: ∀x∈j.items,fairI x) (c:Colm) (h:c.notes.length≤1000000∧c.top.length≤1000000∧c.bot.length≤1000000):Asks (q06c j) j c:=
 ⟨fun s H=>q0a3 j w hf s c h.1 h.2.1 h.2.2 H,fun s _ H=>q13b j w.w hf s c h.1 h.2.1 h.2.2 H,fun s _ H=>q0Z3 j w.w s c h.1 h.2.1 h.2.2 H⟩
theorem q124 {j:Job}: ∀ {l:List Colm} {s:Stt} (sm:Int×Int) (i:Nat),q0Yo j s l→ ∃sm',runF (q06c j) j sm s i l=(sm',goS j s l,0,i+l.length)
 |[],s,sm,i,_=>⟨sm,rfl⟩
 |c::l,s,sm,i,h=>by
  obtain ⟨sm',e⟩:=q124 (addCo sm (costC j s c)) (i+1) h.2
  refine ⟨sm',?_⟩
  simp only [runF,if_pos h.1,goS,e,List.length_cons]
  rw [show i+1+l.length=i+(l.length+1) by omega]
theorem witnessIs_ev (j:Job) (hj:jobI j):clD EE (.p (.fn 5)) [vJob j] []=some (.p (.bool true),none):=by
 rw [q002 _ _ _ _ _ _ (noP _) fn5]
 have l1:=fun H=>q0yo j H
 have aw:=fun H=>q10n H
 simp only [vJob,cGeom,List.cons_append,List.nil_append] at l1
 cases b1:q0bl j with
 |true=>simp [St.enter,q000,subs,q001,l1,b1,aw]
 |false=>
  have sm:=q0ym b1
  have ok:=q0mo hj sm
  have sms:=q0r9 sm
  have okS:=q0mo (q0vm hj) sms
  have hw:=q0Cs j ok okS (fun n hn=>by have:=sms.each n hn;omega)
  by_cases h:(q02q j).1=0
  ·have r:=(q0it j).1 h
   have w:=wf_of r sms
   have hf:=q0iz r
   have hM:=q10f sms
   obtain ⟨n,u,c1,c2,c3⟩:=q0Yq (snapG j) w hM (q0Y3 (snapG j))
   have k1:=fun H=>q10s (snapG j) w.w c3 H
   have k2:=fun H=>q10r (snapG j) hM w.w H
   have hl:=q0Ze w c1
   have k3:=fun H=>q126 (q06c (snapG j)) (snapG j) w.w n (by omega) (fun c hc=>asksC _ w hf c (q0Yd w c1 c hc)) H
   have ht:(toldF (q06c (snapG j)) (snapG j) n).e=0:=by
    obtain ⟨g1,g2⟩:=q0Yp w c1
    have sr:=(q02k _ _).1 (q12f w.cols)
    have gr:=(q0Z0 w sr g1).1
    obtain ⟨sm',e⟩:=q124 (j:=snapG j) (0,0) 0 g1
    rw [g2] at e gr
    have hd:doneS (snapG j) u=true:=by
     cases d:doneS (snapG j) u with
     |true=>rfl
     |false=>
      obtain ⟨c,e1,-⟩:=q0Yi w ((q04a _ _).2 ⟨gr,d⟩)
      rw [c2] at e1;cases e1
    unfold toldF toldR
    rw [e]
    simp [hd]
   simp only [ht,decide_true] at k3
   simp only [if_pos h] at hw
   have hl2:(n.length:Int)≤((snapG j).items.length:Int)+lineN (snapG j).notes+(snapG j).floats.length:=hl
   generalize ((snapG j).items.length:Int)+lineN (snapG j).notes+(snapG j).floats.length=B at*
   generalize snapG j=J at*
   simp only [vJob,cJobW,cGeom,List.cons_append,List.nil_append] at hw
   simp [St.enter,q000,subs,q001,fldvV,solN,sd,l1,b1,aw,hw,k1,k2,k3,hl2]
  ·simp only [if_neg h] at hw
   simp only [vJob,cGeom,List.cons_append,List.nil_append] at hw
   simp [St.enter,q000,subs,q001,fldvV,solN,sd,l1,b1,aw,hw]
end Go.EnvOf
