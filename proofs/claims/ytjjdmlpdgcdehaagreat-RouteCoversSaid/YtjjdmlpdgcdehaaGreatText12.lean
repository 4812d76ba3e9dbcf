/- The program's functions and the document's, evaluated. -/
import Derived.Test.YtjjdmlpdgcdehaaGreatText11
import Derived.Test.YtjjdmlpdgcdehaaGreatText9
import Derived.Test.YtjjdmlpdgcdehaaGreatText10
import Derived.Test.YtjjdmlpdgcdehaaGreatText5
import Derived.Test.YtjjdmlpdgcdehaaGreatText2
import Derived.Test.YtjjdmlpdgcdehaaGreatText3
set_option linter.unusedSimpArgs false
set_option linter.unusedVariables false
namespace Go.EnvOf
open Go Go.Eng
set_option maxRecDepth 100000
abbrev cAsk (j:Job) (s:Stt) (c:Colm):List V:=vW j::(cStt s++cColm c++cJobW j)
abbrev vAsk (j:Job) (s:Stt) (c:Colm):V:= .agg (cAsk j s c)
section
variable (j:Job) (w:wfJ j) (s:Stt) (c:Colm)
theorem q0ia (H:Heap):clD EE (.p (.fn 179)) [vAsk j s c] H=some (vB (decide (s.at_=j.items.length)),none):=by
 rw [q002 _ _ _ _ _ _ (noP _) fn179]
 have wl:=fun H=>q07e j H
 have ll:=fun H=>q021 j.items H
 simp only [vAsk,cAsk,cStt,cColm,cJobW,cGeom,Zd,Zf]
 simp [zEc,wl,ll]
theorem q0ib (H:Heap):clD EE (.p (.fn 190)) [vAsk j s c] H=some (vB (decide (c.to≠s.at_)),none):=by
 rw [q002 _ _ _ _ _ _ (noP _) fn190]
 simp only [vAsk,cAsk,cStt,cColm,cJobW,cGeom,Zd,Zf]
 simp [zEc]
include w in
theorem q0tw (H:Heap):clD EE (.p (.fn 180)) [vAsk j s c] H=some (vB (!q022 j s),none):=by
 rw [q002 _ _ _ _ _ _ (noP _) fn180]
 have fl:=fun H=>q0b4 j w.w s H
 simp only [vAsk,cAsk,cStt,cColm,cJobW,cGeom,Zd,Zf]
 simp [zEc,fl]
include w in
theorem q0tx (H:Heap):clD EE (.p (.fn 182)) [vAsk j s c] H=some (vB (!(brkF j.items s.at_).contains c.to),none):=by
 rw [q002 _ _ _ _ _ _ (noP _) fn182]
 have wl:=fun H=>q07e j H
 have br:=fun H=>q0vh j.items w.w.n1 s.at_ H
 have hl:(brkF j.items s.at_).length<=1000000:=by
  unfold brkF brkN
  rw [Z0]
  have:=List.length_filter_le (fun (m:Nat)=>decide ((m:Int)<=q010 j.items s.at_)&&mayN j.items m) (List.range' (pos s.at_+1) (j.items.length-pos s.at_))
  rw [List.length_range'] at this
  have:=w.w.n1
  omega
 have hi:=fun H=>q0tv (brkF j.items s.at_) c.to hl H
 generalize brkF j.items s.at_=B at*
 simp only [vAsk,cAsk,cStt,cColm,cJobW,cGeom,Zd,Zf]
 simp [zEc,wl,br,hi]
include w in
theorem q0Bh (H:Heap):clD EE (.p (.fn 185)) [vAsk j s c] H=some (vB (!mayPc j.notes (spotS j s c.to) c.notes),none):=by
 rw [q002 _ _ _ _ _ _ (noP _) fn185]
 have sp:=fun H=>q07t j w.w s c.to H
 have my:=fun H=>q0d1 j.notes (spotS j s c.to) (q08n j w s _) c.notes H
 generalize spotS j s c.to=q at*
 simp only [vAsk,cAsk,cStt,cColm,cJobW,cGeom,Zd,Zf]
 simp [zEc,sp,my]
include w in
theorem q0p9 (c2:c.top.length<=1000000) (c3:c.bot.length<=1000000) (to:Int) (H:Heap):clD EE (.p (.fn 188)) [vAsk j s c,vI to] H=some (vB (setF j s c to),none):=by
 rw [q002 _ _ _ _ _ _ (noP _) fn188]
 have o1:=fun H=>of_ev j.floats c.top H w.w.n3 c2
 have o2:=fun H=>of_ev j.floats c.bot H w.w.n3 c3
 have a1:=fun x y H=>q0Bm x y H
 have n1:=fun x H=>q0pc j.floats x c.top H w.w.n3 c2
 have n2:=fun x H=>q0pc j.floats x c.bot H w.w.n3 c3
 have mp:=fun H=>q0gw j H
 have hd:=fun H=>q09v j.items j.floats to H
 change∀H,clD EE _ _ H=some (vC (q01i j to),none) at hd
 have re:=fun H=>in_ev (q0b1 j s c) (q01i j to) H
 unfold setF
 unfold q0b1 at*
 generalize ofL j.floats c.top=x1 at*
 generalize ofL j.floats c.bot=x2 at*
 generalize hm:addC s.h x1=m1 at*
 generalize hn:addC m1 x2=m2 at*
 simp only [vAsk,cAsk,cStt,cColm,cJobW,cGeom,Zd,Zf]
 cases e1:nextQ j.floats s.h c.top with
 |false=>
  have n1':=fun H=>n1 s.h H
  rw [e1] at n1'
  simp [zEc,o1,o2,a1,hm,hn,n1']
 |true=>
  have n1':=fun H=>n1 s.h H
  rw [e1] at n1'
  cases e2:nextQ j.floats m1 c.bot with
  |false=>
   have n2':=fun H=>n2 m1 H
   rw [e2] at n2'
   simp [zEc,o1,o2,a1,hm,hn,n1',n2']
  |true=>
   have n2':=fun H=>n2 m1 H
   rw [e2] at n2'
   simp [zEc,o1,o2,a1,hm,hn,n1',n2',mp,hd,re]
include w in
theorem q0xe (c2:c.top.length<=1000000) (c3:c.bot.length<=1000000) (H:Heap):clD EE (.p (.fn 187)) [vAsk j s c] H=some (vB (!(setF j s c c.to&&fitsC j c)),none):=by
 rw [q002 _ _ _ _ _ _ (noP _) fn187]
 have st:=fun H=>q0p9 j w s c c2 c3 c.to H
 have ft:=fun H=>q0xt j.g j.floats (c.top,c.bot) H c2 c3
 unfold fitsC
 simp only [vAsk,cAsk,cStt,cColm,cJobW,vGeom,cGeom,Zd,Zf] at st ft⊢
 generalize (fitT j.g j.floats c.top&&fitB j.g j.floats c.bot)=F at*
 cases e:setF j s c c.to with
 |false=>rw [e] at st;simp [zEc,st]
 |true=>rw [e] at st;simp [zEc,st,ft]
include w in
theorem q0lv (hf: ∀x∈j.items,fairI x) (c1:c.notes.length<=1000000) (c2:c.top.length<=1000000) (c3:c.bot.length<=1000000) (H:Heap):clD EE (.p (.fn 90)) [vAsk j s c] H=some (vB (q02r j s c).over,none):=by
 rw [q002 _ _ _ _ _ _ (noP _) fn90]
 have fc:=fun H=>q0z3 j w.w hf s c c1 c2 c3 H
 generalize q02r j s c=F at*
 simp only [vAsk,cAsk,cStt,cColm,cJobW,cGeom,Zd,Zf]
 simp [zEc,fldvV,fc]
theorem q0xf (H:Heap):clD EE (.p (.fn 178)) [vAsk j s c] H=some (vB (decide (c.notes≠[])),none):=by
 rw [q002 _ _ _ _ _ _ (noP _) fn178]
 have e:(0<(c.notes.length:Int))=(c.notes≠[]):=by simp [List.length_pos_iff]
 simp only [vAsk,cAsk,cStt,cColm,cJobW,cGeom,Zd,Zf]
 cases hn:c.notes<;>simp [zEc,hn]
include w in
theorem q0ty (H:Heap):clD EE (.p (.fn 194)) [vAsk j s c] H=some (vB (mayPc j.notes (q02h (spotS j s s.at_)) c.notes),none):=by
 rw [q002 _ _ _ _ _ _ (noP _) fn194]
 have sp:=fun H=>q07t j w.w s s.at_ H
 have my:=fun H=>q0d1 j.notes (q02h (spotS j s s.at_)) (q09f j w s _) c.notes H
 generalize spotS j s s.at_=q at*
 unfold q02h at*
 simp only [vAsk,cAsk,cStt,cColm,cJobW,cGeom,Zd,Zf]
 simp [zEc,sp,my]
include w in
theorem q0tz (hf: ∀x∈j.items,fairI x) (c1:c.notes.length<=1000000) (c2:c.top.length<=1000000) (c3:c.bot.length<=1000000) (H:Heap):
  clD EE (.p (.fn 191)) [vAsk j s c] H=some (vB (decide (c.top=[]\/8<c.top.length\/c.bot≠[]\/setF j s c s.at_=false\/(q02r j s c).over=true)),none):=by
 rw [q002 _ _ _ _ _ _ (noP _) fn191]
 have st:=fun H=>q0p9 j w s c c2 c3 s.at_ H
 have ov:=fun H=>q0lv j w s c hf c1 c2 c3 H
 simp only [vAsk,cAsk,cStt,cColm,cJobW,vGeom,cGeom,Zd,Zf] at st ov⊢
 generalize (q02r j s c).over=F at*
 by_cases t0:c.top=[]
 ·simp only [t0] at*
  simp [zEc]
 ·have t1: ¬(c.top.length:Int)=0:=by
   have:=List.length_pos_iff.2 t0;omega
  have t1':=eq_false t0
  by_cases t2:8<c.top.length
  ·have t3:(8:Int)<c.top.length:=by omega
   simp [zEc,t1,t3,t0,t2]
  ·have t3: ¬(8:Int)<c.top.length:=by omega
   by_cases b0:c.bot=[]
   ·have b1: ¬0<c.bot.length:=by rw [b0];simp
    have b0:=eq_true b0
    cases e:setF j s c s.at_ with
    |false=>rw [e] at st;simp [zEc,t1,t3,t0,t2,b1,b0,st]
    |true=>
     rw [e] at st
     simp [zEc,t1,t3,t0,t2,b1,b0,st,ov]
   ·have b1:0<c.bot.length:=List.length_pos_iff.2 b0
    simp [zEc,t1,t3,t0,t2,b1,b0]
theorem q0Bi (H:Heap):clD EE (.p (.fn 192)) [vAsk j s c] H=some (vB (decide (c.to≠s.at_\/s.at_≠j.items.length)),none):=by
 rw [q002 _ _ _ _ _ _ (noP _) fn192]
 have m:=fun H=>q0ib j s c H
 have e:=fun H=>q0ia j s c H
 simp only [vAsk,cAsk,cStt,cColm,cJobW,vGeom,cGeom,Zd,Zf] at m e⊢
 by_cases h1:c.to=s.at_
 ·have h1:=eq_true h1
  by_cases h2:s.at_=j.items.length
  ·have h2:=eq_true h2
   simp [zEc,m,e,h1,h2]
  ·simp [zEc,m,e,h1,h2]
 ·simp [zEc,m,e,h1]
include w in
theorem q0xg (H:Heap):clD EE (.p (.fn 193)) [vAsk j s c] H=some (vB (decide (c.notes=[]\/mayPc j.notes (q02h (spotS j s s.at_)) c.notes=false)),none):=by
 rw [q002 _ _ _ _ _ _ (noP _) fn193]
 have l:=fun H=>q0ty j w s c H
 simp only [vAsk,cAsk,cStt,cColm,cJobW,vGeom,cGeom,Zd,Zf] at l⊢
 by_cases n0:c.notes=[]
 ·simp only [n0] at*
  simp [zEc]
 ·have n1: ¬(c.notes.length:Int)=0:=by
   have:=List.length_pos_iff.2 n0;omega
  cases e:mayPc j.notes (q02h (spotS j s s.at_)) c.notes<;>rw [e] at l<;>simp [zEc,n0,n1,l]
theorem q0xh (c2:c.top.length<=1000000) (c3:c.bot.length<=1000000) (H:Heap):clD EE (.p (.fn 195)) [vAsk j s c] H=some (vB (decide (c.top≠[]\/c.bot≠[])),none):=by
 rw [q002 _ _ _ _ _ _ (noP _) fn195]
 have w1:IntKind.i64.wrap ((c.top.length:Int)+c.bot.length)=c.top.length+c.bot.length:=w64 (by omega) (by omega)
 have e:decide (0<(c.top.length:Int)+c.bot.length)=decide (c.top≠[]\/c.bot≠[]):=by
  congr 1
  rw [eq_iff_iff]
  constructor
  ·intro h
   by_cases a:c.top=[]
   ·right;intro b;rw [a,b] at h;simp at h
   ·exact .inl a
  ·rintro (h|h)<;>have:=List.length_pos_iff.2 h<;>omega
 simp only [vAsk,cAsk,cStt,cColm,cJobW,vGeom,cGeom,Zd,Zf]
 rw [<-e]
 simp [zEc,w1]
end
def ruE (x:Int×Nat):List PV:=[.int .i64 x.1,.fn x.2]
def rules1:List (Int×Nat):=[(19,179),(18,180),(14,182),(15,185),(16,187)]
def rules2:List (Int×Nat):=[(19,190),(15,178),(16,191)]
def rules3:List (Int×Nat):=[(19,192),(15,193),(16,195)]
def q03u:List (V×V):=[(vI 1,.p (.sl (rules1.map ruE))),(vI 2,.p (.sl (rules2.map ruE))),(vI 3,.p (.sl (rules3.map ruE)))]
theorem q0ic (H:Heap):clD EE (.p (.fn 88)) [] H=some (.map H.length,some (H++[.map q03u],[])):=by
 rw [q002 _ _ _ _ _ _ (noP _) fn88]
 have m0: ∀es,mapAt (H++[.map es]) H.length=some es:=fun es=>by simp [mapAt]
 simp [zEc,m0,stmE,stmR,setM,findM,eqKey,keyB,q03u,rules1,rules2,rules3,ruE]
def q03j (k:Int):List (Int×Nat):=if k=1 then rules1 else if k=2 then rules2 else if k=3 then rules3 else []
theorem q0u0 (k:Int):lkmK .nils true (findM none (vI k) q03u 0)=some (.tup [if k=1\/k=2\/k=3 then .p (.sl ((q03j k).map ruE)) else .nils,vB (decide (k=1\/k=2\/k=3))]):=by
 unfold q03j
 by_cases k1:k=1
 ·simp [q03u,findM,eqKey,lkmK,k1]
 ·by_cases k2:k=2
  ·simp [q03u,findM,eqKey,lkmK,k2]
  ·by_cases k3:k=3
   ·simp [q03u,findM,eqKey,lkmK,k3]
   ·simp [q03u,findM,eqKey,lkmK,k1,k2,k3]
def q028:List (Int×Bool)->Int
 |[]=>0
 |x::r=>if x.2=true then x.1 else q028 r
def ckLoc (j:Job) (s:Stt) (c:Colm):List (Nat×List V):=[(4,cStt s),(5,cColm c),(9,cAsk j s c)]
def cqE (j:Job) (s:Stt) (c:Colm) (L:List (Int×Nat)) (H:Heap) (B:Nat) (i:Nat):St:=⟨[(0,vW j),(4,.lptr 4 0),(5,.lptr 5 0),(9,.lptr 9 0),(47,.p (.sl (L.map ruE))),(48,vI L.length),(49,vI i)],ckLoc j s c,H,B,[]⟩
def cqX (j:Job) (s:Stt) (c:Colm) (L:List (Int×Nat)) (H:Heap) (B:Nat):Ex×St:=(.exit 0,⟨[(0,vW j),(4,.lptr 4 0),(5,.lptr 5 0),(9,.lptr 9 0),(47,.p (.sl (L.map ruE))),(48,vI L.length),(49,vI L.length),(50,vB false)],ckLoc j s c,H,B,[]⟩)
def cqS (H:Heap) (B:Nat) (f:Nat->Bool) (_:Unit) (_:Nat) (x:Int×Nat):Unit⊕(Ex×St):=if f x.2=true then .inr (.ret,⟨[(6,vI x.1)],[],H,B,[]⟩) else .inl ()
theorem q0u1 (H:Heap) (B:Nat) (f:Nat->Bool) (fin:Ex×St): ∀(L:List (Int×Nat)) (i:Nat),(∀x∈L,x.1≠0)->rng (cqS H B f) (fun _=>fin) () i L=if q028 (L.map fun x=>(x.1,f x.2))=0 then fin else (.ret,⟨[(6,vI (q028 (L.map fun x=>(x.1,f x.2))))],[],H,B,[]⟩)
 |[],_,_=>by simp [rng,q028]
 |x::r,i,h=>by
  simp only [rng,cqS,Zo,q028]
  by_cases q:f x.2=true
  ·rw [if_pos q];simp only [if_pos q];rw [if_neg (h x (by simp))]
  ·rw [if_neg q];simp only [if_neg q];exact q0u1 H B f fin r (i+1) fun y hy=>h y (by simp [hy])
theorem cq_lp (j:Job) (s:Stt) (c:Colm) (L:List (Int×Nat)) (hn:L.length<=1000) (hz: ∀x∈L,x.1≠0) (f:Nat->Bool) (H:Heap) (B:Nat) (hL: ∀x∈L,clD EE (.p (.fn x.2)) [vAsk j s c] H=some (vB (f x.2),none)):
  evD EE q0Vi (cqE j s c L H B 0)=some (if q028 (L.map fun x=>(x.1,f x.2))=0 then cqX j s c L H B else (.ret,⟨[(6,vI (q028 (L.map fun x=>(x.1,f x.2))))],[],H,B,[]⟩)):=by
 rw [<-q0u1 H B f (cqX j s c L H B) L 0 hz]
 unfold q0Vi
 refine q013 L (fun (_:Unit) i=>cqE j s c L H B i) (fun _ _=>True) (cqS H B f) (fun _=>cqX j s c L H B) (fun _ _=>rfl) ?_ ?_ () 0 trivial (Zj _)
 ·rintro _ i x-hx
  have hlt:=(Za.1 hx).1
  have w1:IntKind.i64.wrap ((i:Int)+1)=((i+1:Nat):Int):=w64 (by omega) (by omega)
  have hix:=fun H k=>q00c H ruE (k:=k) (s:=2) hx rfl
  simp only [ruE] at hix
  have h1:=hL x (Zp hx)
  simp only [vAsk,cAsk,cStt,cColm,cJobW,cGeom,Zd,Zf] at h1
  unfold cqS
  cases q:f x.2 with
  |true=>
   rw [q] at h1
   simp [cqE,ckLoc,hlt,hix,subs,q001,h1]
  |false=>
   rw [q] at h1
   simp [cqE,ckLoc,hlt,hix,subs,q001,h1,w1]
 ·rintro _-
  simp [cqE,cqX,ckLoc]
section
variable (j:Job) (w:wfJ j) (hf: ∀x∈j.items,fairI x) (s:Stt) (c:Colm) (c1:c.notes.length<=1000000) (c2:c.top.length<=1000000) (c3:c.bot.length<=1000000)
def ruleB (n:Nat):Bool:=
 if n=179 then decide (s.at_=j.items.length) else if n=180 then !q022 j s else if n=182 then !(brkF j.items s.at_).contains c.to
 else if n=185 then !mayPc j.notes (spotS j s c.to) c.notes else if n=187 then !(setF j s c c.to&&fitsC j c)
 else if n=190 then decide (c.to≠s.at_) else if n=178 then decide (c.notes≠[])
 else if n=191 then decide (c.top=[]\/8<c.top.length\/c.bot≠[]\/setF j s c s.at_=false\/(q02r j s c).over=true)
 else if n=192 then decide (c.to≠s.at_\/s.at_≠j.items.length)
 else if n=193 then decide (c.notes=[]\/mayPc j.notes (q02h (spotS j s s.at_)) c.notes=false) else decide (c.top≠[]\/c.bot≠[])
include w hf c1 c2 c3 in
theorem q0xi (k:Int) (H:Heap): ∀x∈q03j k,clD EE (.p (.fn x.2)) [vAsk j s c] H=some (vB (ruleB j s c x.2),none):=by
 have e1:=q0ia j s c H
 have e2:=q0tw j w s c H
 have e3:=q0tx j w s c H
 have e4:=q0Bh j w s c H
 have e5:=q0xe j w s c c2 c3 H
 have e6:=q0ib j s c H
 have e7:=q0xf j s c H
 have e8:=q0tz j w s c hf c1 c2 c3 H
 have e9:=q0Bi j s c H
 have e10:=q0xg j w s c H
 have e11:=q0xh j s c c2 c3 H
 intro x hx
 unfold q03j at hx
 split at hx
 ·simp only [rules1,ZI,List.not_mem_nil,or_false] at hx
  rcases hx with rfl|rfl|rfl|rfl|rfl
  ·exact e1
  ·exact e2
  ·exact e3
  ·exact e4
  ·exact e5
 split at hx
 ·simp only [rules2,ZI,List.not_mem_nil,or_false] at hx
  rcases hx with rfl|rfl|rfl
  ·exact e6
  ·exact e7
  ·exact e8
 split at hx
 ·simp only [rules3,ZI,List.not_mem_nil,or_false] at hx
  rcases hx with rfl|rfl|rfl
  ·exact e9
  ·exact e10
  ·exact e11
 ·cases hx
theorem q0id (k:Int):(q03j k).length<=1000/\ ∀x∈q03j k,x.1≠0:=by
 unfold q03j
 split
 ·simp [rules1]
 split
 ·simp [rules2]
 split
 ·simp [rules3]
 ·simp
def ruleE (k:Int):Int:=q028 ((q03j k).map fun x=>(x.1,ruleB j s c x.2))
theorem q0lw (h: ¬(¬(c.k=1\/c.k=2\/c.k=3)\/openS j s=false\/c.frm≠s.at_)):(endE j s c=true/\ruleE j s c c.k=19)\/(endE j s c=false/\ruleE j s c c.k=kindE j s c):=by
 have hk:c.k=1\/c.k=2\/c.k=3:=Decidable.not_not.1 fun q=>h (.inl q)
 have ho:openS j s=true:=by
  cases q:openS j s with
  |true=>rfl
  |false=>exact absurd (.inr (.inl q)) h
 have hf:c.frm=s.at_:=Decidable.not_not.1 fun q=>h (.inr (.inr q))
 unfold endE
 simp only [decide_eq_true_eq,decide_eq_false_iff_not]
 unfold ruleE q03j kindE
 rcases hk with k|k|k
 ·rw [if_pos k,if_pos k]
  by_cases e:s.at_=j.items.length
  ·exact .inl ⟨.inr (.inr (.inr (.inr (.inl ⟨k,e⟩)))),by simp [rules1,q028,ruleB,e]⟩
  ·refine .inr ⟨by simp [ho,k,hf,e],?_⟩
   unfold textE
   cases a1:q022 j s<;>cases a2:(brkF j.items s.at_).contains c.to<;>cases a3:mayPc j.notes (spotS j s c.to) c.notes<;>cases a4:setF j s c c.to<;>cases a5:fitsC j c<;>
    simp only [rules1,Zo,ZL,q028,ruleB,a1,a2,a3,a4,a5]<;>simp [e]
 ·rw [if_neg (by omega),if_pos k,if_neg (by omega),if_pos k]
  by_cases e:c.to=s.at_
  ·refine .inr ⟨by simp [ho,k,hf,e],?_⟩
   unfold q0b2
   by_cases a1:c.notes=[]
   ·by_cases a2:c.top=[]\/8<c.top.length\/c.bot≠[]\/setF j s c s.at_=false\/(q02r j s c).over=true
    ·rw [if_neg (by simpa using a1),if_pos a2]
     have a2:=eq_true a2
     simp only [rules2,Zo,ZL,q028,ruleB,a2,a1,e]
     simp
    ·rw [if_neg (by simpa using a1),if_neg a2]
     have a2:=eq_false a2
     simp only [rules2,Zo,ZL,q028,ruleB,a2,a1,e]
     simp
   ·rw [if_pos a1]
    simp [rules2,q028,ruleB,a1,e]
  ·exact .inl ⟨.inr (.inr (.inr (.inr (.inr (.inl ⟨by omega,e⟩))))),by simp [rules2,q028,ruleB,e]⟩
 ·rw [if_neg (by omega),if_neg (by omega),if_pos k,if_neg (by omega),if_neg (by omega)]
  by_cases e:c.to=s.at_/\s.at_=j.items.length
  ·refine .inr ⟨by simp [ho,k,hf,e.1,e.2],?_⟩
   have e1:=eq_true e.1
   have e2:=eq_true e.2
   unfold noteE
   by_cases a1:c.notes=[]\/mayPc j.notes (q02h (spotS j s s.at_)) c.notes=false
   ·rw [if_pos a1]
    have a1:=eq_true a1
    simp only [rules3,Zo,ZL,q028,ruleB,a1,ne_eq,e1,e2]
    simp
   ·rw [if_neg a1]
    have a1:=eq_false a1
    by_cases a2:c.top≠[]\/c.bot≠[]
    ·rw [if_pos a2]
     have a2:=eq_true a2
     simp only [rules3,Zo,ZL,q028,ruleB,a1,a2,e1,e2]
     simp [e1,e2]
    ·rw [if_neg a2]
     have a2:=eq_false a2
     simp only [rules3,Zo,ZL,q028,ruleB,a1,a2,e1,e2]
     simp [e1,e2]
  ·refine .inl ⟨?_,?_⟩
   ·by_cases e1:c.to=s.at_
    ·exact .inr (.inr (.inr (.inr (.inr (.inr ⟨k,fun h=>e ⟨e1,h⟩⟩)))))
    ·exact .inr (.inr (.inr (.inr (.inr (.inl ⟨by omega,e1⟩)))))
   ·have e':(c.to≠s.at_\/s.at_≠j.items.length)=True:=eq_true (by
     by_cases e1:c.to=s.at_
     ·exact .inr fun h=>e ⟨e1,h⟩
     ·exact .inl e1)
    simp only [rules3,Zo,ZL,q028,ruleB,e']
    simp
theorem q0ny:q06c j s c=if¬(c.k=1\/c.k=2\/c.k=3)\/openS j s=false\/c.frm≠s.at_ then 19 else if ruleE j s c c.k≠0 then ruleE j s c c.k
  else if (q02r j s c).over=true/\sameC c ((q04r j s).getD q014)=false then 17 else 0:=by
 by_cases h: ¬(c.k=1\/c.k=2\/c.k=3)\/openS j s=false\/c.frm≠s.at_
 ·rw [if_pos h]
  unfold q06c
  rw [if_pos]
  unfold endE
  rw [decide_eq_true_eq]
  rcases h with h|h|h
  ·by_cases q:c.k<1
   ·exact .inr (.inl q)
   ·exact .inr (.inr (.inl (by omega)))
  ·exact .inl h
  ·exact .inr (.inr (.inr (.inl h)))
 ·rw [if_neg h]
  unfold q06c
  rcases q0lw j s c h with ⟨h1,h2⟩|⟨h1,h2⟩
  ·rw [if_pos h1,h2,if_pos (by omega)]
  ·rw [if_neg (by rw [h1];simp),h2]
include w hf c1 c2 c3 in
theorem q0a3 (H:Heap):clD EE (.p (.fn 33)) [vW j,vStt s,vColm c] H=some (vI (q06c j s c),none):=by
 rw [q002 _ _ _ _ _ _ (noP _) fn33,q0ny]
 have ru:=fun H=>q0ic H
 have m0:mapAt (H++[.map q03u]) H.length=some q03u:=by simp [mapAt]
 have lk:=q0u0 c.k
 have r:=fun H=>q03r j w.w s H
 have d:=fun H=>q0j3 j w.w s H
 have pl:=fun H=>q07d j H
 simp only [vJob,cGeom,Zd,Zf] at pl
 by_cases k:c.k=1\/c.k=2\/c.k=3
 ·simp only [if_pos k,decide_eq_true k] at lk
  have kk:=eq_true k
  cases b1:q01g j s with
  |false=>
   rw [b1] at r
   have o:openS j s=false:=by unfold openS;rw [b1];rfl
   simp [zEc,ru,m0,lk,r,o]
  |true=>
   rw [b1] at r
   cases b2:doneS j s with
   |true=>
    rw [b2] at d
    have o:openS j s=false:=by unfold openS;rw [b1,b2];rfl
    simp [zEc,ru,m0,lk,r,d,o]
   |false=>
    rw [b2] at d
    have o:openS j s=true:=by unfold openS;rw [b1,b2];rfl
    by_cases f:c.frm=s.at_
    ·have ff:=eq_true f
     have key:=cq_lp j s c (q03j c.k) (q0id c.k).1 (q0id c.k).2 (ruleB j s c) (H++[.map q03u]) H.length (q0xi j w hf s c c1 c2 c3 c.k _)
     have ov:=fun H=>q0lv j w s c hf c1 c2 c3 H
     have ls:=fun H=>q0qq j w s H
     have sm:=fun H=>q0vn c ((q04r j s).getD q014) c1 c2 c3 H
     unfold ruleE
     unfold vOC at ls
     generalize q028 _=E at*
     generalize q03j c.k=L at*
     generalize q02r j s c=F at*
     generalize (q04r j s).getD q014=Z at*
     simp only [vAsk,cAsk,cStt,cColm,cJobW,cGeom,Zd,Zf] at ov
     by_cases e0:E=0
     ·rw [if_pos e0] at key
      simp only [cqE,cqX,ckLoc,cAsk,cStt,cColm,cJobW,cGeom,Zd,Zf] at key
      simp at key
      obtain ⟨f1,f2,f3,f4,ovr,f6⟩:=F
      simp only at ov⊢
      cases ovr with
      |false=>simp [zEc,ru,m0,lk,r,d,o,ff,kk,pl,key,e0,ov]
      |true=>
       cases q:sameC c Z<;>rw [q] at sm<;>simp [zEc,ru,m0,lk,r,d,o,ff,kk,pl,key,e0,ov,ls,sm]
     ·rw [if_neg e0] at key
      simp only [cqE,ckLoc,cAsk,cStt,cColm,cJobW,cGeom,Zd,Zf] at key
      simp at key
      simp [zEc,ru,m0,lk,r,d,o,ff,kk,pl,key,e0]
    ·simp [zEc,ru,m0,lk,r,d,o,f]
 ·simp only [if_neg k,decide_eq_false k] at lk
  have kk:=eq_false k
  simp [zEc,ru,m0,lk,kk]
end
end Go.EnvOf
namespace Go.EnvOf
open Go Go.Eng
set_option maxRecDepth 100000
def q0Yo (j:Job):Stt->List Colm->Prop
 |_,[]=>True
 |s,c::r=>q06c j s c=0/\q0Yo j (nextS j s c) r
def goS (j:Job):Stt->List Colm->Stt
 |s,[]=>s
 |s,c::r=>goS j (nextS j s c) r
theorem q0Z0 {j:Job} (w:wfJ j): ∀ {l:List Colm} {s:Stt},rightP j s->q0Yo j s l->rightP j (goS j s l)/\q0Xw j s+l.length<=q0Xw j (goS j s l)
 |[],s,r,_=>⟨r,by simp [goS]⟩
 |c::l,s,r,h=>by
  obtain ⟨-,g2,g3⟩:=q0Y1 w h.1
  have ih:=q0Z0 w g2 h.2
  refine ⟨ih.1,?_⟩
  have:=ih.2
  simp only [goS,Zg]
  push_cast
  omega
def texP (l:List Colm):List (Int×Int):=l.flatMap fun c=>if c.k=1 then [(c.frm,c.to)] else []
def covP (p:Int->Bool) (n:Int):Int->List (Int×Int)->Prop
 |a,[]=> ∀k,a<=k->k<n->p k=true
 |a,x::r=>(∀k,a<=k->k<x.1->p k=true)/\a<=x.1/\x.1<x.2/\x.2<=n/\covP p n x.2 r
theorem q14j {l:List Item} {n k:Int} (h0:0<=n) (h1:n<=k) (h2:k<trimF l n):q04c (rd l k)=true:=by
 have hle:=q0Zi l n
 have hx:=q026 l k (by omega) (by omega)
 have e:putN l n=n.toNat:=by unfold putN;omega
 unfold trimF trimN at h2
 rw [e] at h2
 have h:((l.drop n.toNat).take ((l.drop n.toNat).takeWhile q04c).length)[k.toNat-n.toNat]? =some (rd l k):=by
  rw [List.getElem?_take_of_lt (by omega),List.getElem?_drop,show n.toNat+(k.toNat-n.toNat)=k.toNat by omega]
  exact hx
 have hm:=Zp h
 rw [q0Yv] at hm
 exact q0Y4 hm
theorem q159 {j:Job} {s:Stt} {c:Colm} (h:q06c j s c=0):c.frm=s.at_/\(c.k=1->c.to∈brkF j.items s.at_):=by
 unfold q06c at h
 by_cases he:endE j s c=true
 ·rw [if_pos he] at h;cases h
 rw [if_neg he] at h
 by_cases hk:kindE j s c≠0
 ·rw [if_pos hk] at h;exact absurd h hk
 have hk:kindE j s c=0:=by omega
 unfold endE at he
 simp only [decide_eq_true_eq,not_or,not_and,Bool.not_eq_false,Int.not_lt] at he
 refine ⟨Decidable.not_not.1 he.2.2.2.1,fun k1=> ?_⟩
 unfold kindE at hk
 rw [if_pos k1] at hk
 unfold textE at hk
 split at hk
 ·cases hk
 split at hk
 ·cases hk
 rename_i f1 f2
 simpa using f2
theorem q14e {j:Job} (w:wfJ j) {p:Int->Bool} (hp: ∀k:Int,0<=k->k<j.items.length->q04c (rd j.items k)=true->p k=true): ∀ {l:List Colm} {s:Stt} {a:Int},rightP j s->0<=a->a<=s.at_->
  (∀k:Int,a<=k->k<s.at_->q04c (rd j.items k)=true)->q0Yo j s l->(goS j s l).at_=j.items.length->covP p j.items.length a (texP l)
 |[],s,a,_,h0,_,hl,_,he=>fun k h1 h2=>hp k (by omega) h2 (hl k h1 (by unfold goS at he;omega))
 |c::l,s,a,_,h0,h1,hl,h,he=>by
  obtain ⟨r,g2,-⟩:=q0Y1 w h.1
  obtain ⟨f,t⟩:=q159 h.1
  have a1:=r.at1
  by_cases k:c.k=1
  ·have hb:=q0Bd r.at0 (t k)
   have e:texP (c::l)=(c.frm,c.to)::texP l:=by simp [texP,k]
   have en:(nextS j s c).at_=trimF j.items c.to:=by
    unfold nextS
    rw [if_pos ((q02k j s).2 r)]
    simp only [if_pos k]
   have a0:=r.at0
   rw [e]
   refine ⟨fun x q1 q2=>hp x (by omega) (by simp only at q2;omega) (hl x q1 (by simp only at q2;omega)),by simp only;omega,by simp only;omega,hb.2.1,?_⟩
   exact q14e w hp g2 (by simp only;omega) (by rw [en];exact q10y (by omega) hb.2.1) (fun x q1 q2=>q14j (by omega) q1 (by rw [en] at q2;exact q2)) h.2 he
  ·have e:texP (c::l)=texP l:=by simp [texP,k]
   have en:(nextS j s c).at_=s.at_:=by
    unfold nextS
    rw [if_pos ((q02k j s).2 r)]
    simp only [if_neg k]
   rw [e]
   exact q14e w hp g2 h0 (by rw [en];exact h1) (fun x q1 q2=>hl x q1 (by rw [en] at q2;exact q2)) h.2 he
def q123 (s:Stt):List PV:=[.int .i64 s.at_,.int .i64 s.col,.int .i64 s.note,.int .i64 s.line,.int .i64 s.h.a,.int .i64 s.h.b,.int .i64 s.h.c]
@[simp] theorem q13o (s:Stt):(q123 s).length=7:=rfl
def addCs (a b:Int×Int):Int×Int:=(addM a.1 b.1,addM a.2 b.2)
abbrev roB2 (j:Job) (sm:Int×Int) (s:Stt) (v:V):List V:=[vW j,vI sm.1,vI sm.2,vI s.at_,vI s.col,vI s.note,vI s.line,vI s.h.a,vI s.h.b,vI s.h.c,v]
def roH2 (H:Heap) (j:Job) (sm:Int×Int) (s:Stt) (L:List Stt):Heap:=H++[DObj.row 7 (upV (L.map q123)),DObj.box (roB2 j sm s (.row H.length L.length 0 L.length))]
theorem set0 (H:Heap) (a b x:DObj):(H++[a,b]).set H.length x=H++[x,b]:=by rw [List.set_append_right _ _ (Zm _),Nat.sub_self];rfl
theorem set1 (H:Heap) (a b x:DObj):(H++[a,b]).set (H.length+1) x=H++[a,x]:=by rw [List.set_append_right _ _ (by omega)];simp
theorem box1 (H:Heap) (a:DObj) (cs:List V):Eng.boxAt (H++[a,.box cs]) (H.length+1)=some cs:=by
 unfold Eng.boxAt
 rw [ZD (by omega)];simp
theorem row0 (H:Heap) (s:Nat) (es:List (List V)) (b:DObj):Eng.rowAt (H++[.row s es,b]) H.length=some (s,es):=by
 unfold Eng.rowAt
 rw [ZD (Zm _),Nat.sub_self];rfl
theorem len2 (H:Heap) (a b:DObj):(H++[a,b]).length=H.length+2:=by simp
theorem q12l (H:Heap) (a:DObj) (j:Job) (sm:Int×Int) (s:Stt) (v:V) (x y:Int):clD EE (.p (.fn 110)) [.ptr (H.length+1) 1,vCost x y] (H++[a,.box (roB2 j sm s v)])=some (.tup [],some (H++[a,.box (roB2 j (addCs sm (x,y)) s v)],[H.length+1])):=by
 rw [q002 _ _ _ _ _ _ (noP _) fn110]
 have c:=fun a b c d H=>q0Uk a b c d H
 have b1:=fun cs=>box1 H a cs
 simp [zEc,c,b1,set1,addCs]
theorem q125 (j:Job) (w:okW j) (H:Heap):clD EE (.p (.fn 60)) [vW j] H=some (.ptr (H.length+1) 0,some (roH2 H j (0,0) (q0Y3 j) [q0Y3 j],[])):=by
 rw [q002 _ _ _ _ _ _ (noP _) fn60]
 have st:=fun H=>q0Zz j w H
 unfold roH2
 generalize q0Y3 j=s at*
 simp [zEc,st,q123,rowI,okEl,upV]
section
variable (j:Job) (s:Stt) (c:Colm) (e:Int) (hc: ∀H,clD EE (.p (.fn 33)) [vW j,vStt s,vColm c] H=some (vI e,none))
 (hk:e=0->(∀H,clD EE (.p (.fn 46)) [vW j,vStt s,vColm c] H=some (vCost (costC j s c).1 (costC j s c).2,none))/\ ∀H,clD EE (.p (.fn 83)) [vW j,vStt s,vColm c] H=some (vStt (nextS j s c),none))
include hc hk
theorem q127 (H:Heap) (sm:Int×Int) (L:List Stt) (hL:L.length<=1000000):clD EE (.p (.fn 62)) [.ptr (H.length+1) 0,vColm c] (roH2 H j sm s L)=if e=0 then some (vI 0,some (roH2 H j (addCs sm (costC j s c)) (nextS j s c) (L++[nextS j s c]),[H.length+1,H.length,H.length+1,H.length+1])) else some (vI e,none):=by
 rw [q002 _ _ _ _ _ _ (noP _) fn62]
 unfold roH2
 have b1:=fun a cs=>box1 H a cs
 have r1:=fun s es b=>row0 H s es b
 by_cases h:e=0
 ·rw [if_pos h]
  obtain ⟨k1,k2⟩:=hk h
  have hc:=hc
  rw [h] at hc
  have sp:=fun a s v x y=>q12l H a j sm s v x y
  have hm:L.length+1<most:=by unfold most;omega
  generalize costC j s c=C at*
  obtain ⟨C1,C2⟩:=C
  generalize nextS j s c=n at*
  simp [zEc,b1,r1,set0,set1,len2,hc,k1,k2,sp,hm,q123]
 ·rw [if_neg h]
  simp [zEc,b1,r1,hc,h]
end
def runF (ck:Stt->Colm->Int) (j:Job):Int×Int->Stt->Nat->List Colm->(Int×Int)×Stt×Int×Nat
 |sm,s,i,[]=>(sm,s,0,i)
 |sm,s,i,c::r=>if ck s c=0 then runF ck j (addCs sm (costC j s c)) (nextS j s c) (i+1) r else (sm,s,ck s c,i)
def stF (ck:Stt->Colm->Int) (j:Job):Stt->List Colm->List Stt
 |_,[]=>[]
 |s,c::r=>if ck s c=0 then nextS j s c::stF ck j (nextS j s c) r else []
structure Asks (ck:Stt->Colm->Int) (j:Job) (c:Colm):Prop where
 ask: ∀s H,clD EE (.p (.fn 33)) [vW j,vStt s,vColm c] H=some (vI (ck s c),none)
 cost: ∀s,ck s c=0-> ∀H,clD EE (.p (.fn 46)) [vW j,vStt s,vColm c] H=some (vCost (costC j s c).1 (costC j s c).2,none)
 next: ∀s,ck s c=0-> ∀H,clD EE (.p (.fn 83)) [vW j,vStt s,vColm c] H=some (vStt (nextS j s c),none)
abbrev takeV (H:Heap):V:= .fn (.func 62) [.ptr (H.length+1) 0] []
def roqE (l:List Colm) (H G:Heap) (d:List Nat) (i:Nat):St:=⟨[(0,vCos l),(1,takeV H),(9,vCos l),(10,vI l.length),(11,vI i)],[],G,H.length+2,d⟩
def roqX (l:List Colm) (H G:Heap) (d:List Nat):Ex×St:=(.exit 0,⟨[(0,vCos l),(1,takeV H),(9,vCos l),(10,vI l.length),(11,vI l.length),(12,vB false)],[],G,H.length+2,d⟩)
def roqY (H G:Heap) (d:List Nat) (i:Nat) (e:Int):Ex×St:=(.ret,⟨[(4,vI i),(5,vI e)],[],G,H.length+2,d⟩)
section
variable (ck:Stt->Colm->Int) (j:Job) (l:List Colm) (H:Heap) (s0:Stt)
def roqG (d:List Nat) (sm:Int×Int) (s:Stt) (L:List Stt) (i:Nat):Prop:=(∀x∈d,H.length<=x)/\(d=[]->sm=(0,0)/\s=s0/\L=[s0])/\L.length<=i+1
def roqR (i:Nat) (S:St):Prop:= ∃sm s L d,S=roqE l H (roH2 H j sm s L) d i/\roqG H s0 d sm s L i/\runF ck j (0,0) s0 0 l=runF ck j sm s i (l.drop i)/\s0::stF ck j s0 l=L++stF ck j s (l.drop i)
def roqF (r:Ex×St):Prop:= ∃sm s L d e i,(r=roqX l H (roH2 H j sm s L) d/\e=0/\i=l.length\/r=roqY H (roH2 H j sm s L) d i e)/\roqG H s0 d sm s L i/\runF ck j (0,0) s0 0 l=(sm,s,e,i)/\s0::stF ck j s0 l=L
theorem q13c (hl:l.length<=1000000) (ha: ∀c∈l,Asks ck j c) (S:St) (hS:roqR ck j l H s0 0 S): ∃r,evD EE q0Vj S=some r/\roqF ck j l H s0 r:=by
 unfold q0Vj
 refine q0vo l (roqR ck j l H s0) (roqF ck j l H s0) (by rintro i S ⟨sm,s,L,d,rfl,-⟩;rfl) ?_ ?_ _ 0 S rfl hS (Zj _)
 ·rintro i x S ⟨sm,s,L,d,rfl,⟨g1,g2,g3⟩,hr,hs⟩ hx
  have hlt:=(Za.1 hx).1
  have hd:l.drop i=x::l.drop (i+1):=by
   rw [ZA hlt]
   congr 1
   exact (Za.1 hx).2
  rw [hd] at hr hs
  have hA:=ha x (Zp hx)
  have hix:=fun H k=>q00c H q148 (k:=k) (s:=6) hx rfl
  have w1:IntKind.i64.wrap ((i:Int)+1)=((i+1:Nat):Int):=w64 (by omega) (by omega)
  have tk:=q127 j s x (ck s x) (hA.ask s) (fun h=>⟨hA.cost s h,hA.next s h⟩) H sm L (by omega)
  simp only [runF] at hr
  simp only [stF] at hs
  by_cases h:ck s x=0
  ·rw [if_pos h] at tk hr hs
   have hb1:H.length<H.length+2:=by omega
   have hb2:H.length+1<H.length+2:=by omega
   refine .inl ⟨roqE l H (roH2 H j (addCs sm (costC j s x)) (nextS j s x) (L++[nextS j s x])) ([H.length+1,H.length,H.length+1,H.length+1].foldr (addD (H.length+2)) d) (i+1),?_,_,_,_,_,rfl,⟨?_,?_,?_⟩,hr,by rw [hs,Zx];rfl⟩
   ·generalize addCs sm (costC j s x)=C at*
    generalize nextS j s x=n at*
    generalize roH2 H j C n (L++[n])=G2 at*
    simp only [vColm] at tk
    simp [roqE,hlt,hix,q148,subs,q001,tk,w1]
   ·intro y hy
    rcases q06d hy with hy|hy
    ·simp at hy;omega
    ·exact g1 y hy
   ·intro h0
    have:H.length+1∈[H.length+1,H.length,H.length+1,H.length+1].foldr (addD (H.length+2)) d:=q09u (by simp) hb2
    rw [h0] at this;cases this
   ·simp;omega
  ·rw [if_neg h] at tk hr hs
   refine .inr ⟨roqY H (roH2 H j sm s L) d i (ck s x),?_,by simp [roqY],sm,s,L,d,_,i,.inr rfl,⟨g1,g2,g3⟩,hr,by rw [hs,List.append_nil]⟩
   generalize roH2 H j sm s L=G at*
   generalize ck s x=e at*
   simp [roqE,roqY,hlt,hix,q148,subs,q001,tk,w1,h]
 ·rintro S ⟨sm,s,L,d,rfl,g,hr,hs⟩
  rw [List.drop_length] at hr hs
  refine ⟨roqX l H (roH2 H j sm s L) d,?_,by simp [roqX],sm,s,L,d,0,l.length,.inl ⟨rfl,rfl,rfl⟩,g,hr,by rw [hs];exact List.append_nil _⟩
  simp [roqE,roqX]
theorem q12g {B:Nat}: ∀ {ds:List Nat},(∀x∈ds,B<=x)->ds.foldr (addD B) []=[]
 |[],_=>rfl
 |x::r,h=>by
  have:=h x (by simp)
  rw [List.foldr_cons,q12g fun y hy=>h y (by simp [hy])]
  unfold addD
  rw [if_neg (by omega)]
theorem q128 (hl:l.length<=1000000) (ha: ∀c∈l,Asks ck j c):
  ∃sm s e i r,runF ck j (0,0) s0 0 l=(sm,s,e,i)/\clD EE (.p (.fn 61)) [vCos l,takeV H] (roH2 H j (0,0) s0 [s0])=some (.tup [vI (i:Nat),vI e],r)/\hpOf (roH2 H j (0,0) s0 [s0]) r=roH2 H j sm s (s0::stF ck j s0 l)/\ ∀x∈dsOf r,H.length<=x:=by
 obtain ⟨r,k1,sm,s,L,d,e,i,k2,⟨g1,g2,g3⟩,k3,k4⟩:=q13c ck j l H s0 hl ha (roqE l H (roH2 H j (0,0) s0 [s0]) [] 0) ⟨_,_,_,_,rfl,⟨by simp,fun _=>⟨rfl,rfl,rfl⟩,by simp⟩,rfl,rfl⟩
 rw [k4]
 refine ⟨sm,s,e,i,if d=[] then none else some (roH2 H j sm s L,d),k3,?_,?_,?_⟩
 ·rw [q002 _ _ _ _ _ _ (noP _) fn61]
  have hln:(roH2 H j (0,0) s0 [s0]).length=H.length+2:=by unfold roH2;exact len2 ..
  generalize roH2 H j (0,0) s0 [s0]=G0 at*
  generalize roH2 H j sm s L=G at*
  rcases k2 with ⟨rfl,rfl,rfl⟩|rfl
  ·simp only [roqE,roqX] at k1
   simp at k1
   simp [zEc,hln,k1]
  ·simp only [roqE,roqY] at k1
   simp at k1
   simp [zEc,hln,k1]
 ·by_cases h:d=[]
  ·obtain ⟨rfl,rfl,rfl⟩:=g2 h
   rw [if_pos h];rfl
  ·rw [if_neg h];rfl
 ·by_cases h:d=[]
  ·rw [if_pos h];intro x hx;cases hx
  ·rw [if_neg h];exact g1
end
structure Toldr where
 sum:Int×Int
 fin:Stt
 e:Int
 at_:Int
 deriving DecidableEq
abbrev vTold (t:Toldr):V:= .agg [vI t.sum.1,vI t.sum.2,vI t.fin.at_,vI t.fin.col,vI t.fin.note,vI t.fin.line,vI t.fin.h.a,vI t.fin.h.b,vI t.fin.h.c,vI t.e,vI t.at_]
def toldR (j:Job) (r:(Int×Int)×Stt×Int×Nat):Toldr:=
 if r.2.2.1≠0 then ⟨r.1,r.2.1,r.2.2.1,r.2.2.2⟩ else if doneS j r.2.1=true then ⟨r.1,r.2.1,0,0⟩ else ⟨r.1,r.2.1,19,r.2.2.2⟩
def toldF (ck:Stt->Colm->Int) (j:Job) (l:List Colm):Toldr:=toldR j (runF ck j (0,0) (q0Y3 j) 0 l)
theorem q12d (H:Heap) (a:DObj) (j:Job) (sm:Int×Int) (s:Stt) (v:V):clD EE (.p (.fn 63)) [.ptr (H.length+1) 1] (H++[a,.box (roB2 j sm s v)])=some (vCost sm.1 sm.2,none):=by
 rw [q002 _ _ _ _ _ _ (noP _) fn63]
 have b1:=fun cs=>box1 H a cs
 simp [zEc,b1]
theorem q12e (ck:Stt->Colm->Int) (j:Job) (w:okW j) (l:List Colm) (hl:l.length<=1000000) (ha: ∀c∈l,Asks ck j c) (H:Heap):clD EE (.p (.fn 18)) [vW j,vCos l] H=some (vTold (toldF ck j l),none):=by
 rw [q002 _ _ _ _ _ _ (noP _) fn18]
 have e0:eqnV NK.ptr false (vW j)=some (vB false):=rfl
 have bg:=q125 j w H
 obtain ⟨sm,s,e,i,r,k1,k2,k3,k4⟩:=q128 ck j l H (q0Y3 j) hl ha
 have k5:=q12g k4
 have dn:=fun H=>q0j3 j w s H
 have sc:=fun a v=>q12d H a j sm s v
 have b1:=fun a cs=>box1 H a cs
 have q1: ∀G:Heap,hpOf H (some (G,[]))=G:=fun _=>rfl
 have q2: ∀G:Heap,dsOf (some (G,[]))=[]:=fun _=>rfl
 unfold toldF toldR
 rw [k1]
 generalize roH2 H j (0,0) (q0Y3 j) [q0Y3 j]=G0 at*
 unfold roH2 at k3
 unfold takeV at k2
 by_cases h:e=0
 ·subst h
  cases d:doneS j s with
  |true=>
   rw [d] at dn
   simp [zEc,e0,bg,k2,q121,q1,q2,k3,k5,sc,b1,dn]
  |false=>
   rw [d] at dn
   simp [zEc,e0,bg,k2,q121,q1,q2,k3,k5,sc,b1,dn]
 ·simp [zEc,e0,bg,k2,q121,q1,q2,k3,k5,sc,b1,h]
theorem q14l (ck:Stt->Colm->Int) (j:Job) (w:okW j) (l:List Colm) (hl:l.length<=1000000) (ha: ∀c∈l,Asks ck j c) (H:Heap):clD EE (.p (.fn 51)) [vW j,vCos l] H=some (.p (.sl ((q0Y3 j::stF ck j (q0Y3 j) l).map q123)),none):=by
 rw [q002 _ _ _ _ _ _ (noP _) fn51]
 have e0:eqnV NK.ptr false (vW j)=some (vB false):=rfl
 have bg:=q125 j w H
 obtain ⟨sm,s,e,i,r,k1,k2,k3,k4⟩:=q128 ck j l H (q0Y3 j) hl ha
 have k5:=q12g k4
 have b1:=fun a cs=>box1 H a cs
 have r1:=fun s es b=>row0 H s es b
 have q1: ∀G:Heap,hpOf H (some (G,[]))=G:=fun _=>rfl
 have q2: ∀G:Heap,dsOf (some (G,[]))=[]:=fun _=>rfl
 generalize roH2 H j (0,0) (q0Y3 j) [q0Y3 j]=G0 at*
 generalize q0Y3 j::stF ck j (q0Y3 j) l=L at*
 unfold roH2 at k3
 unfold takeV at k2
 simp [zEc,e0,bg,k2,q121,q1,q2,k3,k5,b1,r1]
theorem q126 (ck:Stt->Colm->Int) (j:Job) (w:okW j) (l:List Colm) (hl:l.length<=1000000) (ha: ∀c∈l,Asks ck j c) (H:Heap):clD EE (.p (.fn 15)) [vW j,vCos l] H=some (vB (decide ((toldF ck j l).e=0)),none):=by
 rw [q002 _ _ _ _ _ _ (noP _) fn15]
 have k:=fun H=>q12e ck j w l hl ha H
 generalize toldF ck j l=t at*
 simp [zEc,fldvV,k]
theorem asksC (j:Job) (w:wfJ j) (hf: ∀x∈j.items,fairI x) (c:Colm) (h:c.notes.length<=1000000/\c.top.length<=1000000/\c.bot.length<=1000000):Asks (q06c j) j c:=
 ⟨fun s H=>q0a3 j w hf s c h.1 h.2.1 h.2.2 H,fun s _ H=>q13b j w.w hf s c h.1 h.2.1 h.2.2 H,fun s _ H=>q0Z3 j w.w s c h.1 h.2.1 h.2.2 H⟩
def q149 (c:Colm):Bool:=decide ((50:Int)<c.notes.length)||decide ((50:Int)<c.top.length)||decide ((50:Int)<c.bot.length)
def q14b (l:List Colm):Bool:=(l.take 60).any q149||decide ((60:Int)<l.length)
theorem q15a {l:List Colm} (h:q14b l=false):l.length<=60/\ ∀c∈l,c.notes.length<=50/\c.top.length<=50/\c.bot.length<=50:=by
 unfold q14b at h
 simp only [Bool.or_eq_false_iff,decide_eq_false_iff_not] at h
 have hl:l.length<=60:=by omega
 refine ⟨hl,fun c hc=> ?_⟩
 rw [Zy hl] at h
 have:=List.any_eq_false.1 h.1 c hc
 unfold q149 at this
 simp at this
 omega
def l30E (l:List Colm) (H:Heap) (i:Nat):St:=⟨[(0,vCos l),(3,vI i)],[],H,H.length,[]⟩
def l30X (l:List Colm) (H:Heap) (i:Nat):Ex×St:=(.exit 0,⟨[(0,vCos l),(3,vI i),(11,vB false)],[],H,H.length,[]⟩)
def l30B (H:Heap):Ex×St:=(.ret,⟨[(2,vB true)],[],H,H.length,[]⟩)
theorem q167 (l:List Colm) (H:Heap):evD EE q14q (l30E l H 0)=some (if (l.take 60).any q149=true then l30B H else l30X l H (min 60 l.length)):=by
 unfold q14q
 refine Eq.trans (q013 (l.take 60) (fun (_:Unit) i=>l30E l H i) (fun _ _=>True) (stepB q149 (l30B H)) (fun _=>l30X l H (min 60 l.length)) (fun _ _=>rfl) ?_ ?_ () 0 trivial (Zj _)) (by rw [q043];rfl)
 ·rintro _ i x-hx
  have hlt:=(Za.1 hx).1
  rw [ZC] at hlt
  have hx':l[i]? =some x:=by rw [List.getElem?_take] at hx;split at hx<;>simp_all
  have hl1:i<l.length:=by omega
  have hl2:(i:Int)<60:=by omega
  have w1:IntKind.i64.wrap ((i:Int)+1)=((i+1:Nat):Int):=w64 (by omega) (by omega)
  have hix:=fun H k=>q00c H q148 (k:=k) (s:=6) hx' rfl
  simp only [q148] at hix
  by_cases a:(50:Int)<x.notes.length
  ·simp [stepB,q149,l30E,l30B,hl1,hl2,hix,subs,a]
  ·by_cases b:(50:Int)<x.top.length
   ·simp [stepB,q149,l30E,l30B,hl1,hl2,hix,subs,a,b]
   ·by_cases c:(50:Int)<x.bot.length
    ·simp [stepB,q149,l30E,l30B,hl1,hl2,hix,subs,a,b,c]
    ·simp [stepB,q149,l30E,hl1,hl2,hix,subs,a,b,c,w1]
 ·rintro _-
  refine ⟨?_,by simp [l30X]⟩
  rw [ZC]
  by_cases h:l.length<=60
  ·have e:min 60 l.length=l.length:=by omega
   rw [e]
   simp [l30E,l30X,subs]
  ·have e:min 60 l.length=60:=by omega
   have h2:(60:Int)<l.length:=by omega
   rw [e]
   simp [l30E,l30X,subs,h2]
theorem q15b (l:List Colm) (H:Heap):clD EE (.p (.fn 12)) [vCos l] H=some (vB (q14b l),none):=by
 rw [q002 _ _ _ _ _ _ (noP _) fn12]
 have k0:=q167 l H
 unfold q14b
 simp only [l30E,l30X,l30B] at k0
 cases b:(l.take 60).any q149 with
 |true=>
  rw [b,if_pos rfl] at k0
  simp at k0
  simp [zEb,k0]
 |false=>
  rw [b,if_neg (by simp)] at k0
  simp at k0
  simp [zEb,k0]
theorem q15x (l:List Colm) (p:Nat) (h:p<=l.length) (H:Heap):slcI H 6 (vCos l) none (some (vI p))=some (vCos (l.take p)):=by
 have hh:q066 6 (l.map q148)=true:=by
  cases l with
  |nil=>rfl
  |cons x r=>simp [q066]
 have h2:(p:Int)<=l.length:=by omega
 simp [slcI,slcV,hh,h2]
def flatP (P:List (Int×Int)):List Int:=P.flatMap fun x=>[x.1,x.2]
def texS (acc:List Int) (_:Nat) (c:Colm):List Int:=if c.k=1 then acc++[c.frm,c.to] else acc
theorem q154: ∀(l:List Colm) (acc:List Int) (i:Nat),fold texS acc i l=acc++flatP (texP l)
 |[],acc,_=>by simp [fold,flatP,texP]
 |c::r,acc,i=>by
  simp only [fold,q154 r]
  unfold texS
  by_cases k:c.k=1
  ·simp [k,texP,flatP]
  ·simp [k,texP]
def txE (l:List Colm) (H:Heap) (acc:List Int) (i:Nat):St:=⟨[(3,.row H.length acc.length 0 acc.length),(6,vCos l),(7,vI l.length),(8,vI i)],[],H++[DObj.row 1 (upV (acc.map encI))],H.length,[]⟩
def txX (l:List Colm) (H:Heap) (acc:List Int):Ex×St:=(.exit 0,⟨[(3,.row H.length acc.length 0 acc.length),(6,vCos l),(7,vI l.length),(8,vI l.length),(9,vB false)],[],H++[DObj.row 1 (upV (acc.map encI))],H.length,[]⟩)
theorem q14t (l:List Colm) (hl:l.length<=1000000) (H:Heap):clD EE (.p (.fn 16)) [vCos l] H=some (sli (flatP (texP l)),none):=by
 have key:evD EE q14r (txE l H [] 0)=some (txX l H (flatP (texP l))):=by
  have e:=q154 l [] 0
  rw [Zf] at e
  rw [<-e]
  unfold q14r
  refine Eq.trans (q00u l (txE l H) (fun acc i=>acc.length<=2*i) texS (txX l H) (fun _ _=>rfl) ?_ ?_ [] 0 (by simp) (Zj _)) (by rw [ZG])
  ·intro acc i x hi hp
   have hlt:=(Za.1 hp).1
   have hix:=fun H k=>q00c H q148 (k:=k) (s:=6) hp rfl
   have w1:IntKind.i64.wrap ((i:Int)+1)=((i+1:Nat):Int):=w64 (by omega) (by omega)
   have hm:acc.length+2<most:=by unfold most;omega
   unfold texS
   by_cases k:x.k=1
   ·rw [if_pos k]
    refine ⟨?_,by simp;omega⟩
    simp [txE,hlt,hix,q148,subs,q001,w1,k,hm,encI]
   ·rw [if_neg k]
    refine ⟨?_,by omega⟩
    simp [txE,hlt,hix,q148,subs,q001,w1,k]
  ·intro acc _
   refine ⟨?_,by simp [txX]⟩
   simp [txE,txX]
 rw [q002 _ _ _ _ _ _ (noP _) fn16]
 generalize flatP (texP l)=q at*
 simp [txE,txX] at key
 simp [zEc,key]
def awJ:Job:=⟨⟨1,1,0,9,9,0,0,0,0,0,0,0,0,0,0,0,0,0,false⟩,[⟨1,9,0,0,0,0,0⟩,⟨2,0,0,0,0,0,0⟩,⟨1,3,0,0,0,0,0⟩],[],[]⟩
def awL:List Colm:=[⟨1,0,1,[],[],[]⟩,⟨1,2,3,[],[],[]⟩]
theorem awJ_snap:snapG awJ=awJ:=rfl
theorem q14o:(q02q awJ).1=0:=by decide+kernel
theorem q15y:toldF (q06c awJ) awJ awL=⟨(0,0),⟨3,1,0,0,⟨0,0,0⟩⟩,0,0⟩:=by decide+kernel
theorem q15z:(toldF (q06c awJ) awJ (awL.take 1)).e≠0:=by decide+kernel
theorem q15j:(stF (q06c awJ) awJ (q0Y3 awJ) awL).length=2:=by decide+kernel
theorem q15k:okJob awJ:=by
 refine ⟨by decide,by decide,by decide,by decide,by decide,by decide,by decide⟩
theorem q15l:small awJ:=⟨by decide,by decide,by decide,by decide⟩
theorem q15c (H:Heap):clD EE (.p (.fn 13)) [] H=some (.p (.bool true),none):=by
 rw [q002 _ _ _ _ _ _ (noP _) fn13]
 have hw:=q0Cs awJ q15k (awJ_snap.symm▸q15k) (by rw [awJ_snap];decide)
 have r:=(q0it awJ).1 q14o
 have w:wfJ awJ:=by have:=wf_of r (awJ_snap.symm▸q15l);rwa [awJ_snap] at this
 have hf: ∀x∈awJ.items,fairI x:=by have:=q0iz r;rwa [awJ_snap] at this
 have ha: ∀c∈awL,Asks (q06c awJ) awJ c:=fun c hc=>asksC _ w hf c (by
  simp only [awL,ZI,List.not_mem_nil,or_false] at hc
  rcases hc with rfl|rfl<;>simp)
 have k1:=fun H=>q12e (q06c awJ) awJ w.w awL (by decide) ha H
 have k2:=fun H=>q126 (q06c awJ) awJ w.w awL (by decide) ha H
 have k3:=fun H=>q126 (q06c awJ) awJ w.w (awL.take 1) (by decide) (fun c hc=>ha c (Z6 hc)) H
 have k4:=fun H=>q14l (q06c awJ) awJ w.w awL (by decide) ha H
 have ln:=q15j
 rw [q15y] at k1 k2
 simp only [q15z,decide_false] at k3
 simp only [decide_true] at k2
 rw [if_pos q14o,awJ_snap] at hw
 generalize stF (q06c awJ) awJ (q0Y3 awJ) awL=L at*
 generalize q0Y3 awJ=s at*
 have eJ:vJob awJ= .agg [vI 1,vI 1,vI 0,vI 9,vI 9,vI 0,vI 0,vI 0,vI 0,vI 0,vI 0,vI 0,vI 0,vI 0,vI 0,vI 0,vI 0,vI 0,vB false,.p (.sl [[.int .i64 1,.int .i64 9,.int .i64 0,.int .i64 0,.int .i64 0,.int .i64 0,.int .i64 0],[.int .i64 2,.int .i64 0,.int .i64 0,.int .i64 0,.int .i64 0,.int .i64 0,.int .i64 0],[.int .i64 1,.int .i64 3,.int .i64 0,.int .i64 0,.int .i64 0,.int .i64 0,.int .i64 0]]),.p (.sl []),.p (.sl [])]:=rfl
 rw [eJ] at hw
 have eL:vCos awL= .p (.sl [[.int .i64 1,.int .i64 0,.int .i64 1,.sl [],.sl [],.sl []],[.int .i64 1,.int .i64 2,.int .i64 3,.sl [],.sl [],.sl []]]):=rfl
 have eK:vCos (awL.take 1)= .p (.sl [[.int .i64 1,.int .i64 0,.int .i64 1,.sl [],.sl [],.sl []]]):=rfl
 rw [eL] at k1 k2 k4
 rw [eK] at k3
 have sl: ∀H a b,a.length=6->slcI H 6 (.p (.sl [a,b])) none (some (.p (.int .i64 1)))=some (.p (.sl [a])):=fun H a b h=>by simp [slcI,slcV,q066,h]
 simp [zEc,solN,sd,hw,k1,k2,k3,k4,ln,sl]
def penL (l:List Note) (p:List Piece):List Int:=if (rd p ((p.length:Int)-1)).n<0\/(l.length:Int)<=(rd p ((p.length:Int)-1)).n then [] else [penF (rd l (rd p ((p.length:Int)-1)).n).lines (rd l (rd p ((p.length:Int)-1)).n).pens (rd p ((p.length:Int)-1)).to]
def q14m (j:Job) (s:Stt) (c:Colm):List Int:=
 (if c.k=1 then (if (q02r j s c).over=false then [badG (q02r j s c).set_ j.g.grid (q02r j s c).last] else [])++[paraF j.g j.items c.to] else [j.g.spare])++
 (if 0<c.notes.length/\0<(nextS j s c).line then j.g.split::penL j.notes c.notes else [])++
 [W64 (j.g.defer*sumC (q120 j (nextS j s c)))]
theorem q14z {j:Job} (p:priced j) (s:Stt) (c:Colm):q0Tp (q02r j s c).over (q14m j s c)=q0Tp (q02r j s c).over (q12c j s c):=by
 have sp:=p.split
 have t:=q15s p c.notes
 apply Prod.ext
 ·rw [q0Ui,q0Ui]
 ·rw [q14i,q14i]
  congr 1
  unfold q14m q12c
  have w:W64 (j.g.split+tornF j.notes c.notes)=j.g.split+tornF j.notes c.notes:=w64 (by omega) (by omega)
  rw [w]
  have e:sumH (penL j.notes c.notes)=heldN (tornF j.notes c.notes):=by
   unfold penL tornF
   simp only
   split
   ·rfl
   ·simp [sumH]
  have k5:=q14c (n:=tornF j.notes c.notes) (by omega) (by omega)
  have k6:=q14c (n:=j.g.split) (by omega) (by omega)
  have k7:=q14c (n:=j.g.split+tornF j.notes c.notes) (by omega) (by omega)
  rw [q14a,q14a,q14a,q14a,q14a,q14a]
  by_cases ck:c.k=1
  ·cases (q02r j s c).over<;>by_cases tt:0<c.notes.length/\0<(nextS j s c).line<;>simp [ck,tt,sumH,e,k5,k6,k7]
  ·by_cases tt:0<c.notes.length/\0<(nextS j s c).line<;>simp [ck,tt,sumH,e,k5,k6,k7]
def upR:List Int->List (List V)
 |[]=>[]
 |[a]=>upV [[.int .i64 a]]
 |a::b::r=>upV [[.int .i64 a]]++upR (b::r)
theorem q15m: ∀l:List Int,upR l=upV (l.map encI)
 |[]=>rfl
 |[a]=>rfl
 |a::b::r=>by rw [upR,q15m (b::r)];rfl
def rcrE (l:List Int) (id:Nat) (G:Heap) (st:Int×Int) (i:Nat):St:=⟨[(1,.row id l.length 0 l.length),(4,.lptr 4 0),(5,.lptr 5 0),(6,vI i)],[(4,[vI 0,vI 0]),(5,[vI st.1,vI st.2])],G,G.length,[]⟩
def rcrX (l:List Int) (id:Nat) (G:Heap) (st:Int×Int):Ex×St:=(.exit 0,⟨[(1,.row id l.length 0 l.length),(4,.lptr 4 0),(5,.lptr 5 0),(6,vI l.length),(12,vB false)],[(4,[vI 0,vI 0]),(5,[vI st.1,vI st.2])],G,G.length,[]⟩)
theorem q150 (over:Bool) (l:List Int) (hl:l.length<=1000000) (G:Heap) (id:Nat) (hr:Go.Eng.rowAt G id=some (1,upV (l.map encI))):clD EE (.p (.fn 75)) [vB over,.row id l.length 0 l.length] G=some (vCost (q0Tp over l).1 (q0Tp over l).2,none):=by
 rw [q002 _ _ _ _ _ _ (noP _) fn75]
 have k: ∀st0:Int×Int,evD EE q14s (rcrE l id G st0 0)=some (rcrX l id G (fold coS st0 0 l)):=by
  intro st0
  unfold q14s
  refine q00u l (fun st i=>rcrE l id G st i) (fun _ _=>True) coS (fun st=>rcrX l id G st) (fun _ _=>rfl) ?_ ?_ st0 0 trivial (Zj _)
  ·rintro st i x-hx
   refine ⟨?_,trivial⟩
   have hlt:=(Za.1 hx).1
   have w:IntKind.i64.wrap ((i:Int)+1)=((i+1:Nat):Int):=w64 (by omega) (by omega)
   have hix:ixsI G (.row id l.length 0 l.length) (vI i) 1=some (.rptr id l.length i 0):=by
    rw [q01f,hr,q0Qw];simp [upV,hlt]
   have hux:(upV (l.map encI))[i]? =some [vI x]:=by simp [upV,encI,hx]
   have hgx: ∀h:i<(upV (l.map encI)).length,(upV (l.map encI))[i]'h=[vI x]:=fun h=>(Za.1 hux).2
   have ra:=fun H=>q0Tv st.1 st.2 0 x H
   simp [rcrE,coS,hlt,hix,hr,hgx,subs,q001,w,ra]
  ·rintro st-
   refine ⟨?_,by simp [rcrX]⟩
   simp [rcrE,rcrX]
 unfold q0Tp
 cases over with
 |true=>
  have k1:=k (1,0)
  simp only [if_true]
  generalize fold coS (1,0) 0 l=q at*
  simp [rcrE,rcrX] at k1
  simp [zEc,k1]
 |false=>
  have k1:=k (0,0)
  simp only [Zh,if_false]
  generalize fold coS (0,0) 0 l=q at*
  simp [rcrE,rcrX] at k1
  simp [zEc,k1]
section
variable (j:Job) (w:okW j) (p:priced j) (hf: ∀x∈j.items,fairI x) (s:Stt) (c:Colm) (c1:c.notes.length<=1000000) (c2:c.top.length<=1000000) (c3:c.bot.length<=1000000)
include w p hf c1 c2 c3
theorem q15d (H:Heap):clD EE (.p (.fn 21)) [vJob j,vStt s,vColm c] H=some (vCost (costC j s c).1 (costC j s c).2,none):=by
 rw [q002 _ _ _ _ _ _ (noP _) fn21]
 have ri:=fun H=>q025 j w s H
 have fa:=fun H=>q0i7 j w hf s c c1 c2 c3 H
 have nx:=fun H=>q101 j w s c c1 c2 c3 H
 have ba:=fun H=>q14y (q02r j s c).set_ j.g.grid (q02r j s c).last (q13a j s c) H
 have pa:=fun H=>q15v j.g j.items w.n1 c.to H
 have wa:=fun H=>q14x j w (nextS j s c) H
 have su:=fun H=>q162 (q120 j (nextS j s c)) H
 have key:=q14z p s c
 unfold costC
 cases b:q01g j s with
 |false=>
  rw [b] at ri
  simp only [vJob,cGeom,Zd,Zf] at ri⊢
  simp [zEc,ri]
 |true=>
  rw [b] at ri
  rw [if_pos rfl,<-key]
  unfold q14m penL
  generalize badG (q02r j s c).set_ j.g.grid (q02r j s c).last=B at*
  generalize paraF j.g j.items c.to=P at*
  generalize hn:nextS j s c=n at*
  generalize sumC (q120 j n)=Q at*
  generalize q120 j n=Wt at*
  generalize q02r j s c=F at*
  have m1: ∀k:Nat,k<=5->k+1<most:=fun k hk=>by unfold most;omega
  have mm1:1<most:=by decide
  have mm2:2<most:=by decide
  have mm3:3<most:=by decide
  have mm4:4<most:=by decide
  have mm5:5<most:=by decide
  have hnl:(0:Int)<c.notes.length↔0<c.notes.length:=by omega
  simp only [vJob,vGeom,cGeom,vSet,Zd,Zf] at ri fa nx ba pa wa⊢
  have co': ∀l:List Int,l.length<=1000000->clD EE (.p (.fn 75)) [vB F.over,.row H.length l.length 0 l.length] (H++[DObj.row 1 (upR l)])=some (vCost (q0Tp F.over l).1 (q0Tp F.over l).2,none):=fun l hl=>by
   rw [q15m]
   exact q150 F.over l hl _ H.length (by simp)
  by_cases tt:0<c.notes.length/\0<n.line
  ·have w1:IntKind.i64.wrap ((c.notes.length:Int)-1)=(c.notes.length:Int)-1:=w64 (by omega) (by omega)
   have hx:=q026 c.notes ((c.notes.length:Int)-1) (by omega) (by omega)
   have hix:=fun H k=>q024 H q00g (k:=k) (s:=3) (by omega) hx rfl
   simp only [q00g] at hix
   generalize rd c.notes ((c.notes.length:Int)-1)=x at*
   have t1:=tt.1
   have t2:=tt.2
   by_cases q1:x.n<0
   ·have q3: ¬0<=x.n:=by omega
    by_cases ck:c.k=1
    ·simp only [vColm,ck] at fa nx
     cases ov:F.over with
     |true=>
      have cc:=co' [P,j.g.split,W64 (j.g.defer*Q)] (by simp)
      rw [ov] at cc
      simp only [upR,Zg,Zq,Zs,Nat.reduceAdd,W64] at cc
      simp [zEc,ri,fa,nx,ba,pa,wa,su,ck,ov,hnl,mm1,mm2,mm3,mm4,mm5,cc,W64,t1,t2,w1,hix,q1,q3]
     |false=>
      have cc:=co' [B,P,j.g.split,W64 (j.g.defer*Q)] (by simp)
      rw [ov] at cc
      simp only [upR,Zg,Zq,Zs,Nat.reduceAdd,W64] at cc
      simp [zEc,ri,fa,nx,ba,pa,wa,su,ck,ov,hnl,mm1,mm2,mm3,mm4,mm5,cc,W64,t1,t2,w1,hix,q1,q3]
    ·have cc:=co' [j.g.spare,j.g.split,W64 (j.g.defer*Q)] (by simp)
     simp only [upR,Zg,Zq,Zs,Nat.reduceAdd,W64] at cc
     simp [zEc,ri,fa,nx,wa,su,ck,hnl,mm1,mm2,mm3,mm4,mm5,cc,W64,t1,t2,w1,hix,q1,q3]
   ·have q3:0<=x.n:=by omega
    by_cases q2:(j.notes.length:Int)<=x.n
    ·have q4: ¬x.n<(j.notes.length:Int):=by omega
     by_cases ck:c.k=1
     ·simp only [vColm,ck] at fa nx
      cases ov:F.over with
      |true=>
       have cc:=co' [P,j.g.split,W64 (j.g.defer*Q)] (by simp)
       rw [ov] at cc
       simp only [upR,Zg,Zq,Zs,Nat.reduceAdd,W64] at cc
       simp [zEc,ri,fa,nx,ba,pa,wa,su,ck,ov,hnl,mm1,mm2,mm3,mm4,mm5,cc,W64,t1,t2,w1,hix,q1,q2,q3,q4]
      |false=>
       have cc:=co' [B,P,j.g.split,W64 (j.g.defer*Q)] (by simp)
       rw [ov] at cc
       simp only [upR,Zg,Zq,Zs,Nat.reduceAdd,W64] at cc
       simp [zEc,ri,fa,nx,ba,pa,wa,su,ck,ov,hnl,mm1,mm2,mm3,mm4,mm5,cc,W64,t1,t2,w1,hix,q1,q2,q3,q4]
     ·have cc:=co' [j.g.spare,j.g.split,W64 (j.g.defer*Q)] (by simp)
      simp only [upR,Zg,Zq,Zs,Nat.reduceAdd,W64] at cc
      simp [zEc,ri,fa,nx,wa,su,ck,hnl,mm1,mm2,mm3,mm4,mm5,cc,W64,t1,t2,w1,hix,q1,q2,q3,q4]
    ·have q4:x.n<(j.notes.length:Int):=by omega
     have hy:=q026 j.notes x.n (by omega) (by omega)
     have hiy:=fun H k=>q024 H q00e (k:=k) (s:=2) (by omega) hy rfl
     have pe:=fun H=>q163 (rd j.notes x.n).lines (rd j.notes x.n).pens x.to H (by have:=w.lines _ (Zp hy);omega)
     generalize rd j.notes x.n=y at*
     simp only [q00e] at hiy
     simp only [note,sli] at pe
     generalize penF y.lines y.pens x.to=U at*
     by_cases ck:c.k=1
     ·simp only [vColm,ck] at fa nx
      cases ov:F.over with
      |true=>
       have cc:=co' [P,j.g.split,U,W64 (j.g.defer*Q)] (by simp)
       rw [ov] at cc
       simp only [upR,Zg,Zq,Zs,Nat.reduceAdd,W64] at cc
       simp [zEc,ri,fa,nx,ba,pa,wa,su,ck,ov,hnl,mm1,mm2,mm3,mm4,mm5,cc,W64,t1,t2,w1,hix,q1,q2,q3,q4,hiy,pe]
      |false=>
       have cc:=co' [B,P,j.g.split,U,W64 (j.g.defer*Q)] (by simp)
       rw [ov] at cc
       simp only [upR,Zg,Zq,Zs,Nat.reduceAdd,W64] at cc
       simp [zEc,ri,fa,nx,ba,pa,wa,su,ck,ov,hnl,mm1,mm2,mm3,mm4,mm5,cc,W64,t1,t2,w1,hix,q1,q2,q3,q4,hiy,pe]
     ·have cc:=co' [j.g.spare,j.g.split,U,W64 (j.g.defer*Q)] (by simp)
      simp only [upR,Zg,Zq,Zs,Nat.reduceAdd,W64] at cc
      simp [zEc,ri,fa,nx,wa,su,ck,hnl,mm1,mm2,mm3,mm4,mm5,cc,W64,t1,t2,w1,hix,q1,q2,q3,q4,hiy,pe]
  ·have tt': ¬(0<c.notes.length/\0<n.line):=tt
   by_cases t1:0<c.notes.length
   ·have t2: ¬0<n.line:=fun h=>tt ⟨t1,h⟩
    by_cases ck:c.k=1
    ·simp only [vColm,ck] at fa nx
     cases ov:F.over with
     |true=>
      have cc:=co' [P,W64 (j.g.defer*Q)] (by simp)
      rw [ov] at cc
      simp only [upR,Zg,Zq,Zs,Nat.reduceAdd,W64] at cc
      simp [zEc,ri,fa,nx,ba,pa,wa,su,ck,ov,hnl,mm1,mm2,mm3,mm4,mm5,cc,W64,t1,t2]
     |false=>
      have cc:=co' [B,P,W64 (j.g.defer*Q)] (by simp)
      rw [ov] at cc
      simp only [upR,Zg,Zq,Zs,Nat.reduceAdd,W64] at cc
      simp [zEc,ri,fa,nx,ba,pa,wa,su,ck,ov,hnl,mm1,mm2,mm3,mm4,mm5,cc,W64,t1,t2]
    ·have cc:=co' [j.g.spare,W64 (j.g.defer*Q)] (by simp)
     simp only [upR,Zg,Zq,Zs,Nat.reduceAdd,W64] at cc
     simp [zEc,ri,fa,nx,wa,su,ck,hnl,mm1,mm2,mm3,mm4,mm5,cc,W64,t1,t2]
   ·by_cases ck:c.k=1
    ·simp only [vColm,ck] at fa nx
     cases ov:F.over with
     |true=>
      have cc:=co' [P,W64 (j.g.defer*Q)] (by simp)
      rw [ov] at cc
      simp only [upR,Zg,Zq,Zs,Nat.reduceAdd,W64] at cc
      simp [zEc,ri,fa,nx,ba,pa,wa,su,ck,ov,hnl,mm1,mm2,mm3,mm4,mm5,cc,W64,t1]
     |false=>
      have cc:=co' [B,P,W64 (j.g.defer*Q)] (by simp)
      rw [ov] at cc
      simp only [upR,Zg,Zq,Zs,Nat.reduceAdd,W64] at cc
      simp [zEc,ri,fa,nx,ba,pa,wa,su,ck,ov,hnl,mm1,mm2,mm3,mm4,mm5,cc,W64,t1]
    ·have cc:=co' [j.g.spare,W64 (j.g.defer*Q)] (by simp)
     simp only [upR,Zg,Zq,Zs,Nat.reduceAdd,W64] at cc
     simp [zEc,ri,fa,nx,wa,su,ck,hnl,mm1,mm2,mm3,mm4,mm5,cc,W64,t1]
end
section
variable (j:Job) (w:wfJ j)
include w
end
def Rows (b:Nat) (H:Heap) (id:Nat) (ps:List (List Piece)):Prop:=
 ∃vs:List V,Eng.rowAt H id=some (1,vs.map fun v=>[v])/\vs.length=ps.length/\ ∀(k:Nat) (v:V) (p:List Piece),vs[k]? =some v->ps[k]? =some p-> ∃B,repP p v H B/\ ∀k∈B,b<=k/\k≠id
end Go.EnvOf
namespace Go.EnvOf
open Go Go.Eng
set_option maxRecDepth 100000
section
variable (j:Job) (w:wfJ j)
end
def q0Yg (j:Job):Bool:=q0bl j||decide (16<(j.items.length:Int))||decide (3<(j.notes.length:Int))||decide (4<(j.floats.length:Int))||decide (4<j.g.topMany)||decide (4<j.g.botMany)
theorem q0Zv (j:Job) (H:Heap):clD EE (.p (.fn 11)) [vJob j] H=some (vB (q0Yg j),none):=by
 rw [q002 _ _ _ _ _ _ (noP _) fn11]
 have l1:=fun H=>q0yo j H
 unfold q0Yg
 simp only [vJob,cGeom,Zd,Zf] at l1⊢
 cases b1:q0bl j with
 |true=>rw [b1] at l1;simp [zEc,l1]
 |false=>
  rw [b1] at l1
  by_cases h1:(16:Int)<j.items.length
  ·simp [zEc,l1,h1]
  by_cases h2:(3:Int)<j.notes.length
  ·simp [zEc,l1,h1,h2]
  by_cases h3:(4:Int)<j.floats.length
  ·simp [zEc,l1,h1,h2,h3]
  by_cases h4:(4:Int)<j.g.topMany
  ·simp [zEc,l1,h1,h2,h3,h4]
  simp [zEc,l1,h1,h2,h3,h4]
section
variable (j:Job) (w:wfJ j)
end
end Go.EnvOf
namespace Go.EnvOf
open Go Go.Eng
set_option maxRecDepth 100000
theorem q14f {j:Job}: ∀ {l:List Colm} {s:Stt} (sm:Int×Int) (i:Nat),(runF (q06c j) j sm s i l).2.2.1=0->q0Yo j s l/\(runF (q06c j) j sm s i l).2.1=goS j s l
 |[],_,_,_,_=>⟨trivial,rfl⟩
 |c::l,s,sm,i,h=>by
  simp only [runF] at h⊢
  by_cases q:q06c j s c=0
  ·rw [if_pos q] at h⊢
   obtain ⟨a,b⟩:=q14f _ _ h
   exact ⟨⟨q,a⟩,b⟩
  ·rw [if_neg q] at h
   exact absurd h q
theorem q15e {j:Job} {l:List Colm} (h:(toldF (q06c j) j l).e=0):q0Yo j (q0Y3 j) l/\doneS j (goS j (q0Y3 j) l)=true:=by
 unfold toldF toldR at h
 by_cases q:(runF (q06c j) j (0,0) (q0Y3 j) 0 l).2.2.1=0
 ·obtain ⟨a,b⟩:=q14f _ _ q
  rw [if_neg (by simpa using q)] at h
  split at h
  ·rename_i d
   rw [b] at d
   exact ⟨a,d⟩
  ·cases h
 ·rw [if_pos (by simpa using q)] at h
  exact absurd h q
theorem q14h (ck:Stt->Colm->Int) (j:Job) (l:List Colm):(toldF ck j l).sum=(runF ck j (0,0) (q0Y3 j) 0 l).1/\(toldF ck j l).fin=(runF ck j (0,0) (q0Y3 j) 0 l).2.1:=by
 unfold toldF toldR
 split
 ·exact ⟨rfl,rfl⟩
 split
 ·exact ⟨rfl,rfl⟩
 ·exact ⟨rfl,rfl⟩
end Go.EnvOf
