/- The program's functions and the document's, evaluated. -/
import Derived.Test.YtjjdmlpdgcdehaaGreatText9
import Derived.Test.YtjjdmlpdgcdehaaGreatText7
import Derived.Test.YtjjdmlpdgcdehaaGreatText8
set_option linter.unusedSimpArgs false
set_option linter.unusedVariables false
namespace Go.EnvOf
open Go Go.Eng
set_option maxRecDepth 100000
def q123 (s:Stt):List PV:=[.int .i64 s.at_,.int .i64 s.col,.int .i64 s.note,.int .i64 s.line,.int .i64 s.h.a,.int .i64 s.h.b,.int .i64 s.h.c]
@[simp] theorem q13o (s:Stt):(q123 s).length=7:=rfl
def addCs (a b:Int×Int):Int×Int:=(addM a.1 b.1,addM a.2 b.2)
abbrev roB2 (j:Job) (sm:Int×Int) (s:Stt) (v:V):List V:=[vW j,vI sm.1,vI sm.2,vI s.at_,vI s.col,vI s.note,vI s.line,vI s.h.a,vI s.h.b,vI s.h.c,v]
def roH2 (H:Heap) (j:Job) (sm:Int×Int) (s:Stt) (L:List Stt):Heap:=H++[DObj.row 7 (upV (L.map q123)),DObj.box (roB2 j sm s (.row H.length L.length 0 L.length))]
theorem set0 (H:Heap) (a b x:DObj):(H++[a,b]).set H.length x=H++[x,b]:=by rw [List.set_append_right _ _ (Zm _),Nat.sub_self];rfl
theorem set1 (H:Heap) (a b x:DObj):(H++[a,b]).set (H.length+1) x=H++[a,x]:=by rw [List.set_append_right _ _ (by omega)];simp
theorem box1 (H:Heap) (a:DObj) (cs:List V):Eng.boxAt (H++[a,.box cs]) (H.length+1)=some cs:=by
 unfold Eng.boxAt
 rw [ZD (by omega)];simp
theorem row0 (H:Heap) (s:Nat) (es:List (List V)) (b:DObj):Eng.rowAt (H++[.row s es,b]) H.length=some (s,es):=by
 unfold Eng.rowAt
 rw [ZD (Zm _),Nat.sub_self];rfl
theorem len2 (H:Heap) (a b:DObj):(H++[a,b]).length=H.length+2:=by simp
theorem q12l (H:Heap) (a:DObj) (j:Job) (sm:Int×Int) (s:Stt) (v:V) (x y:Int):clD EE (.p (.fn 110)) [.ptr (H.length+1) 1,vCost x y] (H++[a,.box (roB2 j sm s v)])=some (.tup [],some (H++[a,.box (roB2 j (addCs sm (x,y)) s v)],[H.length+1])):=by
 rw [q002 _ _ _ _ _ _ (noP _) fn110]
 have c:=fun a b c d H=>q0Uk a b c d H
 have b1:=fun cs=>box1 H a cs
 simp [zEc,c,b1,set1,addCs]
theorem q125 (j:Job) (w:okW j) (H:Heap):clD EE (.p (.fn 60)) [vW j] H=some (.ptr (H.length+1) 0,some (roH2 H j (0,0) (q0Y3 j) [q0Y3 j],[])):=by
 rw [q002 _ _ _ _ _ _ (noP _) fn60]
 have st:=fun H=>q0Zz j w H
 unfold roH2
 generalize q0Y3 j=s at*
 simp [zEc,st,q123,rowI,okEl,upV]
section
variable (j:Job) (s:Stt) (c:Colm) (e:Int) (hc: ∀H,clD EE (.p (.fn 33)) [vW j,vStt s,vColm c] H=some (vI e,none))
 (hk:e=0->(∀H,clD EE (.p (.fn 46)) [vW j,vStt s,vColm c] H=some (vCost (costC j s c).1 (costC j s c).2,none))/\ ∀H,clD EE (.p (.fn 83)) [vW j,vStt s,vColm c] H=some (vStt (nextS j s c),none))
include hc hk
theorem q127 (H:Heap) (sm:Int×Int) (L:List Stt) (hL:L.length<=1000000):clD EE (.p (.fn 62)) [.ptr (H.length+1) 0,vColm c] (roH2 H j sm s L)=if e=0 then some (vI 0,some (roH2 H j (addCs sm (costC j s c)) (nextS j s c) (L++[nextS j s c]),[H.length+1,H.length,H.length+1,H.length+1])) else some (vI e,none):=by
 rw [q002 _ _ _ _ _ _ (noP _) fn62]
 unfold roH2
 have b1:=fun a cs=>box1 H a cs
 have r1:=fun s es b=>row0 H s es b
 by_cases h:e=0
 ·rw [if_pos h]
  obtain ⟨k1,k2⟩:=hk h
  have hc:=hc
  rw [h] at hc
  have sp:=fun a s v x y=>q12l H a j sm s v x y
  have hm:L.length+1<most:=by unfold most;omega
  generalize costC j s c=C at*
  obtain ⟨C1,C2⟩:=C
  generalize nextS j s c=n at*
  simp [zEc,b1,r1,set0,set1,len2,hc,k1,k2,sp,hm,q123]
 ·rw [if_neg h]
  simp [zEc,b1,r1,hc,h]
end
def runF (ck:Stt->Colm->Int) (j:Job):Int×Int->Stt->Nat->List Colm->(Int×Int)×Stt×Int×Nat
 |sm,s,i,[]=>(sm,s,0,i)
 |sm,s,i,c::r=>if ck s c=0 then runF ck j (addCs sm (costC j s c)) (nextS j s c) (i+1) r else (sm,s,ck s c,i)
def stF (ck:Stt->Colm->Int) (j:Job):Stt->List Colm->List Stt
 |_,[]=>[]
 |s,c::r=>if ck s c=0 then nextS j s c::stF ck j (nextS j s c) r else []
structure Asks (ck:Stt->Colm->Int) (j:Job) (c:Colm):Prop where
 ask: ∀s H,clD EE (.p (.fn 33)) [vW j,vStt s,vColm c] H=some (vI (ck s c),none)
 cost: ∀s,ck s c=0-> ∀H,clD EE (.p (.fn 46)) [vW j,vStt s,vColm c] H=some (vCost (costC j s c).1 (costC j s c).2,none)
 next: ∀s,ck s c=0-> ∀H,clD EE (.p (.fn 83)) [vW j,vStt s,vColm c] H=some (vStt (nextS j s c),none)
abbrev takeV (H:Heap):V:= .fn (.func 62) [.ptr (H.length+1) 0] []
def roqE (l:List Colm) (H G:Heap) (d:List Nat) (i:Nat):St:=⟨[(0,vCos l),(1,takeV H),(9,vCos l),(10,vI l.length),(11,vI i)],[],G,H.length+2,d⟩
def roqX (l:List Colm) (H G:Heap) (d:List Nat):Ex×St:=(.exit 0,⟨[(0,vCos l),(1,takeV H),(9,vCos l),(10,vI l.length),(11,vI l.length),(12,vB false)],[],G,H.length+2,d⟩)
def roqY (H G:Heap) (d:List Nat) (i:Nat) (e:Int):Ex×St:=(.ret,⟨[(4,vI i),(5,vI e)],[],G,H.length+2,d⟩)
section
variable (ck:Stt->Colm->Int) (j:Job) (l:List Colm) (H:Heap) (s0:Stt)
def roqG (d:List Nat) (sm:Int×Int) (s:Stt) (L:List Stt) (i:Nat):Prop:=(∀x∈d,H.length<=x)/\(d=[]->sm=(0,0)/\s=s0/\L=[s0])/\L.length<=i+1
def roqR (i:Nat) (S:St):Prop:= ∃sm s L d,S=roqE l H (roH2 H j sm s L) d i/\roqG H s0 d sm s L i/\runF ck j (0,0) s0 0 l=runF ck j sm s i (l.drop i)/\s0::stF ck j s0 l=L++stF ck j s (l.drop i)
def roqF (r:Ex×St):Prop:= ∃sm s L d e i,(r=roqX l H (roH2 H j sm s L) d/\e=0/\i=l.length\/r=roqY H (roH2 H j sm s L) d i e)/\roqG H s0 d sm s L i/\runF ck j (0,0) s0 0 l=(sm,s,e,i)/\s0::stF ck j s0 l=L
theorem q13c (hl:l.length<=1000000) (ha: ∀c∈l,Asks ck j c) (S:St) (hS:roqR ck j l H s0 0 S): ∃r,evD EE q0Vj S=some r/\roqF ck j l H s0 r:=by
 unfold q0Vj
 refine q0vo l (roqR ck j l H s0) (roqF ck j l H s0) (by rintro i S ⟨sm,s,L,d,rfl,-⟩;rfl) ?_ ?_ _ 0 S rfl hS (Zj _)
 ·rintro i x S ⟨sm,s,L,d,rfl,⟨g1,g2,g3⟩,hr,hs⟩ hx
  have hlt:=(Za.1 hx).1
  have hd:l.drop i=x::l.drop (i+1):=by
   rw [ZA hlt]
   congr 1
   exact (Za.1 hx).2
  rw [hd] at hr hs
  have hA:=ha x (Zp hx)
  have hix:=fun H k=>q00c H q148 (k:=k) (s:=6) hx rfl
  have w1:IntKind.i64.wrap ((i:Int)+1)=((i+1:Nat):Int):=w64 (by omega) (by omega)
  have tk:=q127 j s x (ck s x) (hA.ask s) (fun h=>⟨hA.cost s h,hA.next s h⟩) H sm L (by omega)
  simp only [runF] at hr
  simp only [stF] at hs
  by_cases h:ck s x=0
  ·rw [if_pos h] at tk hr hs
   have hb1:H.length<H.length+2:=by omega
   have hb2:H.length+1<H.length+2:=by omega
   refine .inl ⟨roqE l H (roH2 H j (addCs sm (costC j s x)) (nextS j s x) (L++[nextS j s x])) ([H.length+1,H.length,H.length+1,H.length+1].foldr (addD (H.length+2)) d) (i+1),?_,_,_,_,_,rfl,⟨?_,?_,?_⟩,hr,by rw [hs,Zx];rfl⟩
   ·generalize addCs sm (costC j s x)=C at*
    generalize nextS j s x=n at*
    generalize roH2 H j C n (L++[n])=G2 at*
    simp only [vColm] at tk
    simp [roqE,hlt,hix,q148,subs,q001,tk,w1]
   ·intro y hy
    rcases q06d hy with hy|hy
    ·simp at hy;omega
    ·exact g1 y hy
   ·intro h0
    have:H.length+1∈[H.length+1,H.length,H.length+1,H.length+1].foldr (addD (H.length+2)) d:=q09u (by simp) hb2
    rw [h0] at this;cases this
   ·simp;omega
  ·rw [if_neg h] at tk hr hs
   refine .inr ⟨roqY H (roH2 H j sm s L) d i (ck s x),?_,by simp [roqY],sm,s,L,d,_,i,.inr rfl,⟨g1,g2,g3⟩,hr,by rw [hs,List.append_nil]⟩
   generalize roH2 H j sm s L=G at*
   generalize ck s x=e at*
   simp [roqE,roqY,hlt,hix,q148,subs,q001,tk,w1,h]
 ·rintro S ⟨sm,s,L,d,rfl,g,hr,hs⟩
  rw [List.drop_length] at hr hs
  refine ⟨roqX l H (roH2 H j sm s L) d,?_,by simp [roqX],sm,s,L,d,0,l.length,.inl ⟨rfl,rfl,rfl⟩,g,hr,by rw [hs];exact List.append_nil _⟩
  simp [roqE,roqX]
theorem q12g {B:Nat}: ∀ {ds:List Nat},(∀x∈ds,B<=x)->ds.foldr (addD B) []=[]
 |[],_=>rfl
 |x::r,h=>by
  have:=h x (by simp)
  rw [List.foldr_cons,q12g fun y hy=>h y (by simp [hy])]
  unfold addD
  rw [if_neg (by omega)]
theorem q128 (hl:l.length<=1000000) (ha: ∀c∈l,Asks ck j c):
  ∃sm s e i r,runF ck j (0,0) s0 0 l=(sm,s,e,i)/\clD EE (.p (.fn 61)) [vCos l,takeV H] (roH2 H j (0,0) s0 [s0])=some (.tup [vI (i:Nat),vI e],r)/\hpOf (roH2 H j (0,0) s0 [s0]) r=roH2 H j sm s (s0::stF ck j s0 l)/\ ∀x∈dsOf r,H.length<=x:=by
 obtain ⟨r,k1,sm,s,L,d,e,i,k2,⟨g1,g2,g3⟩,k3,k4⟩:=q13c ck j l H s0 hl ha (roqE l H (roH2 H j (0,0) s0 [s0]) [] 0) ⟨_,_,_,_,rfl,⟨by simp,fun _=>⟨rfl,rfl,rfl⟩,by simp⟩,rfl,rfl⟩
 rw [k4]
 refine ⟨sm,s,e,i,if d=[] then none else some (roH2 H j sm s L,d),k3,?_,?_,?_⟩
 ·rw [q002 _ _ _ _ _ _ (noP _) fn61]
  have hln:(roH2 H j (0,0) s0 [s0]).length=H.length+2:=by unfold roH2;exact len2 ..
  generalize roH2 H j (0,0) s0 [s0]=G0 at*
  generalize roH2 H j sm s L=G at*
  rcases k2 with ⟨rfl,rfl,rfl⟩|rfl
  ·simp only [roqE,roqX] at k1
   simp at k1
   simp [zEc,hln,k1]
  ·simp only [roqE,roqY] at k1
   simp at k1
   simp [zEc,hln,k1]
 ·by_cases h:d=[]
  ·obtain ⟨rfl,rfl,rfl⟩:=g2 h
   rw [if_pos h];rfl
  ·rw [if_neg h];rfl
 ·by_cases h:d=[]
  ·rw [if_pos h];intro x hx;cases hx
  ·rw [if_neg h];exact g1
end
structure Toldr where
 sum:Int×Int
 fin:Stt
 e:Int
 at_:Int
 deriving DecidableEq
abbrev vTold (t:Toldr):V:= .agg [vI t.sum.1,vI t.sum.2,vI t.fin.at_,vI t.fin.col,vI t.fin.note,vI t.fin.line,vI t.fin.h.a,vI t.fin.h.b,vI t.fin.h.c,vI t.e,vI t.at_]
def toldR (j:Job) (r:(Int×Int)×Stt×Int×Nat):Toldr:=
 if r.2.2.1≠0 then ⟨r.1,r.2.1,r.2.2.1,r.2.2.2⟩ else if doneS j r.2.1=true then ⟨r.1,r.2.1,0,0⟩ else ⟨r.1,r.2.1,19,r.2.2.2⟩
def toldF (ck:Stt->Colm->Int) (j:Job) (l:List Colm):Toldr:=toldR j (runF ck j (0,0) (q0Y3 j) 0 l)
theorem q12d (H:Heap) (a:DObj) (j:Job) (sm:Int×Int) (s:Stt) (v:V):clD EE (.p (.fn 63)) [.ptr (H.length+1) 1] (H++[a,.box (roB2 j sm s v)])=some (vCost sm.1 sm.2,none):=by
 rw [q002 _ _ _ _ _ _ (noP _) fn63]
 have b1:=fun cs=>box1 H a cs
 simp [zEc,b1]
theorem q12e (ck:Stt->Colm->Int) (j:Job) (w:okW j) (l:List Colm) (hl:l.length<=1000000) (ha: ∀c∈l,Asks ck j c) (H:Heap):clD EE (.p (.fn 18)) [vW j,vCos l] H=some (vTold (toldF ck j l),none):=by
 rw [q002 _ _ _ _ _ _ (noP _) fn18]
 have e0:eqnV NK.ptr false (vW j)=some (vB false):=rfl
 have bg:=q125 j w H
 obtain ⟨sm,s,e,i,r,k1,k2,k3,k4⟩:=q128 ck j l H (q0Y3 j) hl ha
 have k5:=q12g k4
 have dn:=fun H=>q0j3 j w s H
 have sc:=fun a v=>q12d H a j sm s v
 have b1:=fun a cs=>box1 H a cs
 have q1: ∀G:Heap,hpOf H (some (G,[]))=G:=fun _=>rfl
 have q2: ∀G:Heap,dsOf (some (G,[]))=[]:=fun _=>rfl
 unfold toldF toldR
 rw [k1]
 generalize roH2 H j (0,0) (q0Y3 j) [q0Y3 j]=G0 at*
 unfold roH2 at k3
 unfold takeV at k2
 by_cases h:e=0
 ·subst h
  cases d:doneS j s with
  |true=>
   rw [d] at dn
   simp [zEc,e0,bg,k2,q121,q1,q2,k3,k5,sc,b1,dn]
  |false=>
   rw [d] at dn
   simp [zEc,e0,bg,k2,q121,q1,q2,k3,k5,sc,b1,dn]
 ·simp [zEc,e0,bg,k2,q121,q1,q2,k3,k5,sc,b1,h]
theorem q126 (ck:Stt->Colm->Int) (j:Job) (w:okW j) (l:List Colm) (hl:l.length<=1000000) (ha: ∀c∈l,Asks ck j c) (H:Heap):clD EE (.p (.fn 15)) [vW j,vCos l] H=some (vB (decide ((toldF ck j l).e=0)),none):=by
 rw [q002 _ _ _ _ _ _ (noP _) fn15]
 have k:=fun H=>q12e ck j w l hl ha H
 generalize toldF ck j l=t at*
 simp [zEc,fldvV,k]
section
variable (j:Job) (w:wfJ j) (s:Stt) (c:Colm)
include w in
theorem q13z (c2:c.top.length<=9223372036854775807) (c3:c.bot.length<=9223372036854775807) (to:Int) (H:Heap):clD EE (.p (.fn 188)) [vAsk j s c,vI to] H=some (vB (setF j s c to),none):=by
 rw [q002 _ _ _ _ _ _ (noP _) fn188]
 have o1:=fun H=>q0Xn j.floats c.top H w.w.n3 c2
 have o2:=fun H=>q0Xn j.floats c.bot H w.w.n3 c3
 have a1:=fun x y H=>q0Bm x y H
 have n1:=fun x H=>q0Xr j.floats x c.top H w.w.n3 c2
 have n2:=fun x H=>q0Xr j.floats x c.bot H w.w.n3 c3
 have mp:=fun H=>q0gw j H
 have hd:=fun H=>q09v j.items j.floats to H
 change∀H,clD EE _ _ H=some (vC (q01i j to),none) at hd
 have re:=fun H=>in_ev (q0b1 j s c) (q01i j to) H
 unfold setF
 unfold q0b1 at*
 generalize ofL j.floats c.top=x1 at*
 generalize ofL j.floats c.bot=x2 at*
 generalize hm:addC s.h x1=m1 at*
 generalize hn:addC m1 x2=m2 at*
 simp only [vAsk,cAsk,cStt,cColm,cJobW,cGeom,Zd,Zf]
 cases e1:nextQ j.floats s.h c.top with
 |false=>
  have n1':=fun H=>n1 s.h H
  rw [e1] at n1'
  simp [zEc,o1,o2,a1,hm,hn,n1']
 |true=>
  have n1':=fun H=>n1 s.h H
  rw [e1] at n1'
  cases e2:nextQ j.floats m1 c.bot with
  |false=>
   have n2':=fun H=>n2 m1 H
   rw [e2] at n2'
   simp [zEc,o1,o2,a1,hm,hn,n1',n2']
  |true=>
   have n2':=fun H=>n2 m1 H
   rw [e2] at n2'
   simp [zEc,o1,o2,a1,hm,hn,n1',n2',mp,hd,re]
include w in
theorem q144 (c2:c.top.length<=9223372036854775807) (c3:c.bot.length<=9223372036854775807) (H:Heap):clD EE (.p (.fn 187)) [vAsk j s c] H=some (vB (!(setF j s c c.to&&fitsC j c)),none):=by
 rw [q002 _ _ _ _ _ _ (noP _) fn187]
 have st:=fun H=>q13z j w s c c2 c3 c.to H
 have ft:=fun H=>q0Xo j.g j.floats (c.top,c.bot) H c2 c3
 unfold fitsC
 simp only [vAsk,cAsk,cStt,cColm,cJobW,vGeom,cGeom,Zd,Zf] at st ft⊢
 generalize (fitT j.g j.floats c.top&&fitB j.g j.floats c.bot)=F at*
 cases e:setF j s c c.to with
 |false=>rw [e] at st;simp [zEc,st]
 |true=>rw [e] at st;simp [zEc,st,ft]
include w in
theorem q13x (hf: ∀x∈j.items,fairI x) (c1:c.notes.length<=1000000) (c2:c.top.length<=9223372036854775807) (c3:c.bot.length<=9223372036854775807) (H:Heap):clD EE (.p (.fn 90)) [vAsk j s c] H=some (vB (q02r j s c).over,none):=by
 rw [q002 _ _ _ _ _ _ (noP _) fn90]
 have fc:=fun H=>q0Xp j w.w hf s c c1 c2 c3 H
 generalize q02r j s c=F at*
 simp only [vAsk,cAsk,cStt,cColm,cJobW,cGeom,Zd,Zf]
 simp [zEc,fldvV,fc]
include w in
theorem q141 (hf: ∀x∈j.items,fairI x) (c1:c.notes.length<=1000000) (c2:c.top.length<=9223372036854775807) (c3:c.bot.length<=9223372036854775807) (H:Heap):
  clD EE (.p (.fn 191)) [vAsk j s c] H=some (vB (decide (c.top=[]\/8<c.top.length\/c.bot≠[]\/setF j s c s.at_=false\/(q02r j s c).over=true)),none):=by
 rw [q002 _ _ _ _ _ _ (noP _) fn191]
 have st:=fun H=>q13z j w s c c2 c3 s.at_ H
 have ov:=fun H=>q13x j w s c hf c1 c2 c3 H
 simp only [vAsk,cAsk,cStt,cColm,cJobW,vGeom,cGeom,Zd,Zf] at st ov⊢
 generalize (q02r j s c).over=F at*
 by_cases t0:c.top=[]
 ·simp only [t0] at*
  simp [zEc]
 ·have t1: ¬(c.top.length:Int)=0:=by
   have:=List.length_pos_iff.2 t0;omega
  by_cases t2:8<c.top.length
  ·have t3:(8:Int)<c.top.length:=by omega
   simp [zEc,t1,t3,t0,t2]
  ·have t3: ¬(8:Int)<c.top.length:=by omega
   by_cases b0:c.bot=[]
   ·have b1: ¬0<c.bot.length:=by rw [b0];simp
    have b0:=eq_true b0
    cases e:setF j s c s.at_ with
    |false=>rw [e] at st;simp [zEc,t1,t3,t0,t2,b1,b0,st]
    |true=>
     rw [e] at st
     simp [zEc,t1,t3,t0,t2,b1,b0,st,ov]
   ·have b1:0<c.bot.length:=List.length_pos_iff.2 b0
    simp [zEc,t1,t3,t0,t2,b1,b0]
def bareW (c:Colm):Bool:=decide (0<IntKind.i64.wrap ((c.top.length:Int)+c.bot.length))
theorem q145 (H:Heap):clD EE (.p (.fn 195)) [vAsk j s c] H=some (vB (bareW c),none):=by
 rw [q002 _ _ _ _ _ _ (noP _) fn195]
 unfold bareW
 simp only [vAsk,cAsk,cStt,cColm,cJobW,vGeom,cGeom,Zd,Zf]
 simp [zEc]
end
theorem vq_lp (j:Job) (s:Stt) (c:Colm) (L:List (Int×Nat)) (hn:L.length<=1000) (hz: ∀x∈L,x.1≠0) (f:Nat->Bool) (H:Heap) (B:Nat)
  (hL: ∀(i:Nat) x,L[i]? =some x->(∀(k:Nat) y,k<i->L[k]? =some y->f y.2=false)->clD EE (.p (.fn x.2)) [vAsk j s c] H=some (vB (f x.2),none)):
  evD EE q0Vi (cqE j s c L H B 0)=some (if q028 (L.map fun x=>(x.1,f x.2))=0 then cqX j s c L H B else (.ret,⟨[(6,vI (q028 (L.map fun x=>(x.1,f x.2))))],[],H,B,[]⟩)):=by
 rw [<-q0u1 H B f (cqX j s c L H B) L 0 hz]
 unfold q0Vi
 refine q013 L (fun (_:Unit) i=>cqE j s c L H B i) (fun _ i=> ∀(k:Nat) y,k<i->L[k]? =some y->f y.2=false) (cqS H B f) (fun _=>cqX j s c L H B) (fun _ _=>rfl) ?_ ?_ () 0 (fun k y h=>absurd h (Zz k)) (Zj _)
 ·rintro _ i x hi hx
  have hlt:=(Za.1 hx).1
  have w1:IntKind.i64.wrap ((i:Int)+1)=((i+1:Nat):Int):=w64 (by omega) (by omega)
  have hix:=fun H k=>q00c H ruE (k:=k) (s:=2) hx rfl
  simp only [ruE] at hix
  have h1:=hL i x hx hi
  simp only [vAsk,cAsk,cStt,cColm,cJobW,cGeom,Zd,Zf] at h1
  unfold cqS
  cases q:f x.2 with
  |true=>
   rw [q] at h1
   simp [cqE,ckLoc,hlt,hix,subs,q001,h1]
  |false=>
   rw [q] at h1
   have hnext: ∀(k:Nat) y,k<i+1->L[k]? =some y->f y.2=false:=by
    intro k y hk hy
    rcases Z2 k i with g|g
    ·exact hi k y g hy
    ·have e:k=i:=by omega
     subst e
     rw [hx] at hy;cases hy;exact q
   refine ⟨?_,hnext⟩
   simp [cqE,ckLoc,hlt,hix,subs,q001,h1,w1]
 ·rintro _-
  simp [cqE,cqX,ckLoc]
theorem q13s {L:List (Int×Bool)} (hz: ∀x∈L,x.1≠0) (h:q028 L=0): ∀x∈L,x.2=false:=by
 induction L with
 |nil=>intro x hx;cases hx
 |cons y r ih=>
  simp only [q028] at h
  cases q:y.2 with
  |true=>rw [if_pos q] at h;exact absurd h (hz y (by simp))
  |false=>
   rw [if_neg (by simp [q])] at h
   intro x hx
   rcases ZI.1 hx with rfl|hx
   ·exact q
   ·exact ih (fun z hz'=>hz z (by simp [hz'])) h x hx
section
variable (j:Job) (w:wfJ j) (hf: ∀x∈j.items,fairI x) (s:Stt) (c:Colm) (c2:c.top.length<=9223372036854775807) (c3:c.bot.length<=9223372036854775807)
def ruleV (n:Nat):Bool:=if n=195 then bareW c else ruleB j s c n
include w hf c2 c3 in
theorem q146 (k:Int) (H:Heap): ∀(i:Nat) x,(q03j k)[i]? =some x->(∀(k':Nat) y,k'<i->(q03j k)[k']? =some y->ruleV j s c y.2=false)->clD EE (.p (.fn x.2)) [vAsk j s c] H=some (vB (ruleV j s c x.2),none):=by
 have e1:=q0ia j s c H
 have e2:=q0tw j w s c H
 have e3:=q0tx j w s c H
 have e4:=q0Bh j w s c H
 have e5:=q144 j w s c c2 c3 H
 have e6:=q0ib j s c H
 have e7:=q0xf j s c H
 have e9:=q0Bi j s c H
 have e10:=q0xg j w s c H
 have e11:=q145 j s c H
 intro i x hx hi
 unfold q03j at hx hi
 split at hx
 ·rename_i k1
  rw [if_pos k1] at hi
  have hm:=Zp hx
  simp only [rules1,ZI,List.not_mem_nil,or_false] at hm
  rcases hm with rfl|rfl|rfl|rfl|rfl
  ·exact e1
  ·exact e2
  ·exact e3
  ·exact e4
  ·exact e5
 split at hx
 ·rename_i k1 k2
  rw [if_neg k1,if_pos k2] at hi
  match i,hx with
  |0,hx=>cases hx;exact e6
  |1,hx=>cases hx;exact e7
  |2,hx=>
   cases hx
   have hn:=hi 1 (15,178) (by omega) rfl
   have hn:c.notes=[]:=by
    have:ruleV j s c 178=decide (c.notes≠[]):=by simp [ruleV,ruleB]
    rw [this] at hn
    simpa using hn
   exact q141 j w s c hf (by rw [hn];simp) c2 c3 H
  |n+3,hx=>simp [rules2] at hx
 split at hx
 ·have hm:=Zp hx
  simp only [rules3,ZI,List.not_mem_nil,or_false] at hm
  rcases hm with rfl|rfl|rfl
  ·exact e9
  ·exact e10
  ·exact e11
 ·simp at hx
def q13q (k:Int):Int:=q028 ((q03j k).map fun x=>(x.1,ruleV j s c x.2))
def q13p:Int:=if¬(c.k=1\/c.k=2\/c.k=3)\/openS j s=false\/c.frm≠s.at_ then 19 else if q13q j s c c.k≠0 then q13q j s c c.k
    else if (q02r j s c).over=true/\sameC c ((q04r j s).getD q014)=false then 17 else 0
theorem q13t (k:c.k=1\/c.k=2\/c.k=3) (w:wfJ j) (h:q13q j s c c.k=0):c.notes.length<=1000000:=by
 have hz:=fun x hx=>(q0id c.k).2 x hx
 have hz': ∀x∈(q03j c.k).map fun x=>(x.1,ruleV j s c x.2),x.1≠0:=by
  intro x hx
  obtain ⟨y,hy,rfl⟩:=ZJ.1 hx
  exact hz y hy
 have key: ∀x∈q03j c.k,ruleV j s c x.2=false:=fun x hx=>q13s hz' h _ (List.mem_map_of_mem hx)
 rcases k with k|k|k
 ·have:=key (15,185) (by simp [q03j,k,rules1])
  have e:ruleV j s c 185= !mayPc j.notes (spotS j s c.to) c.notes:=by simp [ruleV,ruleB]
  rw [e] at this
  exact q0d0 (q08n j w s c.to) _ ((q0ja _ _ _).1 (by simpa using this))
 ·have:=key (15,178) (by simp [q03j,k,rules2])
  have e:ruleV j s c 178=decide (c.notes≠[]):=by simp [ruleV,ruleB]
  rw [e] at this
  have:c.notes=[]:=by simpa using this
  rw [this];simp
 ·have:=key (15,193) (by simp [q03j,k,rules3])
  have e:ruleV j s c 193=decide (c.notes=[]\/mayPc j.notes (q02h (spotS j s s.at_)) c.notes=false):=by simp [ruleV,ruleB]
  rw [e] at this
  simp only [decide_eq_false_iff_not,not_or,Bool.not_eq_false] at this
  exact q0d0 (q09f j w s s.at_) _ ((q0ja _ _ _).1 this.2)
theorem q13r (w:wfJ j) (h:q13p j s c=0):c.notes.length<=1000000:=by
 unfold q13p at h
 split at h
 ·cases h
 rename_i q
 split at h
 ·rename_i q2;exact absurd h q2
 rename_i q2
 exact q13t j s c (Decidable.not_not.1 fun h=>q (.inl h)) w (by omega)
include w hf c2 c3 in
theorem q142 (H:Heap):clD EE (.p (.fn 33)) [vW j,vStt s,vColm c] H=some (vI (q13p j s c),none):=by
 rw [q002 _ _ _ _ _ _ (noP _) fn33]
 unfold q13p
 have ru:=fun H=>q0ic H
 have m0:mapAt (H++[.map q03u]) H.length=some q03u:=by simp [mapAt]
 have lk:=q0u0 c.k
 have r:=fun H=>q03r j w.w s H
 have d:=fun H=>q0j3 j w.w s H
 have pl:=fun H=>q07d j H
 simp only [vJob,cGeom,Zd,Zf] at pl
 by_cases k:c.k=1\/c.k=2\/c.k=3
 ·simp only [if_pos k,decide_eq_true k] at lk
  have kk:=eq_true k
  cases b1:q01g j s with
  |false=>
   rw [b1] at r
   have o:openS j s=false:=by unfold openS;rw [b1];rfl
   simp [zEc,ru,m0,lk,r,o]
  |true=>
   rw [b1] at r
   cases b2:doneS j s with
   |true=>
    rw [b2] at d
    have o:openS j s=false:=by unfold openS;rw [b1,b2];rfl
    simp [zEc,ru,m0,lk,r,d,o]
   |false=>
    rw [b2] at d
    have o:openS j s=true:=by unfold openS;rw [b1,b2];rfl
    by_cases f:c.frm=s.at_
    ·have ff:=eq_true f
     have key:=vq_lp j s c (q03j c.k) (q0id c.k).1 (q0id c.k).2 (ruleV j s c) (H++[.map q03u]) H.length (q146 j w hf s c c2 c3 c.k _)
     have ov:=fun c1 H=>q13x j w s c hf c1 c2 c3 H
     have ls:=fun H=>q0qq j w s H
     have sm:=fun c1 H=>q0Xm c ((q04r j s).getD q014) c1 c2 c3 H
     have nn:=q13t j s c k w
     unfold q13q at nn⊢
     unfold vOC at ls
     generalize q028 _=E at*
     generalize q03j c.k=L at*
     generalize q02r j s c=F at*
     generalize (q04r j s).getD q014=Z at*
     simp only [vAsk,cAsk,cStt,cColm,cJobW,cGeom,Zd,Zf] at ov
     by_cases e0:E=0
     ·rw [if_pos e0] at key
      have c1:=nn e0
      have ov:=fun H=>ov c1 H
      have sm:=fun H=>sm c1 H
      simp only [cqE,cqX,ckLoc,cAsk,cStt,cColm,cJobW,cGeom,Zd,Zf] at key
      simp at key
      obtain ⟨f1,f2,f3,f4,ovr,f6⟩:=F
      simp only at ov⊢
      cases ovr with
      |false=>simp [zEc,ru,m0,lk,r,d,o,ff,kk,pl,key,e0,ov]
      |true=>
       cases q:sameC c Z<;>rw [q] at sm<;>simp [zEc,ru,m0,lk,r,d,o,ff,kk,pl,key,e0,ov,ls,sm]
     ·rw [if_neg e0] at key
      simp only [cqE,ckLoc,cAsk,cStt,cColm,cJobW,cGeom,Zd,Zf] at key
      simp at key
      simp [zEc,ru,m0,lk,r,d,o,ff,kk,pl,key,e0]
    ·simp [zEc,ru,m0,lk,r,d,o,f]
 ·simp only [if_neg k,decide_eq_false k] at lk
  have kk:=eq_false k
  simp [zEc,ru,m0,lk,kk]
end
theorem q13y {j:Job} {s:Stt} {c:Colm} (h:q13p j s c=0):(c.k=1\/c.k=2\/c.k=3)/\openS j s=true/\c.frm=s.at_/\q13q j s c c.k=0:=by
 unfold q13p at h
 split at h
 ·cases h
 rename_i q
 split at h
 ·rename_i q2;exact absurd h q2
 rename_i q2
 refine ⟨Decidable.not_not.1 fun h=>q (.inl h),?_,Decidable.not_not.1 fun h=>q (.inr (.inr h)),by omega⟩
 cases o:openS j s with
 |true=>rfl
 |false=>exact absurd (.inr (.inl o)) q
theorem q143 {j:Job} {s:Stt} {c:Colm} (k:c.k≠3):q13p j s c=q06c j s c:=by
 have e:q13q j s c c.k=ruleE j s c c.k:=by
  unfold q13q ruleE q03j
  by_cases k1:c.k=1
  ·rw [if_pos k1];simp [rules1,ruleV]
  ·by_cases k2:c.k=2
   ·rw [if_neg k1,if_pos k2];simp [rules2,ruleV]
   ·rw [if_neg k1,if_neg k2,if_neg k];rfl
 rw [q0ny]
 unfold q13p
 rw [e]
theorem goesV {j:Job} (w:wfJ j) {s:Stt} {c:Colm} (h:q13p j s c=0) (rn:rightP j (nextS j s c)):rightP j s/\q0Xw j s<q0Xw j (nextS j s c):=by
 by_cases k:c.k=3
 ·obtain ⟨-,ho,hf,hr⟩:=q13y h
  have r:=((q04a j s).1 ho).1
  refine ⟨r,?_⟩
  have hz': ∀x∈(q03j c.k).map fun x=>(x.1,ruleV j s c x.2),x.1≠0:=by
   intro x hx
   obtain ⟨y,hy,rfl⟩:=ZJ.1 hx
   exact (q0id c.k).2 y hy
  have key: ∀x∈q03j c.k,ruleV j s c x.2=false:=fun x hx=>q13s hz' hr _ (List.mem_map_of_mem hx)
  have q7:=key (19,192) (by simp [q03j,k,rules3])
  have q8:=key (15,193) (by simp [q03j,k,rules3])
  have e7:ruleV j s c 192=decide (c.to≠s.at_\/s.at_≠j.items.length):=by simp [ruleV,ruleB]
  have e8:ruleV j s c 193=decide (c.notes=[]\/mayPc j.notes (q02h (spotS j s s.at_)) c.notes=false):=by simp [ruleV,ruleB]
  rw [e7] at q7
  rw [e8] at q8
  simp only [decide_eq_false_iff_not,not_or,Bool.not_eq_false,ne_eq,Decidable.not_not] at q7 q8
  have hp:=(q0ja _ _ _).1 q8.2
  rw [q0p6 r] at hp
  unfold q02h at hp
  simp only at hp
  have k1: ¬c.k=1:=by omega
  have e0:nextF j.notes (spotS j s c.to) c.notes=nextF j.notes ⟨s.note,s.line,q00z j s.at_,true⟩ c.notes:=by
   unfold nextF
   cases hl:c.notes.getLast? with
   |none=>exact absurd (List.getLast?_eq_none_iff.1 hl) q8.1
   |some x=>rfl
  have hh:leC (q0b1 j s c) (q01i j s.at_):=by
   have:=rn.h1
   have en:nextS j s c=⟨s.at_,min (s.col+1) j.g.cols,(nextF j.notes (spotS j s c.to) c.notes).1,(nextF j.notes (spotS j s c.to) c.notes).2,q0b1 j s c⟩:=by
    unfold nextS
    rw [if_pos ((q02k j s).2 r),if_neg k1];rfl
   rw [en] at this
   exact this
  have:=q0Yx w r (c:=c) (b:=q00z j s.at_) (fr:=true) (at':=s.at_) e0 (by rw [if_neg k1])
   rfl (ZS _) r.trim r.at1 (fun h=>by cases h) hp hh
  exact this.2.2 (.inl q8.1)
 ·rw [q143 k] at h
  obtain ⟨a,-,b⟩:=q0Y1 w h
  exact ⟨a,b⟩
def q13v (j:Job):Stt->List Colm->Prop
 |_,[]=>True
 |s,c::r=>q13p j s c=0/\q13v j (nextS j s c) r
theorem q13w {j:Job} (w:wfJ j): ∀ {l:List Colm} {s:Stt},q13v j s l->rightP j (goS j s l)->rightP j s/\q0Xw j s+l.length<=q0Xw j (goS j s l)
 |[],s,_,r=>⟨r,by simp [goS]⟩
 |c::l,s,h,r=>by
  have ih:=q13w w h.2 r
  obtain ⟨g1,g2⟩:=goesV w h.1 ih.1
  refine ⟨g1,?_⟩
  have:=ih.2
  simp only [goS,Zg]
  push_cast
  omega
theorem q140 {j:Job} (w:wfJ j) {l:List Colm} {s:Stt} (h:q13v j s l) (r:rightP j (goS j s l)):(l.length:Int)<=j.items.length+lineN j.notes+j.floats.length:=by
 have a:=q13w w h r
 have b:=q0Xx w a.1
 have c:=q0Xx w r
 omega
theorem q13u {j:Job}: ∀ {l:List Colm} {s:Stt} (sm:Int×Int) (i:Nat),(runF (q13p j) j sm s i l).2.2.1=0->q13v j s l/\(runF (q13p j) j sm s i l).2.1=goS j s l
 |[],s,sm,i,_=>⟨trivial,rfl⟩
 |c::l,s,sm,i,h=>by
  simp only [runF] at h⊢
  by_cases q:q13p j s c=0
  ·rw [if_pos q] at h⊢
   obtain ⟨a,b⟩:=q13u _ _ h
   exact ⟨⟨q,a⟩,b⟩
  ·rw [if_neg q] at h
   exact absurd h q
theorem asksV (j:Job) (w:wfJ j) (hf: ∀x∈j.items,fairI x) (c:Colm) (c2:c.top.length<=9223372036854775807) (c3:c.bot.length<=9223372036854775807):Asks (q13p j) j c:=
 ⟨fun s H=>q142 j w hf s c c2 c3 H,fun s h H=>q133 j w.w hf s c (q13r j s c w h) c2 c3 H,fun s h H=>q100 j w.w s c (q13r j s c w h) c2 c3 H⟩
theorem witnessBound_ev (j:Job) (hj:jobI j) (l:List Colm) (hl: ∀c∈l,c.notes.length<=maxLen/\c.top.length<=maxLen/\c.bot.length<=maxLen):clD EE (.p (.fn 6)) [vJob j,vCos l] []=some (.p (.bool true),none):=by
 rw [q002 _ _ _ _ _ _ (noP _) fn6]
 have l1:=fun H=>q0Zv j H
 have aw:=fun H=>q10n H
 simp only [vJob,cGeom,Zd,Zf] at l1
 cases b1:q0Yg j with
 |true=>simp [zEc,l1,b1,aw]
 |false=>
  by_cases n1:(100:Int)<l.length
  ·simp [zEc,l1,b1,n1,aw]
  have b2:q0bl j=false:=by
   unfold q0Yg at b1
   simp only [Bool.or_eq_false_iff] at b1
   exact b1.1.1.1.1.1
  have sm:=q0ym b2
  have ok:=q0mo hj sm
  have sms:=q0r9 sm
  have okS:=q0mo (q0vm hj) sms
  have hw:=q0Cs j ok okS (fun n hn=>by have:=sms.each n hn;omega)
  have mx:maxLen=9223372036854775807:=rfl
  by_cases h:(q02q j).1=0
  ·have r:=(q0it j).1 h
   have w:=wf_of r sms
   have hf:=q0iz r
   have hM:=q10f sms
   have k2:=fun H=>q10r (snapG j) hM w.w H
   have k3:=fun H=>q126 (q13p (snapG j)) (snapG j) w.w l (by omega) (fun c hc=>asksV _ w hf c (by have:=(hl c hc).2.1;omega) (by have:=(hl c hc).2.2;omega)) H
   simp only [if_pos h] at hw
   by_cases ht:(toldF (q13p (snapG j)) (snapG j) l).e=0
   ·simp only [ht,decide_true] at k3
    have hl2:(l.length:Int)<=((snapG j).items.length:Int)+lineN (snapG j).notes+(snapG j).floats.length:=by
     unfold toldF toldR at ht
     by_cases q:(runF (q13p (snapG j)) (snapG j) (0,0) (q0Y3 (snapG j)) 0 l).2.2.1=0
     ·obtain ⟨a,b⟩:=q13u _ _ q
      rw [if_neg (by simpa using q)] at ht
      split at ht
      ·rename_i d
       rw [b] at d
       refine q140 w a ((q02k _ _).1 ?_)
       unfold doneS at d
       simp only [Zb] at d
       exact d.1.1.1.1
      ·cases ht
     ·rw [if_pos (by simpa using q)] at ht
      exact absurd ht q
    generalize ((snapG j).items.length:Int)+lineN (snapG j).notes+(snapG j).floats.length=B at*
    generalize snapG j=J at*
    simp only [vJob,cJobW,cGeom,Zd,Zf] at hw
    simp [zEc,fldvV,solN,sd,l1,b1,n1,aw,hw,k2,k3,hl2]
   ·simp only [ht,decide_false] at k3
    generalize snapG j=J at*
    simp only [vJob,cJobW,cGeom,Zd,Zf] at hw
    simp [zEc,fldvV,solN,sd,l1,b1,n1,aw,hw,k3]
  ·simp only [if_neg h] at hw
   simp only [vJob,cGeom,Zd,Zf] at hw
   simp [zEc,fldvV,solN,sd,l1,b1,n1,aw,hw]
end Go.EnvOf
