/- The program's functions and the document's, evaluated. -/
import Derived.Test.YtpibjnnbploadaaGreatText7
import Derived.Test.YtpibjnnbploadaaGreatText6
set_option linter.unusedSimpArgs false
set_option linter.unusedVariables false
namespace Go.EnvOf
open Go Go.Eng
set_option maxRecDepth 100000
def q03e (j:Job) (s:Stt) (n:C3):Option Colm:=
 if s.h.a<n.a then some ⟨2,s.at_,s.at_,[],takeL j.floats s.h ⟨1,0,0⟩,[]⟩
 else if s.h.b<n.b then some ⟨2,s.at_,s.at_,[],takeL j.floats s.h ⟨0,1,0⟩,[]⟩
 else if s.h.c<n.c then some ⟨2,s.at_,s.at_,[],takeL j.floats s.h ⟨0,0,1⟩,[]⟩
 else none
def openS (j:Job) (s:Stt):Bool:=q01j j s&& !doneS j s
def textC (j:Job) (s:Stt):Option Colm:=
 if openS j s=true∧q036 j s=true∧s.at_<j.items.length then some ⟨1,s.at_,q018 j.items s.at_,q025 j.notes (spotS j s (q018 j.items s.at_)),[],[]⟩ else none
def noteC (j:Job) (s:Stt):Option Colm:=
 if openS j s=true∧s.at_=j.items.length∧s.note≠j.notes.length then some ⟨3,s.at_,s.at_,q025 j.notes (q02r (spotS j s s.at_)),[],[]⟩ else none
def dueC (j:Job) (s:Stt):Option Colm:=if openS j s=true then q03e j s (dueF j s.at_) else none
def q07u (j:Job) (s:Stt):Option Colm:=if openS j s=true then q03e j s (q00s j s.at_) else none
def q02g (j:Job) (s:Stt):Option Colm:=(textC j s).or ((dueC j s).or ((noteC j s).or (q07u j s)))
def q02h (j:Job) (s:Stt) (c:Colm):C3:=addC (addC s.h (ofL j.floats c.top)) (ofL j.floats c.bot)
def setF (j:Job) (s:Stt) (c:Colm) (to:Int):Bool:=
 nextQ j.floats s.h c.top&&nextQ j.floats (addC s.h (ofL j.floats c.top)) c.bot&&inC (q02h j s c) (q00s j to)
def fitsC (j:Job) (c:Colm):Bool:=fitT j.g j.floats c.top&&fitB j.g j.floats c.bot
def textE (j:Job) (s:Stt) (c:Colm):Int:=
 if q036 j s=false then 18 else if (brkF j.items s.at_).contains c.to=false then 14
 else if mayPc j.notes (spotS j s c.to) c.notes=false then 15 else if setF j s c c.to=false∨fitsC j c=false then 16 else 0
def q0iv (j:Job) (s:Stt) (c:Colm):Int:=
 if c.notes≠[] then 15 else if c.top=[]∨8<c.top.length∨c.bot≠[]∨setF j s c s.at_=false∨(q06l j s c).over=true then 16 else 0
def noteE (j:Job) (s:Stt) (c:Colm):Int:=
 if c.notes=[]∨mayPc j.notes (q02r (spotS j s s.at_)) c.notes=false then 15 else if c.top≠[]∨c.bot≠[] then 16 else 0
def endE (j:Job) (s:Stt) (c:Colm):Bool:=
 decide (openS j s=false∨c.k<1∨3<c.k∨c.frm≠s.at_∨(c.k=1∧s.at_=j.items.length)∨(c.k≠1∧c.to≠s.at_)∨(c.k=3∧s.at_≠j.items.length))
def kindE (j:Job) (s:Stt) (c:Colm):Int:=if c.k=1 then textE j s c else if c.k=2 then q0iv j s c else noteE j s c
def q03f:Colm:=⟨0,0,0,[],[],[]⟩
def q0a4 (j:Job) (s:Stt) (c:Colm):Int:=
 if endE j s c=true then 19 else if kindE j s c≠0 then kindE j s c
 else if (q06l j s c).over=true∧sameC c ((q02g j s).getD q03f)=false then 17 else 0
theorem q0pw (fs:List Float): ∀(xs:List Int) (s:C3),leC s (xs.foldl (ofS fs) s)∧(xs.foldl (ofS fs) s).a≤s.a+xs.length∧(xs.foldl (ofS fs) s).b≤s.b+xs.length∧(xs.foldl (ofS fs) s).c≤s.c+xs.length
 |[],s=>by simp [leC]
 |x::r,s=>by
  have h:=q0pw fs r (ofS fs s x)
  have e:leC s (ofS fs s x)∧(ofS fs s x).a≤s.a+1∧(ofS fs s x).b≤s.b+1∧(ofS fs s x).c≤s.c+1:=by
   unfold ofS bump leC
   (repeat' split)<;>(try simp only)<;>omega
  simp only [List.foldl_cons,List.length_cons]
  unfold leC at*
  push_cast
  omega
theorem q0iw (fs:List Float) (xs:List Int):leC zeroC (ofL fs xs)∧(ofL fs xs).a≤xs.length∧(ofL fs xs).b≤xs.length∧(ofL fs xs).c≤xs.length:=by
 have:=q0pw fs xs ⟨0,0,0⟩
 unfold ofL
 unfold leC zeroC at*
 simp only at*
 omega
theorem q0w2 {x y:C3} (hx:leC zeroC x) (hy:leC zeroC y) (bx:x.a≤1000000∧x.b≤1000000∧x.c≤1000000):leC x (addC x y):=by
 unfold leC zeroC addC zipF held big at*
 simp only at*
 omega
theorem q0e5 {a b q:Int} (ha:0≤a) (hb:0≤b) (h:held (held a (-big) big+held b (-big) big) (-big) big≤q) (hq:q≤1000000):a≤held (held a (-big) big+held b (-big) big) (-big) big:=by
 unfold held big at*
 omega
theorem q0lg {x y q:C3} (hx:leC zeroC x) (hy:leC zeroC y) (h:leC (addC x y) q) (hq:q.a≤1000000∧q.b≤1000000∧q.c≤1000000):leC x (addC x y):=
 ⟨q0e5 hx.1 hy.1 h.1 hq.1,q0e5 hx.2.1 hy.2.1 h.2.1 hq.2.1,q0e5 hx.2.2 hy.2.2 h.2.2 hq.2.2⟩
theorem q0ix {a:Int} (ha:0≤a) (hq:a≤1000000):held (held a (-big) big+held 0 (-big) big) (-big) big=a:=by
 unfold held big at*
 omega
theorem q0iy {x:C3} (h:leC zeroC x) (b:x.a≤1000000∧x.b≤1000000∧x.c≤1000000):addC x zC=x:=by
 obtain ⟨h1,h2,h3⟩:=h
 unfold addC zipF
 rw [show (zC).a=0 from rfl,show (zC).b=0 from rfl,show (zC).c=0 from rfl,q0ix h1 b.1,q0ix h2 b.2.1,q0ix h3 b.2.2]
theorem q048 {j:Job} (w:okW j) (n:Int):leC zeroC (q00s j n)∧(q00s j n).a≤1000000∧(q00s j n).b≤1000000∧(q00s j n).c≤1000000:=by
 unfold q00s
 have h:=q09w j.floats (j.items.take (putN j.items n))
 have hl:((j.items.take (putN j.items n)).length:Int)≤1000000:=by
  have:=w.n1
  rw [List.length_take]
  omega
 unfold leC zeroC
 simp only
 omega
theorem q063 {x:C3} (h:leC zeroC x) (b:x.a≤1000000∧x.b≤1000000∧x.c≤1000000):sumC x=x.a+x.b+x.c:=by
 unfold sumC held big leC zeroC at*
 simp only at*
 omega
theorem q0e6 {l:List Item} {a t:Int} (h0:0≤a) (h:t∈brkF l a):a<t∧t≤l.length∧mayV l t=true∧t≤q043 l a:=by
 unfold brkF at h
 obtain ⟨m,hm,rfl⟩:=List.mem_map.1 h
 unfold brkN at hm
 rw [List.mem_filter,List.mem_range'] at hm
 obtain ⟨⟨i,hi,rfl⟩,h2⟩:=hm
 simp only [Bool.and_eq_true,decide_eq_true_eq] at h2
 unfold mayN at h2
 unfold pos at*
 simp only [Int.ofNat_eq_natCast]
 exact ⟨by omega,by omega,h2.2,h2.1⟩
theorem q05w {j:Job} {s:Stt} (r:rightP j s):q02f j s=s.at_+progN j.notes s.note s.line+sumC s.h:=by
 unfold q02f progN
 rw [if_pos ((q01k j s).2 r)]
 omega
theorem q05d {j:Job} {s:Stt} (r:rightP j s) (to:Int):spotS j s to=⟨s.note,s.line,q00c j to,decide (q00c j s.at_<q00c j to)⟩:=by
 unfold spotS
 rw [if_pos ((q01k j s).2 r)]
theorem q0n1 (l:List Item) (n:Int):trimF l (trimF l n)=trimF l n:=by
 have h:=q0a2 l n
 unfold trimF at*
 rw [h,q0d4]
theorem q0sz {l:List Item} {n:Int} (h0:0≤n) (h1:n≤l.length):n≤trimF l n:=by
 unfold trimF
 have:=q0se l (putN l n)
 have e:(putN l n:Int)=n:=by unfold putN;omega
 omega
theorem q0e7 {j:Job} (w:wfJ j) {s:Stt} (r:rightP j s) {c:Colm} {b:Int} {fr:Bool} {at':Int} (e0:nextF j.notes (spotS j s c.to) c.notes=nextF j.notes ⟨s.note,s.line,b,fr⟩ c.notes)
  (ha:at'=if c.k=1 then (trimF j.items c.to:Int) else s.at_) (hb:b=q00c j at') (hle:s.at_≤at') (ht:(trimF j.items at':Int)=at') (hle2:at'≤j.items.length) (hf:fr=false→b≤q00c j s.at_)
  (hp:c.notes∈q00h j.notes ⟨s.note,s.line,b,fr⟩) (hh:leC (q02h j s c) (q00s j at')):
  rightP j (nextS j s c)∧q02f j s+(at'-s.at_)≤q02f j (nextS j s c)∧(c.notes≠[]∨s.at_<at'∨sumC s.h<sumC (q02h j s c)→q02f j s<q02f j (nextS j s c)):=by
 have hr:=(q01k j s).2 r
 obtain ⟨g1,g2,g3⟩:=q0pu w r (p:=c.notes) (b:=b) (fr:=fr) (by rw [hb];exact q0my j hle) (by rw [hb];exact q034 w.w _) hf hp
 have e:nextS j s c=⟨at',min (s.col+1) j.g.cols,(nextF j.notes ⟨s.note,s.line,b,fr⟩ c.notes).1,(nextF j.notes ⟨s.note,s.line,b,fr⟩ c.notes).2,q02h j s c⟩:=by
  unfold nextS
  rw [if_pos hr,e0,←ha];rfl
 have bd:=q048 w.w s.at_
 have bd2:=q048 w.w at'
 have o1:=q0iw j.floats c.top
 have o2:=q0iw j.floats c.bot
 have hb1:s.h.a≤1000000∧s.h.b≤1000000∧s.h.c≤1000000:=by
  have:=r.h1
  unfold leC at this
  omega
 have m1:leC s.h (addC s.h (ofL j.floats c.top)):=q0w2 r.h0 o1.1 hb1
 have z1:leC zeroC (addC s.h (ofL j.floats c.top)):=q01t r.h0 m1
 have m2:leC (addC s.h (ofL j.floats c.top)) (q02h j s c):=q0lg z1 o2.1 hh ⟨bd2.2.1,bd2.2.2.1,bd2.2.2.2⟩
 have z2:=q01t z1 m2
 have hs2:(q02h j s c).a≤1000000∧(q02h j s c).b≤1000000∧(q02h j s c).c≤1000000:=by
  unfold leC at hh;omega
 have s1:=q063 r.h0 hb1
 have s2:=q063 z2 hs2
 have mm:=q01t m1 m2
 have rn:rightP j (nextS j s c):=by
  rw [e]
  refine ⟨by have:=r.at0;simp only;omega,hle2,ht,by have:=r.col0;have:=w.cols;simp only;omega,by simp only;omega,?_,z2,hh⟩
  rw [q079]
  simp only
  rcases g1 with ⟨a,b'⟩|⟨a,b',c',d,f⟩
  ·exact .inl ⟨a,by rw [b',hb]⟩
  ·exact .inr ⟨a,by rw [b',hb],c',d,f⟩
 have q1:=q05w r
 have q2:=q05w rn
 rw [e] at q2
 rw [e] at rn⊢
 simp only at q2
 refine ⟨rn,?_,?_⟩
 ·unfold leC at mm;omega
 ·intro h
  unfold leC at mm
  rcases h with h|h|h
  ·have:=g3 h;omega
  ·omega
  ·omega
theorem q0n2 {j:Job} (w:wfJ j) {s:Stt} {c:Colm} (h:q0a4 j s c=0):rightP j s∧rightP j (nextS j s c)∧q02f j s<q02f j (nextS j s c):=by
 unfold q0a4 at h
 by_cases he:endE j s c=true
 ·rw [if_pos he] at h;cases h
 rw [if_neg he] at h
 by_cases hk:kindE j s c≠0
 ·rw [if_pos hk] at h;exact absurd h hk
 have hk:kindE j s c=0:=by omega
 unfold endE at he
 simp only [decide_eq_true_eq,not_or,not_and,Bool.not_eq_false,Int.not_lt] at he
 obtain ⟨e1,e2,e3,e4,e5,e6,e7⟩:=he
 unfold openS at e1
 simp only [Bool.and_eq_true] at e1
 have r:=(q01k j s).1 e1.1
 refine ⟨r,?_⟩
 unfold kindE at hk
 by_cases k1:c.k=1
 ·rw [if_pos k1] at hk
  unfold textE at hk
  split at hk
  ·cases hk
  split at hk
  ·cases hk
  split at hk
  ·cases hk
  split at hk
  ·cases hk
  rename_i f1 f2 f3 f4
  simp only [Bool.not_eq_false,not_or] at f1 f2 f3 f4
  have hm:=q0e6 r.at0 (by simpa using f2)
  have hp:=(q06x _ _ _).1 f3
  rw [q05d r] at hp
  have hset:=f4.1
  unfold setF at hset
  simp only [Bool.and_eq_true,q062] at hset
  have hge:=q0sz (l:=j.items) (n:=c.to) (by have:=r.at0;omega) hm.2.1
  have hlt:s.at_<trimF j.items c.to:=by omega
  have:=q0e7 w r (c:=c) (b:=q00c j c.to) (fr:=decide (q00c j s.at_<q00c j c.to)) (at':=trimF j.items c.to) (by rw [q05d r]) (by rw [if_pos k1])
   (q0mw j c.to).symm (by omega) (by rw [q0n1]) (by have:=q0bs j.items c.to;omega) (fun h=>by simpa using h) hp (by rw [q0mx];exact hset.2)
  exact ⟨this.1,this.2.2 (.inr (.inl hlt))⟩
 ·rw [if_neg k1] at hk
  have hto:=e6 k1
  by_cases k2:c.k=2
  ·rw [if_pos k2] at hk
   unfold q0iv at hk
   split at hk
   ·cases hk
   split at hk
   ·cases hk
   rename_i f1 f2
   simp only [not_or,Bool.not_eq_false,ne_eq,Decidable.not_not] at f1 f2
   obtain ⟨f2,f3,f4,f5,f6⟩:=f2
   unfold setF at f5
   simp only [Bool.and_eq_true,q062] at f5
   have hp:c.notes∈q00h j.notes ⟨s.note,s.line,q00c j s.at_,false⟩:=by
    rw [f1]
    unfold q00h
    rw [if_pos (.inr rfl)];simp
   have:=q0e7 w r (c:=c) (b:=q00c j s.at_) (fr:=false) (at':=s.at_) (by rw [f1,q0a1,q0a1,q05d r]) (by rw [if_neg k1])
    rfl (Int.le_refl _) r.trim r.at1 (fun _=>Int.le_refl _) hp f5.2
   refine ⟨this.1,this.2.2 (.inr (.inr ?_))⟩
   have hn:=f5.1.1
   unfold nextQ at hn
   simp only [Bool.and_eq_true,decide_eq_true_eq] at hn
   have hz:ofL j.floats c.top≠zC:=by
    intro hz
    rw [hz,q08b] at hn
    exact f2 hn.2.symm
   have ok:=hn.1
   have o1:=(q0iw j.floats c.top).1
   have bd:=q048 w.w s.at_
   have hsm:=q0ey w.w.n3 ok
   have ebot:q02h j s c=addC (addC s.h (ofL j.floats c.top)) zC:=by unfold q02h;rw [f4];rfl
   have hh:=f5.2
   have h0:=r.h0
   have h1:=r.h1
   rw [hsm] at ebot
   have hz1:leC zeroC (plus s.h (ofL j.floats c.top)):=by
    have h0:=r.h0
    unfold leC zeroC plus at*
    simp only at*
    omega
   have hup:=q0lg (y:=zC) hz1 (q06m _) (ebot▸f5.2) ⟨bd.2.1,bd.2.2.1,bd.2.2.2⟩
   have hle:=q01t hup (ebot▸f5.2)
   have hs:(plus s.h (ofL j.floats c.top)).a≤1000000∧(plus s.h (ofL j.floats c.top)).b≤1000000∧(plus s.h (ofL j.floats c.top)).c≤1000000:=by
    unfold leC at hle;omega
   rw [ebot,q0iy hz1 hs,q063 hz1 hs,q063 r.h0 (by have:=r.h1;unfold leC at this;omega)]
   have hy:0<(ofL j.floats c.top).a+(ofL j.floats c.top).b+(ofL j.floats c.top).c:=by
    have: ¬((ofL j.floats c.top).a=0∧(ofL j.floats c.top).b=0∧(ofL j.floats c.top).c=0):=fun h=>hz (by
     revert h
     generalize ofL j.floats c.top=y
     obtain ⟨a,b,d⟩:=y
     rintro ⟨rfl,rfl,rfl⟩
     rfl)
    unfold leC zeroC at o1
    simp only at o1
    omega
   unfold plus
   simp only
   omega
  ·rw [if_neg k2] at hk
   unfold noteE at hk
   split at hk
   ·cases hk
   split at hk
   ·cases hk
   rename_i f1 f2
   simp only [not_or,Bool.not_eq_false,ne_eq,Decidable.not_not] at f1 f2
   have hp:=(q06x _ _ _).1 f1.2
   rw [q05d r] at hp
   unfold q02r at hp
   simp only at hp
   have hh:leC (q02h j s c) (q00s j s.at_):=by
    have e:q02h j s c=addC (addC s.h zC) zC:=by unfold q02h;rw [f2.1,f2.2];rfl
    rw [e]
    have h0:=r.h0
    have h1:=r.h1
    have bd:=q048 w.w s.at_
    generalize s.h=x at*
    generalize q00s j s.at_=q at*
    unfold leC zeroC addC zipF held big zC at*
    simp only at*
    omega
   have e0:nextF j.notes (spotS j s c.to) c.notes=nextF j.notes ⟨s.note,s.line,q00c j s.at_,true⟩ c.notes:=by
    unfold nextF
    cases hl:c.notes.getLast? with
    |none=>exact absurd (List.getLast?_eq_none_iff.1 hl) f1.1
    |some x=>rfl
   have:=q0e7 w r (c:=c) (b:=q00c j s.at_) (fr:=true) (at':=s.at_) e0 (by rw [if_neg k1])
    rfl (Int.le_refl _) r.trim r.at1 (fun h=>by cases h) hp hh
   exact ⟨this.1,this.2.2 (.inl f1.1)⟩
theorem q0a5 {p:Nat→Bool}: ∀(k n m:Nat),n≤m→m<n+k→p m=true→seekP p k n≠ -1∧seekP p k n≤m
 |0,n,m,h1,h2,_=>by omega
 |k+1,n,m,h1,h2,h3=>by
  rw [seekP]
  by_cases q:p n=true
  ·rw [if_pos q];omega
  ·rw [if_neg q]
   have:n≠m:=fun e=>q (e▸h3)
   exact q0a5 k (n+1) m (by omega) (by omega) h3
theorem q0w3 {l:List Item} (h:1≤l.length):mayN l l.length=true:=by
 unfold mayN mayV
 rw [if_neg (by omega)]
 have:q03c l (l.length:Int)=none:=by unfold q03c;rw [if_neg (by omega)]
 rw [this]
theorem q0t0 {l:List Item} {n:Nat} (h1:1≤n) (h2:n≤l.length) (h:mustP l n=true):mayN l n=true:=by
 by_cases e:n=l.length
 ·subst e;exact q0w3 h1
 ·have hx:l[n]? =some (l[n]'(by omega)):=List.getElem?_eq_getElem (by omega)
  unfold mustP at h
  rw [hx] at h
  unfold mayN mayV
  rw [if_neg (by omega),q0d8,hx]
  simp only at h⊢
  unfold q0e0 at h
  simp only [Bool.and_eq_true,decide_eq_true_eq] at h
  rw [if_neg (by omega),if_pos h.1]
  unfold forbX
  simp [h.1]
  omega
theorem q0fl {l:List Item} {a:Int} (h0:0≤a) (h1:a<l.length):q018 l a∈brkF l a:=by
 have hp:(pos a:Int)=a:=by unfold pos;omega
 have hF:=q0a5 (p:=mustP l) (l.length-pos a) (pos a+1) l.length (by omega) (by omega) (by unfold mustP;rw [List.getElem?_eq_none (Nat.le_refl _)])
 have bF:=q0by (mustP l) (l.length-pos a) (pos a+1)
 change q043 l a≠ -1∧q043 l a≤_ at hF
 change q043 l a= -1∨_≤q043 l a∧q043 l a<_∧mustP l (q043 l a).toNat=true at bF
 rcases bF with bF|⟨b1,b2,b3⟩
 ·exact absurd bF hF.1
 have hm:=q0t0 (n:=(q043 l a).toNat) (by omega) (by omega) b3
 have hB:=q0a5 (p:=mayN l) (l.length-pos a) (pos a+1) (q043 l a).toNat (by omega) (by omega) hm
 have bB:=q0by (mayN l) (l.length-pos a) (pos a+1)
 change q018 l a≠ -1∧q018 l a≤_ at hB
 change q018 l a= -1∨_≤q018 l a∧q018 l a<_∧mayN l (q018 l a).toNat=true at bB
 rcases bB with bB|⟨c1,c2,c3⟩
 ·exact absurd bB hB.1
 unfold brkF
 refine List.mem_map.2 ⟨(q018 l a).toNat,?_,by simp only [Int.ofNat_eq_natCast];omega⟩
 unfold brkN
 rw [List.mem_filter,List.mem_range']
 refine ⟨⟨(q018 l a).toNat-(pos a+1),by omega,by omega⟩,?_⟩
 simp only [Bool.and_eq_true,decide_eq_true_eq]
 exact ⟨by omega,c3⟩
theorem q0iz (fs:List Float) (h:C3) (g0:leC zeroC h) (g1:leC h (allC fs)):okT fs h zC:=by
 unfold okT okU leC zeroC allC zC at*
 simp only at*
 omega
theorem q0a6 {j:Job} (w:wfJ j) {s:Stt} (r:rightP j s):leC s.h (allC j.floats):=q01t r.h1 (q06z w.six _)
theorem q0t1 {j:Job} (w:wfJ j) {s:Stt} (r:rightP j s) {c:Colm} (ht:c.top=[]) (hb:c.bot=[]) {to:Int} (h:s.at_≤to):setF j s c to=true:=by
 have ok:=q0iz _ _ r.h0 (q0a6 w r)
 have bd:=q048 w.w s.at_
 have hs:s.h.a≤1000000∧s.h.b≤1000000∧s.h.c≤1000000:=by have:=r.h1;unfold leC at this;omega
 have ez:=q0iy r.h0 hs
 have e0:ofL j.floats []=zC:=rfl
 have hn:nextQ j.floats s.h []=true:=by
  unfold nextQ
  rw [e0,q08b]
  simp [ok]
 unfold setF q02h
 rw [ht,hb,e0,ez,ez,hn]
 simp only [Bool.true_and,q062]
 exact q01t r.h1 (q0mz j h)
theorem q0px {j:Job} (w:wfJ j) {c:Colm} (ht:c.top=[]) (hb:c.bot=[]):fitsC j c=true:=by
 have m:=w.many
 unfold fitsC fitT fitB fitsF
 rw [ht,hb]
 have e:highQ j.floats [] j.g.sep=0:=rfl
 rw [e]
 simp [m.1,m.2.1,m.2.2.1,m.2.2.2]
theorem q0w4 {j:Job} (w:wfJ j) {s:Stt} (r:rightP j s) {y:C3} (hy0:leC zeroC y) (hy:leC (plus s.h y) (q00s j s.at_)) (hz:leC s.h (plus s.h y)) {c:Colm} (ht:c.top=takeL j.floats s.h y) (hb:c.bot=[]):
  setF j s c s.at_=true∧okT j.floats s.h y:=by
 have ok:okT j.floats s.h y:=by
  have h0:=r.h0
  have h1:=q01t hy (q06z w.six _)
  unfold okT okU leC zeroC allC plus at*
  simp only at*
  omega
 have bd:=q048 w.w s.at_
 have e1:ofL j.floats c.top=y:=by rw [ht,q0hz _ _ _ ok]
 have e0:ofL j.floats []=zC:=rfl
 have ep:addC s.h y=plus s.h y:=q0ey w.w.n3 ok
 have hp0:leC zeroC (plus s.h y):=q01t r.h0 hz
 have hp1:(plus s.h y).a≤1000000∧(plus s.h y).b≤1000000∧(plus s.h y).c≤1000000:=by
  have:=hy
  unfold leC at this;omega
 have ok2:=q0iz _ _ hp0 (q01t hy (q06z w.six _))
 refine ⟨?_,ok⟩
 unfold setF q02h
 rw [e1,hb,e0,ep,q0iy hp0 hp1]
 simp only [Bool.and_eq_true,q062]
 refine ⟨⟨?_,?_⟩,hy⟩
 ·rw [ht];exact q0oq _ _ _ ok
 ·unfold nextQ
  rw [e0,q08b]
  simp [ok2]
theorem q0n3 {j:Job} (w:wfJ j) {s:Stt} (r:rightP j s) {c:Colm} (hk:c.k=2) (hn:c.notes=[]) {x:Int} (ht:c.top=[x]):(q06l j s c).over=false:=by
 unfold q06l
 rw [if_pos ((q01k j s).2 r),if_neg (by omega)]
 have hf:fullC j c=false:=by unfold fullC;rw [hn];simp
 rw [hf]
 simp only [Bool.false_or,decide_eq_false_iff_not,Int.not_lt]
 unfold roomC q0e1 q0pl
 rw [if_neg (by omega),if_pos hk,hn]
 have hh:highP j.notes [] j.g.rule=0:=rfl
 rw [hh]
 have hi:j.g.first≤highS j s∧highS j s≤4294967296:=by
  have:=w.high
  unfold highS
  rw [if_pos ((q01k j s).2 r)]
  split<;>omega
 have sp:=w.sep
 have key:highQ j.floats c.top j.g.sep=0∨(∃f∈j.floats,highQ j.floats c.top j.g.sep=hz (0+hz f.h+hz j.g.sep)):=by
  rw [ht]
  unfold highQ
  simp only [List.foldl_cons,List.foldl_nil,hiS]
  unfold atF
  by_cases q:0≤x∧x<j.floats.length
  ·rw [if_pos q]
   exact .inr ⟨_,q061 q.1 q.2,rfl⟩
  ·rw [if_neg q];exact .inl rfl
 have hi0:0≤highS j s:=by
  have:=w.high
  rcases key with _|⟨f,hf,_⟩
  ·unfold highS;rw [if_pos ((q01k j s).2 r)];have:=w.hi0;split<;>omega
  ·have:=w.fl f hf;omega
 rw [Int.sub_zero,w64 (n:=highS j s) (by omega) (by omega)]
 rcases key with e|⟨f,hf,e⟩
 ·rw [if_pos e,Int.sub_zero,w64 (by omega) (by omega)];exact hi0
 ·have hb:=w.fl f hf
  rw [e]
  have e1:hz (0+hz f.h+hz j.g.sep)=f.h+j.g.sep:=by unfold hz fz;omega
  rw [e1]
  have e2:min (max j.g.sep 0) 1125899906842624=j.g.sep:=by omega
  rw [e2]
  split
  ·rw [Int.sub_zero,w64 (by omega) (by omega)];exact hi0
  ·rw [show f.h+j.g.sep-j.g.sep=f.h by omega,w64 (n:=f.h) (by omega) (by omega),w64 (by omega) (by omega)]
   omega
theorem q049 (j:Job) (s:Stt):openS j s=true↔rightP j s∧doneS j s=false:=by
 unfold openS
 rw [Bool.and_eq_true,q01k,Bool.not_eq_true']
theorem q08l {j:Job} {s:Stt} {c:Colm} (he:endE j s c=false) (hk:kindE j s c=0) (ho:(q06l j s c).over=false∨q02g j s=some c):q0a4 j s c=0:=by
 unfold q0a4
 rw [if_neg (by rw [he];simp),if_neg (by omega),if_neg]
 rintro ⟨h1,h2⟩
 rcases ho with h|h
 ·rw [h] at h1;cases h1
 ·rw [h,Option.getD_some] at h2
  unfold sameC at h2
  simp at h2
theorem q0t2 {j:Job} {s:Stt} {y:C3} (ok:okT j.floats s.h y) (h1:y.a+y.b+y.c=1) (h0:leC zeroC y): ∃x,takeL j.floats s.h y=[x]:=by
 have:(takeL j.floats s.h y).length=1:=by
  unfold takeL raw
  rw [isort_len,List.length_append,List.length_append,q057 ok.1,q057 ok.2.1,q057 ok.2.2]
  unfold leC zeroC at h0
  simp only at h0
  omega
 match h:takeL j.floats s.h y,this with
 |[x],_=>exact ⟨x,rfl⟩
theorem q0bb {j:Job} (w:wfJ j) {s:Stt} (r:rightP j s) (hd:doneS j s=false) {n:C3} (hn2:leC n (q00s j s.at_)) {c:Colm} (h:q03e j s n=some c):
  endE j s c = false ∧ kindE j s c = 0 ∧ (q06l j s c).over = false ∧ c.frm = s.at_ ∧ ∃ x, c.top = [x] := by
 have key: ∀y:C3,c=⟨2,s.at_,s.at_,[],takeL j.floats s.h y,[]⟩→y.a+y.b+y.c=1→leC zeroC y→leC (plus s.h y) (q00s j s.at_)→leC s.h (plus s.h y)→endE j s c=false∧kindE j s c=0∧(q06l j s c).over=false∧c.frm=s.at_∧ ∃x,c.top=[x]:=by
  rintro y rfl h1 h0 hy hz
  obtain ⟨hs,ok⟩:=q0w4 w r h0 hy hz (c:=⟨2,s.at_,s.at_,[],takeL j.floats s.h y,[]⟩) rfl rfl
  obtain ⟨x,hx⟩:=q0t2 ok h1 h0
  have ho:=q0n3 w r (c:=⟨2,s.at_,s.at_,[],takeL j.floats s.h y,[]⟩) rfl rfl hx
  refine ⟨?_,?_,ho,rfl,x,hx⟩
  ·unfold endE
   rw [decide_eq_false_iff_not]
   simp [(q049 j s).2 ⟨r,hd⟩]
  ·unfold kindE q0iv
   rw [if_neg (by simp),if_pos rfl,if_neg (by simp),if_neg]
   rw [hs,ho]
   simp [hx]
 have h1:=r.h1
 unfold q03e at h
 split at h
 ·exact key ⟨1,0,0⟩ (Option.some.inj h).symm rfl (by simp [leC,zeroC]) (by unfold leC plus at*;simp only;omega) (by simp [leC,plus];omega)
 split at h
 ·exact key ⟨0,1,0⟩ (Option.some.inj h).symm rfl (by simp [leC,zeroC]) (by unfold leC plus at*;simp only;omega) (by simp [leC,plus];omega)
 split at h
 ·exact key ⟨0,0,1⟩ (Option.some.inj h).symm rfl (by simp [leC,zeroC]) (by unfold leC plus at*;simp only;omega) (by simp [leC,plus];omega)
 cases h
theorem q0dc {j:Job} {s:Stt} {n:C3} (h: ¬leC n s.h): ∃c,q03e j s n=some c:=by
 unfold q03e
 split
 ·exact ⟨_,rfl⟩
 split
 ·exact ⟨_,rfl⟩
 split
 ·exact ⟨_,rfl⟩
 exfalso;apply h;unfold leC;omega
theorem q0fm {j:Job} {s:Stt} (r:rightP j s):q036 j s=true↔leC (dueF j s.at_) s.h:=by
 unfold q036
 rw [(q01k j s).2 r,Bool.true_and,q062]
theorem q0y6 {x y:C3} (h:leC x y) (g:leC y x):x=y:=by
 obtain ⟨a,b,c⟩:=x
 obtain ⟨d,e,f⟩:=y
 unfold leC at*
 simp only [C3.mk.injEq] at*
 omega
theorem q0py (j:Job) {n:Int} (h:n=j.items.length):q00s j n=allS j:=by
 unfold q00s allS
 subst h
 have:putN j.items (j.items.length:Int)=j.items.length:=by unfold putN;omega
 rw [this,List.take_length]
theorem q0pz (j:Job) {n:Int} (h:n=j.items.length):q00c j n=q00o j.items:=by
 unfold q00c
 subst h
 have:putN j.items (j.items.length:Int)=j.items.length:=by unfold putN;omega
 rw [this,List.take_length]
theorem q0k3 {j:Job} (w:wfJ j) {s:Stt} (ho:openS j s=true): ∃c,q02g j s=some c∧q0a4 j s c=0∧c.frm=s.at_:=by
 obtain ⟨r,hd⟩:=(q049 j s).1 ho
 obtain ⟨n0,l0,n1,n2⟩:=q06n w r
 by_cases ht:q036 j s=true∧s.at_<j.items.length
 ·have e:textC j s=some ⟨1,s.at_,q018 j.items s.at_,q025 j.notes (spotS j s (q018 j.items s.at_)),[],[]⟩:=by unfold textC;rw [if_pos ⟨ho,ht⟩]
  have hb:=q0fl r.at0 ht.2
  have hm:=q0e6 r.at0 hb
  have hl:q02g j s=some ⟨1,s.at_,q018 j.items s.at_,q025 j.notes (spotS j s (q018 j.items s.at_)),[],[]⟩:=by unfold q02g;rw [e];rfl
  refine ⟨_,hl,q08l ?_ ?_ (.inr hl),rfl⟩
  ·unfold endE
   rw [decide_eq_false_iff_not]
   simp [ho]
   omega
  ·unfold kindE
   rw [if_pos rfl]
   unfold textE
   simp only
   rw [if_neg (by rw [ht.1];simp),if_neg (by simpa using hb),if_neg,if_neg]
   ·rw [q0t1 w r rfl rfl (by omega),q0px w rfl rfl];simp
   ·rw [Bool.not_eq_false,q06x,q05d r]
    refine q0fh (q034 w.w _) n0 l0 w.notes fun h=> ?_
    simp only at h⊢
    by_cases z:s.line=0
    ·rw [z]
     have:=w.notes (rd j.notes s.note) (q061 n0 (by have:=q034 w.w (q018 j.items s.at_);omega))
     omega
    ·exact (n2 z).2
 ·have e:textC j s=none:=by unfold textC;rw [if_neg (fun h=>ht h.2)]
  by_cases hf:q036 j s=true
  ·have ha:s.at_=j.items.length:=by have:=r.at1;have: ¬s.at_<j.items.length:=fun h=>ht ⟨hf,h⟩;omega
   have e2:dueC j s=none:=by
    unfold dueC
    rw [if_pos ho]
    have hle:=(q0fm r).1 hf
    unfold leC at hle
    unfold q03e
    rw [if_neg (by omega),if_neg (by omega),if_neg (by omega)]
   by_cases hn:s.note=j.notes.length
   ·have e3:noteC j s=none:=by unfold noteC;rw [if_neg (fun h=>h.2.2 hn)]
    have hne: ¬leC (q00s j s.at_) s.h:=by
     intro hle
     have heq:=q0y6 r.h1 hle
     rw [q0py j ha] at heq
     have hl:s.line=0:=by
      by_cases z:s.line=0
      ·exact z
      ·have:=(n2 z).1;omega
     unfold doneS at hd
     rw [(q01k j s).2 r] at hd
     simp [ha,hl,hn,heq] at hd
    obtain ⟨c,hc⟩:=q0dc (j:=j) hne
    have a:=q0bb w r hd (q06m _) hc
    have hl:q02g j s=some c:=by unfold q02g q07u;rw [e,e2,e3,if_pos ho,hc];rfl
    exact ⟨c,hl,q08l a.1 a.2.1 (.inl a.2.2.1),a.2.2.2.1⟩
   ·have e3:noteC j s=some ⟨3,s.at_,s.at_,q025 j.notes (q02r (spotS j s s.at_)),[],[]⟩:=by unfold noteC;rw [if_pos ⟨ho,ha,hn⟩]
    have hl:q02g j s=some ⟨3,s.at_,s.at_,q025 j.notes (q02r (spotS j s s.at_)),[],[]⟩:=by unfold q02g;rw [e,e2,e3];rfl
    have hm:q025 j.notes (q02r (spotS j s s.at_))∈q00h j.notes (q02r (spotS j s s.at_)):=by
     rw [q05d r]
     refine q0fh (q034 w.w _) n0 l0 w.notes fun h=> ?_
     simp only [q02r] at h⊢
     by_cases z:s.line=0
     ·rw [z]
      have:=w.notes (rd j.notes s.note) (q061 n0 (by omega))
      omega
     ·exact (n2 z).2
    have hne:q025 j.notes (q02r (spotS j s s.at_))≠[]:=by
     intro h0
     rw [h0] at hm
     rw [q05d r] at hm
     rcases q0b8 (s:=q02r ⟨s.note,s.line,q00c j s.at_,decide (q00c j s.at_<q00c j s.at_)⟩) (q034 w.w _) n0 l0 hm with ⟨_,h|h⟩|⟨_,q,t,h,_⟩
     ·simp only [q02r] at h
      have:=q0pz j ha
      have:=w.five
      omega
     ·cases h
     ·simp at h
    refine ⟨_,hl,q08l ?_ ?_ (.inr hl),rfl⟩
    ·unfold endE
     rw [decide_eq_false_iff_not]
     simp [ho,ha]
    ·unfold kindE
     rw [if_neg (by simp),if_neg (by simp)]
     unfold noteE
     simp only
     rw [if_neg,if_neg (by simp)]
     rintro (h|h)
     ·exact hne h
     ·rw [(q06x _ _ _).2 hm] at h;cases h
  ·have hne: ¬leC (dueF j s.at_) s.h:=fun h=>hf ((q0fm r).2 h)
   obtain ⟨c,hc⟩:=q0dc (j:=j) hne
   have a:=q0bb w r hd (q0pt _ _) hc
   have hl:q02g j s=some c:=by unfold q02g dueC;rw [e,if_pos ho,hc];rfl
   exact ⟨c,hl,q08l a.1 a.2.1 (.inl a.2.2.1),a.2.2.2.1⟩
def vOC (o:Option Colm):V:= .tup [vColm (o.getD q03f),vB o.isSome]
theorem q0j0 (j:Job) (w:okW j) (s:Stt) (H:Heap):clD EE (.p (.fn 249)) [vW j,vStt s] H=some (vB (q036 j s),none):=by
 rw [q002 _ _ _ _ _ _ (noP _) fn249]
 have hr:=fun H=>q04z j w s H
 have hd:=fun H=>q0ph j.items j.floats s.at_ H
 change∀H,clD EE _ _ H=some (vC (dueF j s.at_),none) at hd
 have re:=fun H=>in_ev (dueF j s.at_) s.h H
 unfold q036
 cases c:q01j j s with
 |false=>
  rw [c] at hr
  simp [St.enter,q000,subs,q001,hr]
 |true=>
  rw [c] at hr
  simp only [vW,q00f,cJobW,cGeom,List.cons_append,List.nil_append] at hr⊢
  simp [St.enter,q000,subs,q001,hr,hd,re]
theorem q0lh (j:Job) (H:Heap):clD EE (.p (.fn 252)) [vW j] H=some (vMapW j.items j.floats,none):=by
 have hp: ∀H,clD EE (.p (.fn 211)) [vW j] H=some (q00f j,none):=by
  intro H
  rw [q002 _ _ _ _ _ _ (noP _) fn211]
  simp only [vW,cJobW,cGeom,List.cons_append,List.nil_append]
  simp [St.enter,q000,subs,q001]
 have hq: ∀H,clD EE (.p (.fn 367)) [q00f j] H=some (vMapW j.items j.floats,none):=by
  intro H
  rw [q002 _ _ _ _ _ _ (noP _) fn367]
  simp only [q00f]
  simp [St.enter,q000,subs,q001]
 rw [q002 _ _ _ _ _ _ (noP _) fn252]
 simp [St.enter,q000,subs,q001,hp,hq]
section
variable (j:Job) (w:wfJ j)
include w
theorem q0e8 (s:Stt) (to:Int):spotB j.notes (spotS j s to):=by
 have hb:=q034 w.w to
 unfold spotS
 by_cases r:q01j j s=true
 ·rw [if_pos r]
  have c:=q06n w ((q01k j s).1 r)
  have:=w.w.n2
  exact ⟨w.w.n2,w.w.lines,hb,c.1,by simp only;omega,c.2.1⟩
 ·rw [if_neg r]
  exact ⟨w.w.n2,w.w.lines,by simp only;omega,by simp,by simp,by simp⟩
theorem q0j1 (s:Stt) (to:Int):spotB j.notes (q02r (spotS j s to)):=by
 have o:=q0e8 j w s to
 exact ⟨o.l1,o.l2,o.b,o.n0,o.n1,o.li⟩
theorem q08m (s:Stt) (H:Heap):clD EE (.p (.fn 248)) [vW j,vStt s] H=some (vB (openS j s),none):=by
 rw [q002 _ _ _ _ _ _ (noP _) fn248]
 have r:=fun H=>q04z j w.w s H
 have d:=fun H=>q0a0 j w.w s H
 unfold openS
 cases c:q01j j s with
 |false=>rw [c] at r;simp [St.enter,q000,subs,q001,r]
 |true=>rw [c] at r;simp [St.enter,q000,subs,q001,r,d]
theorem q0t3 (s:Stt) (H:Heap):clD EE (.p (.fn 116)) [vW j,vStt s] H=some (vOC (textC j s),none):=by
 rw [q002 _ _ _ _ _ _ (noP _) fn116]
 have op:=fun H=>q08m j w s H
 have fl:=fun H=>q0j0 j w.w s H
 have wl:=fun H=>q0im j H
 have fb:=fun H=>q0pm j.items w.w.n1 s.at_ H
 have pl:=fun H=>q0bw j H
 have sp:=fun H=>q09z j w.w s (q018 j.items s.at_) H
 have le:=fun H=>q08t j.notes (spotS j s (q018 j.items s.at_)) (q0e8 j w s _) H
 unfold textC vOC
 cases c1:openS j s with
 |false=>rw [c1] at op;simp [St.enter,q000,subs,q001,op,q03f]
 |true=>
  rw [c1] at op
  cases c2:q036 j s with
  |false=>rw [c2] at fl;simp [St.enter,q000,subs,q001,op,fl,q03f]
  |true=>
   rw [c2] at fl
   have r:=((q049 j s).1 c1).1
   simp only [vJob,cGeom,List.cons_append,List.nil_append] at pl
   by_cases c3:s.at_<j.items.length
   ·have hb:=q0e6 r.at0 (q0fl r.at0 c3)
    have h0:=r.at0
    have hn: ¬q018 j.items s.at_<0:=by omega
    generalize q018 j.items s.at_=t at*
    generalize spotS j s t=q at*
    simp [St.enter,q000,subs,q001,fldvV,op,fl,wl,fb,pl,sp,le,hn,c3]
   ·have hn:q018 j.items s.at_= -1:=by
     unfold q018
     rw [show j.items.length-pos s.at_=0 by unfold pos;have:=r.at0;omega];rfl
    rw [hn] at fb
    simp [St.enter,q000,subs,q001,op,fl,wl,fb,c3,q03f]
theorem q0q0 {s:Stt} (r:rightP j s) {n:C3} (hn:leC n (q00s j s.at_)):
  (s.h.a<n.a→okT j.floats s.h ⟨1,0,0⟩)∧(s.h.b<n.b→okT j.floats s.h ⟨0,1,0⟩)∧(s.h.c<n.c→okT j.floats s.h ⟨0,0,1⟩):=by
 have h0:=r.h0
 have h1:=q01t hn (q06z w.six _)
 have h2:=q0a6 w r
 unfold okT okU leC zeroC allC at*
 simp only at*
 omega
theorem q0fn {s:Stt} (r:rightP j s) {n:C3} (hn:leC n (q00s j s.at_)) (H:Heap):clD EE (.p (.fn 251)) [vW j,vStt s,vC n] H=some (vOC (q03e j s n),none):=by
 rw [q002 _ _ _ _ _ _ (noP _) fn251]
 have ok:=q0q0 j w r hn
 have pl:=fun H=>q0bw j H
 have w1:IntKind.i64.wrap 1=1:=by decide
 have w2:IntKind.i64.wrap 2=2:=by decide
 have w3:IntKind.i64.wrap 3=3:=by decide
 have t1:=fun y H=>q0v8 j.floats s.h y H w.w.n3
 unfold vTake at t1
 unfold q03e vOC
 simp only [vJob,cGeom,List.cons_append,List.nil_append] at pl
 by_cases c1:s.h.a<n.a
 ·have t:=fun H=>t1 ⟨1,0,0⟩ H
  simp only [if_pos (ok.1 c1)] at t
  generalize takeL j.floats s.h ⟨1,0,0⟩=T at*
  simp [St.enter,q000,subs,q001,fldvV,q07m,q009,ixaV,ixvV,q016,w1,w2,w3,c1,pl,t]
 ·by_cases c2:s.h.b<n.b
  ·have t:=fun H=>t1 ⟨0,1,0⟩ H
   simp only [if_pos (ok.2.1 c2)] at t
   generalize takeL j.floats s.h ⟨0,1,0⟩=T at*
   simp [St.enter,q000,subs,q001,fldvV,q07m,q009,ixaV,ixvV,q016,w1,w2,w3,c1,c2,pl,t]
  ·by_cases c3:s.h.c<n.c
   ·have t:=fun H=>t1 ⟨0,0,1⟩ H
    simp only [if_pos (ok.2.2 c3)] at t
    generalize takeL j.floats s.h ⟨0,0,1⟩=T at*
    simp [St.enter,q000,subs,q001,fldvV,q07m,q009,ixaV,ixvV,q016,w1,w2,w3,c1,c2,c3,pl,t]
   ·simp [St.enter,q000,subs,q001,q07m,q009,ixaV,ixvV,q016,w1,w2,w3,c1,c2,c3,q03f]
theorem q0w5 (s:Stt) (H:Heap):clD EE (.p (.fn 117)) [vW j,vStt s] H=some (vOC (dueC j s),none):=by
 rw [q002 _ _ _ _ _ _ (noP _) fn117]
 have op:=fun H=>q08m j w s H
 have mp:=fun H=>q0lh j H
 have hd:=fun H=>q0ph j.items j.floats s.at_ H
 change∀H,clD EE _ _ H=some (vC (dueF j s.at_),none) at hd
 unfold dueC
 cases c1:openS j s with
 |false=>rw [c1] at op;simp [St.enter,q000,subs,q001,op,vOC,q03f]
 |true=>
  rw [c1] at op
  have r:=((q049 j s).1 c1).1
  have al:=fun H=>q0fn j w r (q0pt j.floats (j.items.take (putN j.items s.at_))) H
  change∀H,clD EE _ [vW j,vStt s,vC (dueF j s.at_)] H=some (vOC (q03e j s (dueF j s.at_)),none) at al
  unfold vOC at*
  simp [St.enter,q000,subs,q001,op,mp,hd,al]
theorem q0q1 (s:Stt) (H:Heap):clD EE (.p (.fn 119)) [vW j,vStt s] H=some (vOC (q07u j s),none):=by
 rw [q002 _ _ _ _ _ _ (noP _) fn119]
 have op:=fun H=>q08m j w s H
 have mp:=fun H=>q0lh j H
 have hd:=fun H=>q0bv j.items j.floats s.at_ H
 change∀H,clD EE _ _ H=some (vC (q00s j s.at_),none) at hd
 unfold q07u
 cases c1:openS j s with
 |false=>rw [c1] at op;simp [St.enter,q000,subs,q001,op,vOC,q03f]
 |true=>
  rw [c1] at op
  have r:=((q049 j s).1 c1).1
  have al:=fun H=>q0fn j w r (q06m (q00s j s.at_)) H
  unfold vOC at*
  simp [St.enter,q000,subs,q001,op,mp,hd,al]
theorem q0t4 (s:Stt) (H:Heap):clD EE (.p (.fn 118)) [vW j,vStt s] H=some (vOC (noteC j s),none):=by
 rw [q002 _ _ _ _ _ _ (noP _) fn118]
 have op:=fun H=>q08m j w s H
 have pl:=fun H=>q0bw j H
 have wl:=fun H=>q0im j H
 have ll:=fun H=>q027 j.items H
 have sp:=fun H=>q09z j w.w s s.at_ H
 have le:=fun H=>q08t j.notes (q02r (spotS j s s.at_)) (q0j1 j w s _) H
 unfold noteC vOC
 simp only [vJob,cGeom,List.cons_append,List.nil_append] at pl
 cases c1:openS j s with
 |false=>rw [c1] at op;simp [St.enter,q000,subs,q001,fldvV,op,pl,q03f]
 |true=>
  rw [c1] at op
  have r:=((q049 j s).1 c1).1
  have h1:=r.at1
  generalize spotS j s s.at_=q at*
  unfold q02r at*
  by_cases c2:s.at_<j.items.length
  ·have c3: ¬s.at_=j.items.length:=by omega
   simp [St.enter,q000,subs,q001,fldvV,op,pl,wl,ll,c2,c3,q03f]
  ·have c3:s.at_=j.items.length:=by omega
   have c3:=eq_true c3
   by_cases c4:s.note=j.notes.length
   ·have c4:=eq_true c4
    simp [St.enter,q000,subs,q001,fldvV,op,pl,wl,ll,c2,c3,c4,q03f]
   ·simp [St.enter,q000,subs,q001,fldvV,op,pl,wl,ll,c2,c3,c4,sp,le]
theorem q0n4 (s:Stt) (H:Heap):clD EE (.p (.fn 32)) [vW j,vStt s] H=some (vOC (q02g j s),none):=by
 rw [q002 _ _ _ _ _ _ (noP _) fn32]
 have f1:=fun H=>q0t3 j w s H
 have f2:=fun H=>q0w5 j w s H
 have f3:=fun H=>q0t4 j w s H
 have f4:=fun H=>q0q1 j w s H
 have w1:IntKind.i64.wrap 1=1:=by decide
 have w2:IntKind.i64.wrap 2=2:=by decide
 have w3:IntKind.i64.wrap 3=3:=by decide
 have w4:IntKind.i64.wrap 4=4:=by decide
 unfold q02g vOC at*
 cases e1:textC j s with
 |some c=>rw [e1] at f1;simp [St.enter,q000,subs,q001,q07g,q009,ixsI,ixsV,w1,w2,w3,w4,f1]
 |none=>
  rw [e1] at f1
  cases e2:dueC j s with
  |some c=>rw [e2] at f2;simp [St.enter,q000,subs,q001,q07g,q009,ixsI,ixsV,w1,w2,w3,w4,f1,f2]
  |none=>
   rw [e2] at f2
   cases e3:noteC j s with
   |some c=>rw [e3] at f3;simp [St.enter,q000,subs,q001,q07g,q009,ixsI,ixsV,w1,w2,w3,w4,f1,f2,f3]
   |none=>
    rw [e3] at f3
    cases e4:q07u j s with
    |some c=>rw [e4] at f4;simp [St.enter,q000,subs,q001,q07g,q009,ixsI,ixsV,w1,w2,w3,w4,f1,f2,f3,f4]
    |none=>rw [e4] at f4;simp [St.enter,q000,subs,q001,q07g,q009,ixsI,ixsV,w1,w2,w3,w4,f1,f2,f3,f4,q03f]
end
end Go.EnvOf
namespace Go.EnvOf
open Go Go.Eng
set_option maxRecDepth 100000
abbrev c6 (t:Tot):List V:=[vI t.nat,vI t.s0,vI t.s1,vI t.s2,vI t.s3,vI t.shr]
section
variable (j:Job) (n1:j.items.length≤1000000) (hf: ∀x∈j.items,fairI x)
include n1 hf in
include n1 in
end
section
variable (j:Job) (n1:j.items.length≤1000000) (hf: ∀x∈j.items,fairI x)
include n1 hf in
include n1 hf in
end
section
variable (j:Job) (w:wfJ j) (s:Stt) (c:Colm)
include w in
include w in
include w in
include w in
include w in
include w in
include w in
include w in
include w in
end
section
variable (j:Job) (w:wfJ j) (hf: ∀x∈j.items,fairI x) (s:Stt) (c:Colm) (c1:c.notes.length≤1000000) (c2:c.top.length≤1000000) (c3:c.bot.length≤1000000)
include w hf c1 c2 c3 in
include w hf c1 c2 c3 in
end
theorem q0j2 (k:Int) (m:Nat) (f:Item→Item) (hf: ∀x,(f x).k=x.k∧(f x).n=x.n): ∀(l:List Item) (i n:Nat),refF k m i n (l.map f)=refF k m i n l
 |[],_,_=>rfl
 |x::r,i,n=>by
  simp only [List.map_cons,refF,(hf x).1,(hf x).2,q0j2 k m f hf r]
theorem dn_eq {n s:Int} (h0:0≤n) (h1:n≤1073741823) (hs:1≤s):downG n s=s*(n/s):=by
 have a:=Int.emod_nonneg n (show s≠0 by omega)
 have b:=Int.emod_add_mul_ediv n s
 have c:0≤s*(n/s):=Int.mul_nonneg (by omega) (Int.ediv_nonneg h0 (by omega))
 unfold downG downF
 rw [if_neg (by omega)]
 unfold subF
 rw [if_pos (by omega)]
 simp only [orN]
 omega
theorem q0q2 {a b s:Int} (h0:0≤a) (h:a≤b) (h1:b≤1073741823) (hs:1≤s):downG a s≤downG b s:=by
 rw [dn_eq h0 (by omega) hs,dn_eq (by omega) h1 hs]
 exact Int.mul_le_mul_of_nonneg_left (Int.ediv_le_ediv (by omega) h) (by omega)
theorem q0q3 {g:Geom} (h:geomF g=0):1≤g.first∧g.first≤g.high∧0≤g.topMost∧0≤g.botMost∧0≤g.topMany∧0≤g.botMany∧g.topMany≤4∧g.botMany≤4∧0≤g.noteMost:=by
 unfold geomF at h
 by_cases q1:inR 1 8 [g.cols]=false
 ·rw [if_pos q1] at h;omega
 rw [if_neg q1] at h
 by_cases q2:inR 1 1073741823 [g.wide,g.high]=false
 ·rw [if_pos q2] at h;omega
 rw [if_neg q2] at h
 by_cases q3:inR 0 1073741823 [g.gap,g.noteMost,g.topMost,g.botMost]=false
 ·rw [if_pos q3] at h;omega
 rw [if_neg q3] at h
 by_cases q4:inR 0 536870912 [g.rule,g.sep,g.grid]=false
 ·rw [if_pos q4] at h;omega
 rw [if_neg q4] at h
 by_cases q5:inR 1 g.high [g.first]=false
 ·rw [if_pos q5] at h;omega
 rw [if_neg q5] at h
 by_cases q6:inR 0 g.first [g.grid]=false
 ·rw [if_pos q6] at h;omega
 rw [if_neg q6] at h
 by_cases q7:inR 0 4 [g.topMany,g.botMany]=false
 ·rw [if_pos q7] at h;omega
 have a1:=q03p q5 g.first (by simp)
 have a2:=q03p q3 g.topMost (by simp)
 have a3:=q03p q3 g.botMost (by simp)
 have a4:=q03p q7 g.topMany (by simp)
 have a5:=q03p q7 g.botMany (by simp)
 have a6:=q03p q3 g.noteMost (by simp)
 omega
theorem wf_of {j:Job} (r:Right j) (sm:small (snapG j)):wfJ (snapG j):=by
 have hg:=q09x r.g
 have hm:=q0q3 r.g
 obtain ⟨f,hf,hk⟩:=q0d7 j
 have h5:=q06k 5 j.notes.length j.items 0 0 (Nat.zero_le _) r.r5
 have hgr:(snapG j).g.first≤(snapG j).g.high∧(snapG j).g.high≤4294967296∧0≤(snapG j).g.first∧0≤(snapG j).g.sep∧(snapG j).g.sep≤4294967296∧(snapG j).g.topMany=j.g.topMany∧(snapG j).g.botMany=j.g.botMany∧(snapG j).g.topMost=j.g.topMost∧(snapG j).g.botMost=j.g.botMost:=by
  unfold snapG
  split
  ·refine ⟨by omega,by omega,by omega,by omega,by omega,rfl,rfl,rfl,rfl⟩
  ·have b1:=q0q2 (a:=j.g.first) (b:=j.g.high) (s:=j.g.grid) (by omega) (by omega) (by omega) (by omega)
   have b2:=q08d (n:=j.g.high) (s:=j.g.grid) (by omega) (by omega) (by omega) (by omega)
   have b3:=q08d (n:=j.g.first) (s:=j.g.grid) (by omega) (by omega) (by omega) (by omega)
   have b4:=q08c (n:=j.g.sep) (s:=j.g.grid) (by omega) (by omega) (by omega) (by omega)
   exact ⟨b1,b2.2,b3.1,b4.1,b4.2,rfl,rfl,rfl,rfl⟩
 refine ⟨q0y3 r sm,?_,?_,?_,?_,hgr.2.2.1,⟨hgr.1,hgr.2.1⟩,⟨hgr.2.2.2.1,hgr.2.2.2.2.1⟩,?_,?_⟩
 ·intro n hn
  unfold snapG at hn
  split at hn
  ·exact (q0le (r.notes n hn)).1
  ·obtain ⟨m,hm,rfl⟩:=List.mem_map.1 hn
   have:=(q0le (r.notes m hm)).1
   simpa [noteG] using this
 ·rw [q09y,hf]
  unfold q00o
  rw [q0lb 5 f (fun x=>(hk x).1)]
  omega
 ·rw [q0f8,hf,q0j2 6 _ f hk]
  exact r.r6
 ·intro x hx
  have ht:=r.tall x hx
  unfold snapG at hx
  split at hx
  ·rename_i hgr
   have ho:=r.floats x hx
   unfold q01y at ho
   simp only [Bool.and_eq_true,decide_eq_true_eq] at ho
   exact ⟨by omega,by omega,by omega⟩
  ·obtain ⟨y,hy,rfl⟩:=List.mem_map.1 hx
   have ho:=r.floats y hy
   unfold q01y at ho
   simp only [Bool.and_eq_true,decide_eq_true_eq] at ho
   have b:=q08c (n:=y.h) (s:=j.g.grid) (by omega) (by omega) (by omega) (by omega)
   exact ⟨⟨by simp only [q039];omega,by simp only [q039];omega⟩,by simp only [q039];omega,by omega⟩
 ·rw [hgr.2.2.2.2.2.1,hgr.2.2.2.2.2.2.1,hgr.2.2.2.2.2.2.2.1,hgr.2.2.2.2.2.2.2.2]
  omega
 ·rw [q0fa];omega
theorem q0t5 (fs:List Float) (h:fs.length≤100000) (x y:C3):(takeL fs x y).length≤1000000:=by
 have:=q0kw fs x y
 unfold takeL
 rw [isort_len];omega
theorem q0fo {j:Job} (w:wfJ j) {s:Stt} {n:C3} {c:Colm} (h:q03e j s n=some c):c.notes.length≤1000000∧c.top.length≤1000000∧c.bot.length≤1000000:=by
 have t:=q0t5 j.floats w.w.n3 s.h
 unfold q03e at h
 split at h
 ·cases h;exact ⟨by simp,t _,by simp⟩
 split at h
 ·cases h;exact ⟨by simp,t _,by simp⟩
 split at h
 ·cases h;exact ⟨by simp,t _,by simp⟩
 ·cases h
theorem q0dd {l:List Note} {s:Spot} (o:spotB l s):(q025 l s).length≤1000000:=by
 unfold q025
 by_cases h:q00h l s=[]
 ·rw [h];simp
 ·exact q0k2 o _ (q0fg h)
theorem q0q4 {j:Job} (w:wfJ j) {s:Stt} {c:Colm} (h:q02g j s=some c):c.notes.length≤1000000∧c.top.length≤1000000∧c.bot.length≤1000000:=by
 unfold q02g at h
 cases e1:textC j s with
 |some x=>
  rw [e1] at h
  simp at h;subst h
  unfold textC at e1
  split at e1
  ·cases e1;exact ⟨q0dd (q0e8 j w s _),by simp,by simp⟩
  ·cases e1
 |none=>
  cases e2:dueC j s with
  |some x=>
   rw [e1,e2] at h
   simp at h;subst h
   unfold dueC at e2
   split at e2
   ·exact q0fo w e2
   ·cases e2
  |none=>
   cases e3:noteC j s with
   |some x=>
    rw [e1,e2,e3] at h
    simp at h;subst h
    unfold noteC at e3
    split at e3
    ·cases e3;exact ⟨q0dd (q0j1 j w s _),by simp,by simp⟩
    ·cases e3
   |none=>
    rw [e1,e2,e3] at h
    simp at h
    unfold q07u at h
    split at h
    ·exact q0fo w h
    ·cases h
def enE (j:Job) (w:V) (s:Stt) (i:Nat):St:=⟨[(1,.lptr 1 0),(3,w),(5,.lptr 5 0),(6,vI i)],[(1,cJobW j),(5,cStt s)],[],0,[]⟩
def enX (j:Job) (w:V) (s:Stt) (i:Nat):Ex×St:=(.exit 0,⟨[(1,.lptr 1 0),(3,w),(5,.lptr 5 0),(6,vI i),(29,vB false)],[(1,cJobW j),(5,cStt s)],[],0,[]⟩)
def enR (j J:Job) (i:Nat) (S:St):Prop:= ∃s,S=enE j (vW J) s i∧rightP J s∧i≤q02f J s
def enF (j J:Job) (r:Ex×St):Prop:= ∃s i,r=enX j (vW J) s i∧rightP J s∧(doneS J s=true∨1000≤q02f J s)
theorem en_lp (j J:Job) (w:wfJ J) (S:St) (hS:enR j J 0 S): ∃r,evD EE lp5_0 S=some r∧enF j J r:=by
 unfold lp5_0
 refine q0fe (List.replicate 1000 ()) (enR j J) (enF j J) (by rintro i S ⟨s,rfl,-⟩;rfl) ?_ ?_ _ 0 S rfl hS (Nat.zero_le _)
 ·rintro i x S ⟨s,rfl,hr,hm⟩ hx
  have hlt:=(List.getElem?_eq_some_iff.1 hx).1
  simp only [List.length_replicate] at hlt
  have hlt2:(i:Int)<1000:=by omega
  have dn:=fun H=>q0a0 J w.w s H
  have w1:IntKind.i64.wrap ((i:Int)+1)=((i+1:Nat):Int):=w64 (by omega) (by omega)
  cases d:doneS J s with
  |true=>
   rw [d] at dn
   refine .inr ⟨enX j (vW J) s i,?_,by simp [enX],s,i,rfl,hr,.inl d⟩
   simp only [enE,enX,cJobW,cGeom,List.cons_append,List.nil_append]
   simp [hlt,hlt2,subs,q001,dn]
  |false=>
   rw [d] at dn
   have o:=(q049 J s).2 ⟨hr,d⟩
   obtain ⟨c,e1,e2,-⟩:=q0k3 w o
   obtain ⟨c1,c2,c3⟩:=q0q4 w e1
   have ls:=fun H=>q0n4 J w s H
   have nx:=fun H=>q0pi J w.w s c c1 c2 c3 H
   obtain ⟨-,g2,g3⟩:=q0n2 w e2
   unfold vOC at ls
   rw [e1] at ls
   refine .inl ⟨enE j (vW J) (nextS J s c) (i+1),?_,nextS J s c,rfl,g2,by omega⟩
   generalize nextS J s c=n at*
   simp only [enE,cJobW,cGeom,List.cons_append,List.nil_append]
   simp [hlt,hlt2,subs,q001,dn,ls,nx,w1]
 ·rintro S ⟨s,rfl,hr,hm⟩
  refine ⟨enX j (vW J) s 1000,?_,by simp [enX],s,1000,rfl,hr,.inr (by simpa using hm)⟩
  simp only [enE,enX,cJobW,cGeom,List.cons_append,List.nil_append,List.length_replicate]
  simp [subs,q001]
theorem q0q5 (l:List Note) (h: ∀n∈l,n.lines.length≤100):lineN l≤100*l.length:=by
 induction l with
 |nil=>simp [lineN]
 |cons n r ih=>
  have h1:=h n List.mem_cons_self
  have h2:=ih fun m hm=>h m (List.mem_cons_of_mem _ hm)
  simp only [lineN,List.map_cons,List.sum_cons,List.length_cons] at h2⊢
  push_cast
  omega
theorem q0g7 {J:Job} (w:wfJ J) {s:Stt} (r:rightP J s) (n1:J.items.length≤20) (n2:J.notes.length≤3) (n3:J.floats.length≤20) (hn: ∀n∈J.notes,n.lines.length≤100):q02f J s<1000:=by
 have cb:=q06n w r
 have h0:=r.h0
 have h1:=r.h1
 have h2:=q0a6 w r
 have bd:=q048 w.w s.at_
 have a1:=r.at1
 have f0:=q021 0 J.floats 0
 have f1:=q021 1 J.floats 0
 have f2:=q021 2 J.floats 0
 rw [q05w r,q063 h0 (by unfold leC at h1;omega)]
 unfold progN
 have lb:=q0q5 (J.notes.take s.note.toNat) (fun n h=>hn n (List.mem_of_mem_take h))
 have hl:((J.notes.take s.note.toNat).length:Int)≤3:=by rw [List.length_take];omega
 have ll:s.line≤100:=by
  by_cases z:s.line=0
  ·omega
  ·have h:=cb.2.2.2 z
   have:=hn _ (q061 cb.1 h.1)
   omega
 unfold leC allC at h2
 simp only at h2
 omega
theorem leastEnds_ev (j:Job) (hj:jobI j):clD EE (.p (.fn 5)) [vJob j] []=some (.p (.bool true),none):=by
 rw [q002 _ _ _ _ _ _ (noP _) fn5]
 have l1:=fun H=>q0s9 j H
 have aw:=fun H=>q0r7 H
 simp only [vJob,cGeom,List.cons_append,List.nil_append] at l1
 cases b1:q09u j with
 |true=>simp [St.enter,q000,subs,q001,l1,b1,aw]
 |false=>
  have sm:=q0s7 b1
  have ok:=q0ib hj sm
  have sms:=q0md sm
  have okS:=q0ib (q0pq hj) sms
  have hw:=q0vx j ok okS (fun n hn=>by have:=sms.each n hn;omega)
  by_cases h:(q03b j).1=0
  ·have r:=(q0f4 j).1 h
   have w:=wf_of r sms
   have st:=fun H=>q0mp (snapG j) w.w H
   have sr:=(q01k _ _).1 (q0jz w.cols)
   obtain ⟨x,k1,s,i,rfl,k2,k3⟩:=en_lp j (snapG j) w _ ⟨q05m (snapG j),rfl,sr,by
    have cb:=q06n w sr
    have lb:=q0it (snapG j).notes cb.1
    rw [q05w sr,q063 sr.h0 (by simp [q05m,zeroC])]
    unfold progN
    have:lineN ((snapG j).notes.take (0:Int).toNat)=0:=by simp [lineN]
    have:=sr.at0
    simp only [q05m,zeroC] at*
    omega⟩
   have dn:=fun H=>q0a0 (snapG j) w.w s H
   have hdn: ¬(20<j.items.length∨3<j.notes.length∨20<j.floats.length)→doneS (snapG j) s=true:=fun hs=>by
    rcases k3 with k3|k3
    ·exact k3
    ·have:=q0g7 w k2 (by rw [q0f9];omega) (by rw [q09y];omega) (by rw [q0f8];omega) (fun n hn=>(sms.each n hn).1)
     omega
   simp only [if_pos h] at hw
   generalize q05m (snapG j)=q at*
   generalize snapG j=J at*
   simp only [enE,enX,cJobW,cGeom,List.cons_append,List.nil_append] at k1
   simp at k1
   simp only [vJob,cJobW,cGeom,List.cons_append,List.nil_append] at hw
   by_cases n1:(20:Int)<j.items.length
   ·simp [St.enter,q000,subs,q001,fldvV,solN,sd,l1,b1,aw,hw,st,k1,n1]
   ·by_cases n2:(3:Int)<j.notes.length
    ·simp [St.enter,q000,subs,q001,fldvV,solN,sd,l1,b1,aw,hw,st,k1,n1,n2]
    ·by_cases n3:(20:Int)<j.floats.length
     ·simp [St.enter,q000,subs,q001,fldvV,solN,sd,l1,b1,aw,hw,st,k1,n1,n2,n3]
     ·rw [hdn (by omega)] at dn
      simp [St.enter,q000,subs,q001,fldvV,solN,sd,l1,b1,aw,hw,st,k1,n1,n2,n3,dn]
  ·simp only [if_neg h] at hw
   simp only [vJob,cGeom,List.cons_append,List.nil_append] at hw
   simp [St.enter,q000,subs,q001,fldvV,solN,sd,l1,b1,aw,hw]
end Go.EnvOf
