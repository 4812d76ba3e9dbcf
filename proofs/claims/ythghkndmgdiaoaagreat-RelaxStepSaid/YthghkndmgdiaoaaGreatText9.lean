/- The program's functions and the document's, evaluated. -/
import Derived.Test.YthghkndmgdiaoaaGreatText8
import Derived.Test.YthghkndmgdiaoaaGreatText5
set_option linter.unusedSimpArgs false
set_option linter.unusedVariables false
namespace Go.EnvOf
open Go Go.Eng
set_option maxRecDepth 100000
def q03i (j:Job) (s:Stt) (n:C3):Option Colm:=
 if s.h.a<n.a then some ⟨2,s.at_,s.at_,[],takeL j.floats s.h ⟨1,0,0⟩,[]⟩
 else if s.h.b<n.b then some ⟨2,s.at_,s.at_,[],takeL j.floats s.h ⟨0,1,0⟩,[]⟩
 else if s.h.c<n.c then some ⟨2,s.at_,s.at_,[],takeL j.floats s.h ⟨0,0,1⟩,[]⟩
 else none
def openS (j:Job) (s:Stt):Bool:=q01g j s&& !doneS j s
def textC (j:Job) (s:Stt):Option Colm:=
 if openS j s=true/\q022 j s=true/\s.at_<j.items.length then some ⟨1,s.at_,q015 j.items s.at_,q05q j.notes (spotS j s (q015 j.items s.at_)),[],[]⟩ else none
def noteC (j:Job) (s:Stt):Option Colm:=
 if openS j s=true/\s.at_=j.items.length/\s.note≠j.notes.length then some ⟨3,s.at_,s.at_,q05q j.notes (q02h (spotS j s s.at_)),[],[]⟩ else none
def dueC (j:Job) (s:Stt):Option Colm:=if openS j s=true then q03i j s (dueF j s.at_) else none
def q08m (j:Job) (s:Stt):Option Colm:=if openS j s=true then q03i j s (q01i j s.at_) else none
def q04r (j:Job) (s:Stt):Option Colm:=(textC j s).or ((dueC j s).or ((noteC j s).or (q08m j s)))
def q0b1 (j:Job) (s:Stt) (c:Colm):C3:=addC (addC s.h (ofL j.floats c.top)) (ofL j.floats c.bot)
def setF (j:Job) (s:Stt) (c:Colm) (to:Int):Bool:=
 nextQ j.floats s.h c.top&&nextQ j.floats (addC s.h (ofL j.floats c.top)) c.bot&&inC (q0b1 j s c) (q01i j to)
def fitsC (j:Job) (c:Colm):Bool:=fitT j.g j.floats c.top&&fitB j.g j.floats c.bot
def textE (j:Job) (s:Stt) (c:Colm):Int:=
 if q022 j s=false then 18 else if (brkF j.items s.at_).contains c.to=false then 14
 else if mayPc j.notes (spotS j s c.to) c.notes=false then 15 else if setF j s c c.to=false\/fitsC j c=false then 16 else 0
def q0b2 (j:Job) (s:Stt) (c:Colm):Int:=
 if c.notes≠[] then 15 else if c.top=[]\/8<c.top.length\/c.bot≠[]\/setF j s c s.at_=false\/(q02r j s c).over=true then 16 else 0
def noteE (j:Job) (s:Stt) (c:Colm):Int:=
 if c.notes=[]\/mayPc j.notes (q02h (spotS j s s.at_)) c.notes=false then 15 else if c.top≠[]\/c.bot≠[] then 16 else 0
def endE (j:Job) (s:Stt) (c:Colm):Bool:=
 decide (openS j s=false\/c.k<1\/3<c.k\/c.frm≠s.at_\/(c.k=1/\s.at_=j.items.length)\/(c.k≠1/\c.to≠s.at_)\/(c.k=3/\s.at_≠j.items.length))
def kindE (j:Job) (s:Stt) (c:Colm):Int:=if c.k=1 then textE j s c else if c.k=2 then q0b2 j s c else noteE j s c
def q014:Colm:=⟨0,0,0,[],[],[]⟩
def q06c (j:Job) (s:Stt) (c:Colm):Int:=
 if endE j s c=true then 19 else if kindE j s c≠0 then kindE j s c
 else if (q02r j s c).over=true/\sameC c ((q04r j s).getD q014)=false then 17 else 0
theorem q10m (fs:List Float): ∀(xs:List Int) (s:C3),leC s (xs.foldl (ofS fs) s)/\(xs.foldl (ofS fs) s).a<=s.a+xs.length/\(xs.foldl (ofS fs) s).b<=s.b+xs.length/\(xs.foldl (ofS fs) s).c<=s.c+xs.length
 |[],s=>by simp [leC]
 |x::r,s=>by
  have h:=q10m fs r (ofS fs s x)
  have e:leC s (ofS fs s x)/\(ofS fs s x).a<=s.a+1/\(ofS fs s x).b<=s.b+1/\(ofS fs s x).c<=s.c+1:=by
   unfold ofS bump leC
   (repeat' split)<;>(try simp only)<;>omega
  simp only [ZT,Zg]
  unfold leC at*
  push_cast
  omega
theorem q0Zj (fs:List Float) (xs:List Int):leC zeroC (ofL fs xs)/\(ofL fs xs).a<=xs.length/\(ofL fs xs).b<=xs.length/\(ofL fs xs).c<=xs.length:=by
 have:=q10m fs xs ⟨0,0,0⟩
 unfold ofL
 unfold leC zeroC at*
 simp only at*
 omega
theorem q119 {x y:C3} (hx:leC zeroC x) (hy:leC zeroC y) (bx:x.a<=1000000/\x.b<=1000000/\x.c<=1000000):leC x (addC x y):=by
 unfold leC zeroC addC zipF held big at*
 simp only at*
 omega
theorem q0Yw {a b q:Int} (ha:0<=a) (hb:0<=b) (h:held (held a (-big) big+held b (-big) big) (-big) big<=q) (hq:q<=1000000):a<=held (held a (-big) big+held b (-big) big) (-big) big:=by
 unfold held big at*
 omega
theorem q0Zt {x y q:C3} (hx:leC zeroC x) (hy:leC zeroC y) (h:leC (addC x y) q) (hq:q.a<=1000000/\q.b<=1000000/\q.c<=1000000):leC x (addC x y):=
 ⟨q0Yw hx.1 hy.1 h.1 hq.1,q0Yw hx.2.1 hy.2.1 h.2.1 hq.2.1,q0Yw hx.2.2 hy.2.2 h.2.2 hq.2.2⟩
theorem q0Zk {a:Int} (ha:0<=a) (hq:a<=1000000):held (held a (-big) big+held 0 (-big) big) (-big) big=a:=by
 unfold held big at*
 omega
theorem q0Zl {x:C3} (h:leC zeroC x) (b:x.a<=1000000/\x.b<=1000000/\x.c<=1000000):addC x zC=x:=by
 obtain ⟨h1,h2,h3⟩:=h
 unfold addC zipF
 rw [show (zC).a=0 from rfl,show (zC).b=0 from rfl,show (zC).c=0 from rfl,q0Zk h1 b.1,q0Zk h2 b.2.1,q0Zk h3 b.2.2]
theorem q0wx {j:Job} (w:okW j) (n:Int):leC zeroC (q01i j n)/\(q01i j n).a<=1000000/\(q01i j n).b<=1000000/\(q01i j n).c<=1000000:=by
 unfold q01i
 have h:=q0ix j.floats (j.items.take (putN j.items n))
 have hl:((j.items.take (putN j.items n)).length:Int)<=1000000:=by
  have:=w.n1
  rw [ZC]
  omega
 unfold leC zeroC
 simp only
 omega
theorem q0Y7 {x:C3} (h:leC zeroC x) (b:x.a<=1000000/\x.b<=1000000/\x.c<=1000000):sumC x=x.a+x.b+x.c:=by
 unfold sumC held big leC zeroC at*
 simp only at*
 omega
theorem q0Bd {l:List Item} {a t:Int} (h0:0<=a) (h:t∈brkF l a):a<t/\t<=l.length/\mayV l t=true/\t<=q010 l a:=by
 unfold brkF at h
 obtain ⟨m,hm,rfl⟩:=ZJ.1 h
 unfold brkN at hm
 rw [List.mem_filter,List.mem_range'] at hm
 obtain ⟨⟨i,hi,rfl⟩,h2⟩:=hm
 simp only [Zb,decide_eq_true_eq] at h2
 unfold mayN at h2
 unfold pos at*
 simp only [Int.ofNat_eq_natCast]
 exact ⟨by omega,by omega,h2.2,h2.1⟩
theorem q0Yc {j:Job} {s:Stt} (r:rightP j s):q0Xw j s=s.at_+progN j.notes s.note s.line+sumC s.h:=by
 unfold q0Xw progN
 rw [if_pos ((q02k j s).2 r)]
 omega
theorem q0p6 {j:Job} {s:Stt} (r:rightP j s) (to:Int):spotS j s to=⟨s.note,s.line,q00z j to,decide (q00z j s.at_<q00z j to)⟩:=by
 unfold spotS
 rw [if_pos ((q02k j s).2 r)]
theorem q108 (l:List Item) (n:Int):trimF l (trimF l n)=trimF l n:=by
 have h:=q0Yf l n
 unfold trimF at*
 rw [h,q0Zy]
theorem q10y {l:List Item} {n:Int} (h0:0<=n) (h1:n<=l.length):n<=trimF l n:=by
 unfold trimF
 have:=q10w l (putN l n)
 have e:(putN l n:Int)=n:=by unfold putN;omega
 omega
theorem q0Yx {j:Job} (w:wfJ j) {s:Stt} (r:rightP j s) {c:Colm} {b:Int} {fr:Bool} {at':Int} (e0:nextF j.notes (spotS j s c.to) c.notes=nextF j.notes ⟨s.note,s.line,b,fr⟩ c.notes)
  (ha:at'=if c.k=1 then (trimF j.items c.to:Int) else s.at_) (hb:b=q00z j at') (hle:s.at_<=at') (ht:(trimF j.items at':Int)=at') (hle2:at'<=j.items.length) (hf:fr=false->b<=q00z j s.at_)
  (hp:c.notes∈q00j j.notes ⟨s.note,s.line,b,fr⟩) (hh:leC (q0b1 j s c) (q01i j at')):
  rightP j (nextS j s c)/\q0Xw j s+(at'-s.at_)<=q0Xw j (nextS j s c)/\(c.notes≠[]\/s.at_<at'\/sumC s.h<sumC (q0b1 j s c)->q0Xw j s<q0Xw j (nextS j s c)):=by
 have hr:=(q02k j s).2 r
 obtain ⟨g1,g2,g3⟩:=q10l w r (p:=c.notes) (b:=b) (fr:=fr) (by rw [hb];exact q106 j hle) (by rw [hb];exact q03o w.w _) hf hp
 have e:nextS j s c=⟨at',min (s.col+1) j.g.cols,(nextF j.notes ⟨s.note,s.line,b,fr⟩ c.notes).1,(nextF j.notes ⟨s.note,s.line,b,fr⟩ c.notes).2,q0b1 j s c⟩:=by
  unfold nextS
  rw [if_pos hr,e0,<-ha];rfl
 have bd:=q0wx w.w s.at_
 have bd2:=q0wx w.w at'
 have o1:=q0Zj j.floats c.top
 have o2:=q0Zj j.floats c.bot
 have hb1:s.h.a<=1000000/\s.h.b<=1000000/\s.h.c<=1000000:=by
  have:=r.h1
  unfold leC at this
  omega
 have m1:leC s.h (addC s.h (ofL j.floats c.top)):=q119 r.h0 o1.1 hb1
 have z1:leC zeroC (addC s.h (ofL j.floats c.top)):=q0bu r.h0 m1
 have m2:leC (addC s.h (ofL j.floats c.top)) (q0b1 j s c):=q0Zt z1 o2.1 hh ⟨bd2.2.1,bd2.2.2.1,bd2.2.2.2⟩
 have z2:=q0bu z1 m2
 have hs2:(q0b1 j s c).a<=1000000/\(q0b1 j s c).b<=1000000/\(q0b1 j s c).c<=1000000:=by
  unfold leC at hh;omega
 have s1:=q0Y7 r.h0 hb1
 have s2:=q0Y7 z2 hs2
 have mm:=q0bu m1 m2
 have rn:rightP j (nextS j s c):=by
  rw [e]
  refine ⟨by have:=r.at0;simp only;omega,hle2,ht,by have:=r.col0;have:=w.cols;simp only;omega,by simp only;omega,?_,z2,hh⟩
  rw [q0od]
  simp only
  rcases g1 with ⟨a,b'⟩|⟨a,b',c',d,f⟩
  ·exact .inl ⟨a,by rw [b',hb]⟩
  ·exact .inr ⟨a,by rw [b',hb],c',d,f⟩
 have q1:=q0Yc r
 have q2:=q0Yc rn
 rw [e] at q2
 rw [e] at rn⊢
 simp only at q2
 refine ⟨rn,?_,?_⟩
 ·unfold leC at mm;omega
 ·intro h
  unfold leC at mm
  rcases h with h|h|h
  ·have:=g3 h;omega
  ·omega
  ·omega
theorem q0Y1 {j:Job} (w:wfJ j) {s:Stt} {c:Colm} (h:q06c j s c=0):rightP j s/\rightP j (nextS j s c)/\q0Xw j s<q0Xw j (nextS j s c):=by
 unfold q06c at h
 by_cases he:endE j s c=true
 ·rw [if_pos he] at h;cases h
 rw [if_neg he] at h
 by_cases hk:kindE j s c≠0
 ·rw [if_pos hk] at h;exact absurd h hk
 have hk:kindE j s c=0:=by omega
 unfold endE at he
 simp only [decide_eq_true_eq,not_or,not_and,Bool.not_eq_false,Int.not_lt] at he
 obtain ⟨e1,e2,e3,e4,e5,e6,e7⟩:=he
 unfold openS at e1
 simp only [Zb] at e1
 have r:=(q02k j s).1 e1.1
 refine ⟨r,?_⟩
 unfold kindE at hk
 by_cases k1:c.k=1
 ·rw [if_pos k1] at hk
  unfold textE at hk
  split at hk
  ·cases hk
  split at hk
  ·cases hk
  split at hk
  ·cases hk
  split at hk
  ·cases hk
  rename_i f1 f2 f3 f4
  simp only [Bool.not_eq_false,not_or] at f1 f2 f3 f4
  have hm:=q0Bd r.at0 (by simpa using f2)
  have hp:=(q0ja _ _ _).1 f3
  rw [q0p6 r] at hp
  have hset:=f4.1
  unfold setF at hset
  simp only [Zb,q0pw] at hset
  have hge:=q10y (l:=j.items) (n:=c.to) (by have:=r.at0;omega) hm.2.1
  have hlt:s.at_<trimF j.items c.to:=by omega
  have:=q0Yx w r (c:=c) (b:=q00z j c.to) (fr:=decide (q00z j s.at_<q00z j c.to)) (at':=trimF j.items c.to) (by rw [q0p6 r]) (by rw [if_pos k1])
   (q104 j c.to).symm (by omega) (by rw [q108]) (by have:=q0Zi j.items c.to;omega) (fun h=>by simpa using h) hp (by rw [q105];exact hset.2)
  exact ⟨this.1,this.2.2 (.inr (.inl hlt))⟩
 ·rw [if_neg k1] at hk
  have hto:=e6 k1
  by_cases k2:c.k=2
  ·rw [if_pos k2] at hk
   unfold q0b2 at hk
   split at hk
   ·cases hk
   split at hk
   ·cases hk
   rename_i f1 f2
   simp only [not_or,Bool.not_eq_false,ne_eq,Decidable.not_not] at f1 f2
   obtain ⟨f2,f3,f4,f5,f6⟩:=f2
   unfold setF at f5
   simp only [Zb,q0pw] at f5
   have hp:c.notes∈q00j j.notes ⟨s.note,s.line,q00z j s.at_,false⟩:=by
    rw [f1]
    unfold q00j
    rw [if_pos (.inr rfl)];simp
   have:=q0Yx w r (c:=c) (b:=q00z j s.at_) (fr:=false) (at':=s.at_) (by rw [f1,q0Ye,q0Ye,q0p6 r]) (by rw [if_neg k1])
    rfl (ZS _) r.trim r.at1 (fun _=>ZS _) hp f5.2
   refine ⟨this.1,this.2.2 (.inr (.inr ?_))⟩
   have hn:=f5.1.1
   unfold nextQ at hn
   simp only [Zb,decide_eq_true_eq] at hn
   have hz:ofL j.floats c.top≠zC:=by
    intro hz
    rw [hz,q0Ya] at hn
    exact f2 hn.2.symm
   have ok:=hn.1
   have o1:=(q0Zj j.floats c.top).1
   have bd:=q0wx w.w s.at_
   have hsm:=q0Z2 w.w.n3 ok
   have ebot:q0b1 j s c=addC (addC s.h (ofL j.floats c.top)) zC:=by unfold q0b1;rw [f4];rfl
   have hh:=f5.2
   have h0:=r.h0
   have h1:=r.h1
   rw [hsm] at ebot
   have hz1:leC zeroC (plus s.h (ofL j.floats c.top)):=by
    have h0:=r.h0
    unfold leC zeroC plus at*
    simp only at*
    omega
   have hup:=q0Zt (y:=zC) hz1 (q0e6 _) (ebot▸f5.2) ⟨bd.2.1,bd.2.2.1,bd.2.2.2⟩
   have hle:=q0bu hup (ebot▸f5.2)
   have hs:(plus s.h (ofL j.floats c.top)).a<=1000000/\(plus s.h (ofL j.floats c.top)).b<=1000000/\(plus s.h (ofL j.floats c.top)).c<=1000000:=by
    unfold leC at hle;omega
   rw [ebot,q0Zl hz1 hs,q0Y7 hz1 hs,q0Y7 r.h0 (by have:=r.h1;unfold leC at this;omega)]
   have hy:0<(ofL j.floats c.top).a+(ofL j.floats c.top).b+(ofL j.floats c.top).c:=by
    have: ¬((ofL j.floats c.top).a=0/\(ofL j.floats c.top).b=0/\(ofL j.floats c.top).c=0):=fun h=>hz (by
     revert h
     generalize ofL j.floats c.top=y
     obtain ⟨a,b,d⟩:=y
     rintro ⟨rfl,rfl,rfl⟩
     rfl)
    unfold leC zeroC at o1
    simp only at o1
    omega
   unfold plus
   simp only
   omega
  ·rw [if_neg k2] at hk
   unfold noteE at hk
   split at hk
   ·cases hk
   split at hk
   ·cases hk
   rename_i f1 f2
   simp only [not_or,Bool.not_eq_false,ne_eq,Decidable.not_not] at f1 f2
   have hp:=(q0ja _ _ _).1 f1.2
   rw [q0p6 r] at hp
   unfold q02h at hp
   simp only at hp
   have hh:leC (q0b1 j s c) (q01i j s.at_):=by
    have e:q0b1 j s c=addC (addC s.h zC) zC:=by unfold q0b1;rw [f2.1,f2.2];rfl
    rw [e]
    have h0:=r.h0
    have h1:=r.h1
    have bd:=q0wx w.w s.at_
    generalize s.h=x at*
    generalize q01i j s.at_=q at*
    unfold leC zeroC addC zipF held big zC at*
    simp only at*
    omega
   have e0:nextF j.notes (spotS j s c.to) c.notes=nextF j.notes ⟨s.note,s.line,q00z j s.at_,true⟩ c.notes:=by
    unfold nextF
    cases hl:c.notes.getLast? with
    |none=>exact absurd (List.getLast?_eq_none_iff.1 hl) f1.1
    |some x=>rfl
   have:=q0Yx w r (c:=c) (b:=q00z j s.at_) (fr:=true) (at':=s.at_) e0 (by rw [if_neg k1])
    rfl (ZS _) r.trim r.at1 (fun h=>by cases h) hp hh
   exact ⟨this.1,this.2.2 (.inl f1.1)⟩
theorem q0b3 {p:Nat->Bool}: ∀(k n m:Nat),n<=m->m<n+k->p m=true->seekP p k n≠ -1/\seekP p k n<=m
 |0,n,m,h1,h2,_=>by omega
 |k+1,n,m,h1,h2,h3=>by
  rw [seekP]
  by_cases q:p n=true
  ·rw [if_pos q];omega
  ·rw [if_neg q]
   have:n≠m:=fun e=>q (e▸h3)
   exact q0b3 k (n+1) m (by omega) (by omega) h3
theorem q0Be {l:List Item} (h:1<=l.length):mayN l l.length=true:=by
 unfold mayN mayV
 rw [if_neg (by omega)]
 have:q02g l (l.length:Int)=none:=by unfold q02g;rw [if_neg (by omega)]
 rw [this]
theorem q0wy {l:List Item} {n:Nat} (h1:1<=n) (h2:n<=l.length) (h:mustP l n=true):mayN l n=true:=by
 by_cases e:n=l.length
 ·subst e;exact q0Be h1
 ·have hx:l[n]? =some (l[n]'(by omega)):=Zl (by omega)
  unfold mustP at h
  rw [hx] at h
  unfold mayN mayV
  rw [if_neg (by omega),q06n,hx]
  simp only at h⊢
  unfold q05z at h
  simp only [Zb,decide_eq_true_eq] at h
  rw [if_neg (by omega),if_pos h.1]
  unfold forbX
  simp [h.1]
  omega
theorem q0tc {l:List Item} {a:Int} (h0:0<=a) (h1:a<l.length):q015 l a∈brkF l a:=by
 have hp:(pos a:Int)=a:=by unfold pos;omega
 have hF:=q0b3 (p:=mustP l) (l.length-pos a) (pos a+1) l.length (by omega) (by omega) (by unfold mustP;rw [ZF (Zm _)])
 have bF:=q07g (mustP l) (l.length-pos a) (pos a+1)
 change q010 l a≠ -1/\q010 l a<=_ at hF
 change q010 l a= -1\/_<=q010 l a/\q010 l a<_/\mustP l (q010 l a).toNat=true at bF
 rcases bF with bF|⟨b1,b2,b3⟩
 ·exact absurd bF hF.1
 have hm:=q0wy (n:=(q010 l a).toNat) (by omega) (by omega) b3
 have hB:=q0b3 (p:=mayN l) (l.length-pos a) (pos a+1) (q010 l a).toNat (by omega) (by omega) hm
 have bB:=q07g (mayN l) (l.length-pos a) (pos a+1)
 change q015 l a≠ -1/\q015 l a<=_ at hB
 change q015 l a= -1\/_<=q015 l a/\q015 l a<_/\mayN l (q015 l a).toNat=true at bB
 rcases bB with bB|⟨c1,c2,c3⟩
 ·exact absurd bB hB.1
 unfold brkF
 refine ZJ.2 ⟨(q015 l a).toNat,?_,by simp only [Int.ofNat_eq_natCast];omega⟩
 unfold brkN
 rw [List.mem_filter,List.mem_range']
 refine ⟨⟨(q015 l a).toNat-(pos a+1),by omega,by omega⟩,?_⟩
 simp only [Zb,decide_eq_true_eq]
 exact ⟨by omega,c3⟩
theorem q0Zc (fs:List Float) (h:C3) (g0:leC zeroC h) (g1:leC h (allC fs)):okT fs h zC:=by
 unfold okT okU leC zeroC allC zC at*
 simp only at*
 omega
theorem q0hy {j:Job} (w:wfJ j) {s:Stt} (r:rightP j s):leC s.h (allC j.floats):=q0bu r.h1 (q0jb w.six _)
theorem q10o {j:Job} (w:wfJ j) {s:Stt} (r:rightP j s) {c:Colm} (ht:c.top=[]) (hb:c.bot=[]) {to:Int} (h:s.at_<=to):setF j s c to=true:=by
 have ok:=q0Zc _ _ r.h0 (q0hy w r)
 have bd:=q0wx w.w s.at_
 have hs:s.h.a<=1000000/\s.h.b<=1000000/\s.h.c<=1000000:=by have:=r.h1;unfold leC at this;omega
 have ez:=q0Zl r.h0 hs
 have e0:ofL j.floats []=zC:=rfl
 have hn:nextQ j.floats s.h []=true:=by
  unfold nextQ
  rw [e0,q0Ya]
  simp [ok]
 unfold setF q0b1
 rw [ht,hb,e0,ez,ez,hn]
 simp only [ZV,q0pw]
 exact q0bu r.h1 (q107 j h)
theorem q109 {j:Job} (w:wfJ j) {c:Colm} (ht:c.top=[]) (hb:c.bot=[]):fitsC j c=true:=by
 have m:=w.many
 unfold fitsC fitT fitB fitsF
 rw [ht,hb]
 have e:highQ j.floats [] j.g.sep=0:=rfl
 rw [e]
 simp [m.1,m.2.1,m.2.2.1,m.2.2.2]
theorem q113 {j:Job} (w:wfJ j) {s:Stt} (r:rightP j s) {y:C3} (hy0:leC zeroC y) (hy:leC (plus s.h y) (q01i j s.at_)) (hz:leC s.h (plus s.h y)) {c:Colm} (ht:c.top=takeL j.floats s.h y) (hb:c.bot=[]):
  setF j s c s.at_=true/\okT j.floats s.h y:=by
 have ok:okT j.floats s.h y:=by
  have h0:=r.h0
  have h1:=q0bu hy (q0jb w.six _)
  unfold okT okU leC zeroC allC plus at*
  simp only at*
  omega
 have bd:=q0wx w.w s.at_
 have e1:ofL j.floats c.top=y:=by rw [ht,q0Zg _ _ _ ok]
 have e0:ofL j.floats []=zC:=rfl
 have ep:addC s.h y=plus s.h y:=q0Z2 w.w.n3 ok
 have hp0:leC zeroC (plus s.h y):=q0bu r.h0 hz
 have hp1:(plus s.h y).a<=1000000/\(plus s.h y).b<=1000000/\(plus s.h y).c<=1000000:=by
  have:=hy
  unfold leC at this;omega
 have ok2:=q0Zc _ _ hp0 (q0bu hy (q0jb w.six _))
 refine ⟨?_,ok⟩
 unfold setF q0b1
 rw [e1,hb,e0,ep,q0Zl hp0 hp1]
 simp only [Zb,q0pw]
 refine ⟨⟨?_,?_⟩,hy⟩
 ·rw [ht];exact q10h _ _ _ ok
 ·unfold nextQ
  rw [e0,q0Ya]
  simp [ok2]
theorem q0Zu {j:Job} (w:wfJ j) {s:Stt} (r:rightP j s) {c:Colm} (hk:c.k=2) (hn:c.notes=[]) {x:Int} (ht:c.top=[x]):(q02r j s c).over=false:=by
 unfold q02r
 rw [if_pos ((q02k j s).2 r),if_neg (by omega)]
 have hf:fullC j c=false:=by unfold fullC;rw [hn];simp
 rw [hf]
 simp only [Bool.false_or,decide_eq_false_iff_not,Int.not_lt]
 unfold roomC q05b q05p
 rw [if_neg (by omega),if_pos hk,hn]
 have hh:highP j.notes [] j.g.rule=0:=rfl
 rw [hh]
 have hi:j.g.first<=highS j s/\highS j s<=4294967296:=by
  have:=w.high
  unfold highS
  rw [if_pos ((q02k j s).2 r)]
  split<;>omega
 have sp:=w.sep
 have key:highQ j.floats c.top j.g.sep=0\/(∃f∈j.floats,highQ j.floats c.top j.g.sep=hz (0+hz f.h+hz j.g.sep)):=by
  rw [ht]
  unfold highQ
  simp only [ZT,List.foldl_nil,hiS]
  unfold atF
  by_cases q:0<=x/\x<j.floats.length
  ·rw [if_pos q]
   exact .inr ⟨_,q05a q.1 q.2,rfl⟩
  ·rw [if_neg q];exact .inl rfl
 have hi0:0<=highS j s:=by
  have:=w.high
  rcases key with _|⟨f,hf,_⟩
  ·unfold highS;rw [if_pos ((q02k j s).2 r)];have:=w.hi0;split<;>omega
  ·have:=w.fl f hf;omega
 rw [Int.sub_zero,w64 (n:=highS j s) (by omega) (by omega)]
 rcases key with e|⟨f,hf,e⟩
 ·rw [if_pos e,Int.sub_zero,w64 (by omega) (by omega)];exact hi0
 ·have hb:=w.fl f hf
  rw [e]
  have e1:hz (0+hz f.h+hz j.g.sep)=f.h+j.g.sep:=by unfold hz fz;omega
  rw [e1]
  have e2:min (max j.g.sep 0) 1125899906842624=j.g.sep:=by omega
  rw [e2]
  split
  ·rw [Int.sub_zero,w64 (by omega) (by omega)];exact hi0
  ·rw [show f.h+j.g.sep-j.g.sep=f.h by omega,w64 (n:=f.h) (by omega) (by omega),w64 (by omega) (by omega)]
   omega
theorem q04a (j:Job) (s:Stt):openS j s=true↔rightP j s/\doneS j s=false:=by
 unfold openS
 rw [Zb,q02k,Bool.not_eq_true']
theorem q0Y8 {j:Job} {s:Stt} {c:Colm} (he:endE j s c=false) (hk:kindE j s c=0) (ho:(q02r j s c).over=false\/q04r j s=some c):q06c j s c=0:=by
 unfold q06c
 rw [if_neg (by rw [he];simp),if_neg (by omega),if_neg]
 rintro ⟨h1,h2⟩
 rcases ho with h|h
 ·rw [h] at h1;cases h1
 ·rw [h,Option.getD_some] at h2
  unfold sameC at h2
  simp at h2
theorem q10p {j:Job} {s:Stt} {y:C3} (ok:okT j.floats s.h y) (h1:y.a+y.b+y.c=1) (h0:leC zeroC y): ∃x,takeL j.floats s.h y=[x]:=by
 have:(takeL j.floats s.h y).length=1:=by
  unfold takeL raw
  rw [isort_len,Zt,Zt,q0Bn ok.1,q0Bn ok.2.1,q0Bn ok.2.2]
  unfold leC zeroC at h0
  simp only at h0
  omega
 match h:takeL j.floats s.h y,this with
 |[x],_=>exact ⟨x,rfl⟩
theorem q0Yh {j:Job} (w:wfJ j) {s:Stt} (r:rightP j s) (hd:doneS j s=false) {n:C3} (hn2:leC n (q01i j s.at_)) {c:Colm} (h:q03i j s n=some c):
  endE j s c = false /\ kindE j s c = 0 /\ (q02r j s c).over = false /\ c.frm = s.at_ /\ ∃ x, c.top = [x] := by
 have key: ∀y:C3,c=⟨2,s.at_,s.at_,[],takeL j.floats s.h y,[]⟩->y.a+y.b+y.c=1->leC zeroC y->leC (plus s.h y) (q01i j s.at_)->leC s.h (plus s.h y)->endE j s c=false/\kindE j s c=0/\(q02r j s c).over=false/\c.frm=s.at_/\ ∃x,c.top=[x]:=by
  rintro y rfl h1 h0 hy hz
  obtain ⟨hs,ok⟩:=q113 w r h0 hy hz (c:=⟨2,s.at_,s.at_,[],takeL j.floats s.h y,[]⟩) rfl rfl
  obtain ⟨x,hx⟩:=q10p ok h1 h0
  have ho:=q0Zu w r (c:=⟨2,s.at_,s.at_,[],takeL j.floats s.h y,[]⟩) rfl rfl hx
  refine ⟨?_,?_,ho,rfl,x,hx⟩
  ·unfold endE
   rw [decide_eq_false_iff_not]
   simp [(q04a j s).2 ⟨r,hd⟩]
  ·unfold kindE q0b2
   rw [if_neg (by simp),if_pos rfl,if_neg (by simp),if_neg]
   rw [hs,ho]
   simp [hx]
 have h1:=r.h1
 unfold q03i at h
 split at h
 ·exact key ⟨1,0,0⟩ (Option.some.inj h).symm rfl (by simp [leC,zeroC]) (by unfold leC plus at*;simp only;omega) (by simp [leC,plus];omega)
 split at h
 ·exact key ⟨0,1,0⟩ (Option.some.inj h).symm rfl (by simp [leC,zeroC]) (by unfold leC plus at*;simp only;omega) (by simp [leC,plus];omega)
 split at h
 ·exact key ⟨0,0,1⟩ (Option.some.inj h).symm rfl (by simp [leC,zeroC]) (by unfold leC plus at*;simp only;omega) (by simp [leC,plus];omega)
 cases h
theorem q0qp {j:Job} {s:Stt} {n:C3} (h: ¬leC n s.h): ∃c,q03i j s n=some c:=by
 unfold q03i
 split
 ·exact ⟨_,rfl⟩
 split
 ·exact ⟨_,rfl⟩
 split
 ·exact ⟨_,rfl⟩
 exfalso;apply h;unfold leC;omega
theorem q0hz {j:Job} {s:Stt} (r:rightP j s):q022 j s=true↔leC (dueF j s.at_) s.h:=by
 unfold q022
 rw [(q02k j s).2 r,ZV,q0pw]
theorem q11b {x y:C3} (h:leC x y) (g:leC y x):x=y:=by
 obtain ⟨a,b,c⟩:=x
 obtain ⟨d,e,f⟩:=y
 unfold leC at*
 simp only [C3.mk.injEq] at*
 omega
theorem q10a (j:Job) {n:Int} (h:n=j.items.length):q01i j n=allS j:=by
 unfold q01i allS
 subst h
 have:putN j.items (j.items.length:Int)=j.items.length:=by unfold putN;omega
 rw [this,List.take_length]
theorem q10b (j:Job) {n:Int} (h:n=j.items.length):q00z j n=q01a j.items:=by
 unfold q00z
 subst h
 have:putN j.items (j.items.length:Int)=j.items.length:=by unfold putN;omega
 rw [this,List.take_length]
theorem q0Yi {j:Job} (w:wfJ j) {s:Stt} (ho:openS j s=true): ∃c,q04r j s=some c/\q06c j s c=0/\c.frm=s.at_:=by
 obtain ⟨r,hd⟩:=(q04a j s).1 ho
 obtain ⟨n0,l0,n1,n2⟩:=q09w w r
 by_cases ht:q022 j s=true/\s.at_<j.items.length
 ·have e:textC j s=some ⟨1,s.at_,q015 j.items s.at_,q05q j.notes (spotS j s (q015 j.items s.at_)),[],[]⟩:=by unfold textC;rw [if_pos ⟨ho,ht⟩]
  have hb:=q0tc r.at0 ht.2
  have hm:=q0Bd r.at0 hb
  have hl:q04r j s=some ⟨1,s.at_,q015 j.items s.at_,q05q j.notes (spotS j s (q015 j.items s.at_)),[],[]⟩:=by unfold q04r;rw [e];rfl
  refine ⟨_,hl,q0Y8 ?_ ?_ (.inr hl),rfl⟩
  ·unfold endE
   rw [decide_eq_false_iff_not]
   simp [ho]
   omega
  ·unfold kindE
   rw [if_pos rfl]
   unfold textE
   simp only
   rw [if_neg (by rw [ht.1];simp),if_neg (by simpa using hb),if_neg,if_neg]
   ·rw [q10o w r rfl rfl (by omega),q109 w rfl rfl];simp
   ·rw [Bool.not_eq_false,q0ja,q0p6 r]
    refine q0Z5 (q03o w.w _) n0 l0 w.notes fun h=> ?_
    simp only at h⊢
    by_cases z:s.line=0
    ·rw [z]
     have:=w.notes (rd j.notes s.note) (q05a n0 (by have:=q03o w.w (q015 j.items s.at_);omega))
     omega
    ·exact (n2 z).2
 ·have e:textC j s=none:=by unfold textC;rw [if_neg (fun h=>ht h.2)]
  by_cases hf:q022 j s=true
  ·have ha:s.at_=j.items.length:=by have:=r.at1;have: ¬s.at_<j.items.length:=fun h=>ht ⟨hf,h⟩;omega
   have e2:dueC j s=none:=by
    unfold dueC
    rw [if_pos ho]
    have hle:=(q0hz r).1 hf
    unfold leC at hle
    unfold q03i
    rw [if_neg (by omega),if_neg (by omega),if_neg (by omega)]
   by_cases hn:s.note=j.notes.length
   ·have e3:noteC j s=none:=by unfold noteC;rw [if_neg (fun h=>h.2.2 hn)]
    have hne: ¬leC (q01i j s.at_) s.h:=by
     intro hle
     have heq:=q11b r.h1 hle
     rw [q10a j ha] at heq
     have hl:s.line=0:=by
      by_cases z:s.line=0
      ·exact z
      ·have:=(n2 z).1;omega
     unfold doneS at hd
     rw [(q02k j s).2 r] at hd
     simp [ha,hl,hn,heq] at hd
    obtain ⟨c,hc⟩:=q0qp (j:=j) hne
    have a:=q0Yh w r hd (q0e6 _) hc
    have hl:q04r j s=some c:=by unfold q04r q08m;rw [e,e2,e3,if_pos ho,hc];rfl
    exact ⟨c,hl,q0Y8 a.1 a.2.1 (.inl a.2.2.1),a.2.2.2.1⟩
   ·have e3:noteC j s=some ⟨3,s.at_,s.at_,q05q j.notes (q02h (spotS j s s.at_)),[],[]⟩:=by unfold noteC;rw [if_pos ⟨ho,ha,hn⟩]
    have hl:q04r j s=some ⟨3,s.at_,s.at_,q05q j.notes (q02h (spotS j s s.at_)),[],[]⟩:=by unfold q04r;rw [e,e2,e3];rfl
    have hm:q05q j.notes (q02h (spotS j s s.at_))∈q00j j.notes (q02h (spotS j s s.at_)):=by
     rw [q0p6 r]
     refine q0Z5 (q03o w.w _) n0 l0 w.notes fun h=> ?_
     simp only [q02h] at h⊢
     by_cases z:s.line=0
     ·rw [z]
      have:=w.notes (rd j.notes s.note) (q05a n0 (by omega))
      omega
     ·exact (n2 z).2
    have hne:q05q j.notes (q02h (spotS j s s.at_))≠[]:=by
     intro h0
     rw [h0] at hm
     rw [q0p6 r] at hm
     rcases q0Yk (s:=q02h ⟨s.note,s.line,q00z j s.at_,decide (q00z j s.at_<q00z j s.at_)⟩) (q03o w.w _) n0 l0 hm with ⟨_,h|h⟩|⟨_,q,t,h,_⟩
     ·simp only [q02h] at h
      have:=q10b j ha
      have:=w.five
      omega
     ·cases h
     ·simp at h
    refine ⟨_,hl,q0Y8 ?_ ?_ (.inr hl),rfl⟩
    ·unfold endE
     rw [decide_eq_false_iff_not]
     simp [ho,ha]
    ·unfold kindE
     rw [if_neg (by simp),if_neg (by simp)]
     unfold noteE
     simp only
     rw [if_neg,if_neg (by simp)]
     rintro (h|h)
     ·exact hne h
     ·rw [(q0ja _ _ _).2 hm] at h;cases h
  ·have hne: ¬leC (dueF j s.at_) s.h:=fun h=>hf ((q0hz r).2 h)
   obtain ⟨c,hc⟩:=q0qp (j:=j) hne
   have a:=q0Yh w r hd (q0vq _ _) hc
   have hl:q04r j s=some c:=by unfold q04r dueC;rw [e,if_pos ho,hc];rfl
   exact ⟨c,hl,q0Y8 a.1 a.2.1 (.inl a.2.2.1),a.2.2.2.1⟩
theorem q0Y9 {j:Job} {s:Stt} (ho:openS j s=false):q04r j s=none:=by
 unfold q04r textC dueC noteC q08m
 rw [ho]
 simp
theorem q1ac {j:Job} {s:Stt} {c:Colm} (h:q06c j s c=0):openS j s=true:=by
 unfold q06c at h
 by_cases he:endE j s c=true
 ·rw [if_pos he] at h;cases h
 unfold endE at he
 simp only [decide_eq_true_eq,not_or,Bool.not_eq_false] at he
 exact he.1
theorem q1ad {j:Job} {s:Stt} {c:Colm} (h:q06c j s c=0) (ho:(q02r j s c).over=true):sameC c ((q04r j s).getD q014)=true:=by
 unfold q06c at h
 split at h
 ·cases h
 split at h
 ·rename_i h1;exact absurd h h1
 split at h
 ·cases h
 ·rename_i h1
  cases q:sameC c ((q04r j s).getD q014) with
  |true=>rfl
  |false=>exact absurd ⟨ho,q⟩ h1
theorem q0lx (k:Int) (m:Nat) (f:Item->Item) (hf: ∀x,(f x).k=x.k/\(f x).n=x.n): ∀(l:List Item) (i n:Nat),refF k m i n (l.map f)=refF k m i n l
 |[],_,_=>rfl
 |x::r,i,n=>by
  simp only [Zo,refF,(hf x).1,(hf x).2,q0lx k m f hf r]
theorem dn_eq {n s:Int} (h0:0<=n) (h1:n<=1073741823) (hs:1<=s):downG n s=s*(n/s):=by
 have a:=Int.emod_nonneg n (show s≠0 by omega)
 have b:=Int.emod_add_mul_ediv n s
 have c:0<=s*(n/s):=Int.mul_nonneg (by omega) (Int.ediv_nonneg h0 (by omega))
 unfold downG downF
 rw [if_neg (by omega)]
 unfold subF
 rw [if_pos (by omega)]
 simp only [orN]
 omega
theorem q0u2 {a b s:Int} (h0:0<=a) (h:a<=b) (h1:b<=1073741823) (hs:1<=s):downG a s<=downG b s:=by
 rw [dn_eq h0 (by omega) hs,dn_eq (by omega) h1 hs]
 exact Int.mul_le_mul_of_nonneg_left (Int.ediv_le_ediv (by omega) h) (by omega)
theorem q0u3 {g:Geom} (h:geomF g=0):1<=g.first/\g.first<=g.high/\0<=g.topMost/\0<=g.botMost/\0<=g.topMany/\0<=g.botMany/\g.topMany<=4/\g.botMany<=4/\0<=g.noteMost:=by
 unfold geomF at h
 by_cases q1:inR 1 8 [g.cols]=false
 ·rw [if_pos q1] at h;omega
 rw [if_neg q1] at h
 by_cases q2:inR 1 1073741823 [g.wide,g.high]=false
 ·rw [if_pos q2] at h;omega
 rw [if_neg q2] at h
 by_cases q3:inR 0 1073741823 [g.gap,g.noteMost,g.topMost,g.botMost]=false
 ·rw [if_pos q3] at h;omega
 rw [if_neg q3] at h
 by_cases q4:inR 0 536870912 [g.rule,g.sep,g.grid]=false
 ·rw [if_pos q4] at h;omega
 rw [if_neg q4] at h
 by_cases q5:inR 1 g.high [g.first]=false
 ·rw [if_pos q5] at h;omega
 rw [if_neg q5] at h
 by_cases q6:inR 0 g.first [g.grid]=false
 ·rw [if_pos q6] at h;omega
 rw [if_neg q6] at h
 by_cases q7:inR 0 4 [g.topMany,g.botMany]=false
 ·rw [if_pos q7] at h;omega
 have a1:=q04b q5 g.first (by simp)
 have a2:=q04b q3 g.topMost (by simp)
 have a3:=q04b q3 g.botMost (by simp)
 have a4:=q04b q7 g.topMany (by simp)
 have a5:=q04b q7 g.botMany (by simp)
 have a6:=q04b q3 g.noteMost (by simp)
 omega
theorem wf_of {j:Job} (r:Right j) (sm:small (snapG j)):wfJ (snapG j):=by
 have hg:=q0bp r.g
 have hm:=q0u3 r.g
 obtain ⟨f,hf,hk⟩:=q0fj j
 have h5:=q07c 5 j.notes.length j.items 0 0 (Zj _) r.r5
 have hgr:(snapG j).g.first<=(snapG j).g.high/\(snapG j).g.high<=4294967296/\0<=(snapG j).g.first/\0<=(snapG j).g.sep/\(snapG j).g.sep<=4294967296/\(snapG j).g.topMany=j.g.topMany/\(snapG j).g.botMany=j.g.botMany/\(snapG j).g.topMost=j.g.topMost/\(snapG j).g.botMost=j.g.botMost:=by
  unfold snapG
  split
  ·refine ⟨by omega,by omega,by omega,by omega,by omega,rfl,rfl,rfl,rfl⟩
  ·have b1:=q0u2 (a:=j.g.first) (b:=j.g.high) (s:=j.g.grid) (by omega) (by omega) (by omega) (by omega)
   have b2:=q09m (n:=j.g.high) (s:=j.g.grid) (by omega) (by omega) (by omega) (by omega)
   have b3:=q09m (n:=j.g.first) (s:=j.g.grid) (by omega) (by omega) (by omega) (by omega)
   have b4:=q09l (n:=j.g.sep) (s:=j.g.grid) (by omega) (by omega) (by omega) (by omega)
   exact ⟨b1,b2.2,b3.1,b4.1,b4.2,rfl,rfl,rfl,rfl⟩
 refine ⟨q0Ex r sm,?_,?_,?_,?_,hgr.2.2.1,⟨hgr.1,hgr.2.1⟩,⟨hgr.2.2.2.1,hgr.2.2.2.2.1⟩,?_,?_⟩
 ·intro n hn
  unfold snapG at hn
  split at hn
  ·exact (q0pu (r.notes n hn)).1
  ·obtain ⟨m,hm,rfl⟩:=ZJ.1 hn
   have:=(q0pu (r.notes m hm)).1
   simpa [noteG] using this
 ·rw [q0j0,hf]
  unfold q01a
  rw [q0pq 5 f (fun x=>(hk x).1)]
  omega
 ·rw [q0v3,hf,q0lx 6 _ f hk]
  exact r.r6
 ·intro x hx
  have ht:=r.tall x hx
  unfold snapG at hx
  split at hx
  ·rename_i hgr
   have ho:=r.floats x hx
   unfold q01l at ho
   simp only [Zb,decide_eq_true_eq] at ho
   exact ⟨by omega,by omega,by omega⟩
  ·obtain ⟨y,hy,rfl⟩:=ZJ.1 hx
   have ho:=r.floats y hy
   unfold q01l at ho
   simp only [Zb,decide_eq_true_eq] at ho
   have b:=q09l (n:=y.h) (s:=j.g.grid) (by omega) (by omega) (by omega) (by omega)
   exact ⟨⟨by simp only [q01h];omega,by simp only [q01h];omega⟩,by simp only [q01h];omega,by omega⟩
 ·rw [hgr.2.2.2.2.2.1,hgr.2.2.2.2.2.2.1,hgr.2.2.2.2.2.2.2.1,hgr.2.2.2.2.2.2.2.2]
  omega
 ·rw [q0j1];omega
def sumH:List Int->Int
 |[]=>0
 |x::r=>heldN x+sumH r
theorem q14c {n:Int} (h0:0<=n) (h1:n<=1125899906842624):heldN n=n:=by unfold heldN;omega
theorem q152: ∀l:List Int,0<=sumH l
 |[]=>ZS _
 |x::r=>by have:=q152 r;have:=q0Tq x;simp only [sumH];omega
theorem q153: ∀(l:List Int) (st:Int×Int) (i:Nat),0<=st.2->st.2<=1125899906842624->(fold coS st i l).2=min (st.2+sumH l) 1125899906842624
 |[],st,i,h0,h1=>by simp only [fold,sumH];omega
 |x::r,st,i,h0,h1=>by
  have b:=q0Tq x
  have e:(coS st i x).2=min (st.2+heldN x) 1125899906842624:=by
   unfold coS addM;simp only;rw [q14c h0 h1];unfold heldN at*;omega
  have g:=q152 r
  simp only [fold]
  rw [q153 r _ _ (by omega) (by omega),e]
  simp only [sumH]
  omega
theorem q14i (o:Bool) (l:List Int):(q0Tp o l).2=min (sumH l) 1125899906842624:=by
 unfold q0Tp
 rw [q153 _ _ _ (by split<;>simp) (by split<;>simp)]
 split<;>simp
def q148 (c:Colm):List PV:=[.int .i64 c.k,.int .i64 c.frm,.int .i64 c.to,.sl (c.notes.map q00g),.sl (c.top.map encI),.sl (c.bot.map encI)]
@[simp] theorem q16e (c:Colm):(q148 c).length=6:=rfl
abbrev vCos (l:List Colm):V:= .p (.sl (l.map q148))
end Go.EnvOf
namespace Go.EnvOf
open Go Go.Eng
set_option maxRecDepth 100000
def repP (p:List Piece) (v:V) (H:Heap) (B:List Nat):Prop:=
 (v=q00v p/\B=[])\/ ∃id,v= .row id p.length 0 p.length/\Eng.rowAt H id=some (3,upV (p.map q00g))/\B=[id]
theorem q0Cx (l:List Note) (s:Spot) (hl:l.length<=1000000) (hn:s.note<=1000000) (H:Heap):clD EE (.p (.fn 367)) [vSpot s,q00b l] H=some (vI (openN l s),none):=by
 rw [q002 _ _ _ _ _ _ (noP _) fn367]
 unfold openN
 by_cases c1:s.note<0
 ·simp [zEc,c1]
 ·by_cases c2:s.line<0
  ·simp [zEc,c1,c2]
  ·have w:IntKind.i64.wrap (max (min s.begun l.length) 0-s.note)=max (min s.begun l.length) 0-s.note:=w64 (by omega) (by omega)
   have e:(((max (max (min s.begun (l.length:Int)) 0-s.note) 0).toNat:Nat):Int)=max (max (min s.begun (l.length:Int)) 0-s.note) 0:=by omega
   simp [zEc,c1,c2,w]
abbrev cSpot (s:Spot):List V:=[vI s.note,vI s.line,vI s.begun,vB s.fresh]
def allV (p:Nat):V:= .fn (.func 366) [] [.ptr (p+1) 0,.ptr p 0]
@[simp] theorem q0Nw (p:Nat):V.notL (allV p)=true:=_root_.id rfl
@[simp] theorem q0Jf (p k:Nat):q00s (allV p) k=true:=_root_.id rfl
@[simp] theorem q0Nx (p:Nat):V.outB (allV p)=true:=_root_.id rfl
@[simp] theorem q0Ny (p:Nat):outL (allV p)=allV p:=_root_.id rfl
@[simp] theorem q0Jg (p:Nat):normA (allV p)=allV p:=_root_.id rfl
theorem q0dc (l:List Note) (s:Spot) (H:Heap):clD EE (.p (.fn 274)) [q00b l,vSpot s] H=some (allV H.length,some (H++[.box [q00b l],.box (cSpot s)],[])):=by
 rw [q002 _ _ _ _ _ _ (noP _) fn274]
 simp [zEc,allV]
def q03y (s:Spot) (acc:List Piece) (i:Nat) (x:Note):List Piece:=acc++[⟨s.note+i,if i=0 then s.line else 0,x.lines.length⟩]
theorem q0dd (l:List Note) (s:Spot): ∀(k i:Nat) (acc:List Piece),i≠0->0<=s.note->s.note+i+k<=l.length->fold (q03y s) acc i ((l.drop (s.note+i).toNat).take k)=acc++q01j l k (s.note+i) 0
 |0,i,acc,_,_,_=>by simp [fold,q01j]
 |k+1,i,acc,hi,h0,h=>by
  have hlt:(s.note+i).toNat<l.length:=by omega
  have hx:=q026 l (s.note+i) (by omega) (by omega)
  have hd:l.drop (s.note+i).toNat=rd l (s.note+i)::l.drop (s.note+i+1).toNat:=by
   rw [ZA hlt]
   have e:l[(s.note+i).toNat]=rd l (s.note+i):=by
    rw [Zl hlt] at hx;simpa using hx
   rw [e,show (s.note+i).toNat+1=(s.note+i+1).toNat by omega]
  have ih:=q0dd l s k (i+1) (q03y s acc i (rd l (s.note+i))) (by omega) h0 (by push_cast;omega)
  rw [hd,ZZ,fold]
  rw [show (s.note+i+1).toNat=(s.note+(i+1:Nat)).toNat by push_cast;rw [Int.add_assoc],ih]
  unfold q03y
  rw [if_neg hi,q01j,Zx,List.singleton_append]
  rw [show s.note+((i+1:Nat):Int)=s.note+i+1 by push_cast;omega]
theorem q0ft (l:List Note) (s:Spot) (k:Nat) (h0:0<=s.note) (h:s.note+k<=l.length):fold (q03y s) [] 0 ((l.drop s.note.toNat).take k)=q01j l k s.note s.line:=by
 cases k with
 |zero=>simp [fold,q01j]
 |succ k=>
  have hlt:s.note.toNat<l.length:=by omega
  have hx:=q026 l s.note (by omega) (by omega)
  have hd:l.drop s.note.toNat=rd l s.note::l.drop (s.note+(1:Nat)).toNat:=by
   rw [ZA hlt]
   have e:l[s.note.toNat]=rd l s.note:=by
    rw [Zl hlt] at hx;simpa using hx
   rw [e,show s.note.toNat+1=(s.note+(1:Nat)).toNat by omega]
  rw [hd,ZZ,fold,q0dd l s k 1 _ (by omega) h0 (by push_cast at*;omega)]
  unfold q03y
  rw [if_pos rfl,q01j]
  simp
def alE (q p n:Nat) (s:Spot) (seg:List Note) (G:Heap) (B:Nat) (d:List Nat) (acc:List Piece) (i:Nat):St:=
 ⟨[(0,.yld q),(1,.ptr (p+1) 0),(2,.ptr p 0),(4,vI n),(5,.row G.length acc.length 0 acc.length),(6,vI (if i=0 then s.line else 0)),(42,q00b seg),(43,vI seg.length),(44,vI i)],[],G++[.row 3 (upV (acc.map q00g))],B,d⟩
def alX (q p n:Nat) (s:Spot) (seg:List Note) (G:Heap) (B:Nat) (d:List Nat) (acc:List Piece):Ex×St:=
 (.exit 0,⟨[(0,.yld q),(1,.ptr (p+1) 0),(2,.ptr p 0),(4,vI n),(5,.row G.length acc.length 0 acc.length),(6,vI (if seg.length=0 then s.line else 0)),(42,q00b seg),(43,vI seg.length),(44,vI seg.length),(45,vB false)],[],G++[.row 3 (upV (acc.map q00g))],B,d⟩)
theorem q0Ey (q p n:Nat) (s:Spot) (hs:0<=s.note/\s.note<=1000000) (seg:List Note) (hl:seg.length<=1000000) (hn: ∀x∈seg,x.lines.length<=1000000) (G:Heap) (B:Nat) (hB:B<=G.length) (d:List Nat) (b2:Eng.boxAt G (p+1)=some (cSpot s)):
  evD EE q0c6 (alE q p n s seg G B d [] 0)=some (alX q p n s seg G B d (fold (q03y s) [] 0 seg)):=by
 unfold q0c6
 refine Eq.trans (q00u seg (fun acc i=>alE q p n s seg G B d acc i) (fun acc i=>acc.length=i) (q03y s) (fun acc=>alX q p n s seg G B d acc) (fun _ _=>rfl) ?_ ?_ [] 0 rfl (Zj _)) (by rw [ZG])
 ·rintro acc i x hi hx
  refine ⟨?_,by simp [q03y,hi]⟩
  have hlt:=(Za.1 hx).1
  have w:IntKind.i64.wrap ((i:Int)+1)=((i+1:Nat):Int):=w64 (by omega) (by omega)
  have w2:IntKind.i64.wrap (s.note+(i:Int))=s.note+i:=w64 (by omega) (by omega)
  have hix:=fun H k=>q00c H q00e (k:=k) (s:=2) hx rfl
  simp only [q00e] at hix
  have hb:=fun T=>(q077 T (q02y b2)).trans b2
  have hm:acc.length+1<most:=by unfold most;omega
  have hd:addD B G.length d=d:=by unfold addD;rw [if_neg (by omega)]
  simp [alE,hlt,hix,hb,subs,q001,w,w2,hm,hd,hB,q03y,q00g]
 ·rintro acc hi
  simp [alE,alX]
def bE (q id k:Nat) (frm last:Int) (T:List Int) (B:Nat) (H:Heap) (d:List Nat) (i:Nat):St:=
 ⟨[(0,.yld q),(5,.row id k 0 k),(6,vI frm),(9,vI last),(72,sli T),(73,vI T.length),(74,vI i)],[],H,B,d⟩
structure Came (R:Nat->List Nat->Heap->Prop) (A:List Nat) (H0:Heap) (q c:Nat) (A':List Nat) (H':Heap) (d:List Nat):Prop where
 r:R c A' H'
 keep:Keep A H0 H'
 sub: ∀k∈A',k∈A\/H0.length<=k
 dirty: ∀k∈d,k∈A\/H0.length<=k
 q:q∈d\/(c=0/\A'=A)
def bR (R:Nat->List Nat->Heap->Prop) (A:List Nat) (H0:Heap) (q id c0:Nat) (w:List Piece) (frm last:Int) (T:List Int) (i:Nat) (S:St):Prop:=
 ∃A' H' d,S=bE q id w.length frm last T H0.length H' d i/\Came R A H0 q (c0+i) A' H' d/\Eng.rowAt H' id=some (3,upV (w.map q00g))/\id∉A'
def bF (R:Nat->List Nat->Heap->Prop) (F:List Nat->Heap->Prop) (A:List Nat) (H0:Heap) (q c:Nat) (r:Ex×St):Prop:=
 ∃A' H' d env,(r=(.exit 2,⟨env,[],H',H0.length,d⟩)/\Came R A H0 q c A' H' d)\/(r=(.ret,⟨env,[],H',H0.length,d⟩)/\F A' H'/\Keep A H0 H'/\(∀k∈A',k∈A\/H0.length<=k)/\(∀k∈d,k∈A\/H0.length<=k)/\q∈d)
theorem q0nb {P:Nat->Prop} {B:Nat} {ds d:List Nat} (h1: ∀k∈ds,P k) (h2: ∀k∈d,P k): ∀k∈ds.foldr (addD B) d,P k:=fun k hk=>by
 rcases q06d hk with h|h
 ·exact h1 k h
 ·exact h2 k h
theorem b_lp (L:List (List Piece)) (R:Nat->List Nat->Heap->Prop) (F:List Nat->Heap->Prop) (q:Nat) (he:Eats repP q L R F) (A:List Nat) (H0:Heap) (hq:q<H0.length) (id c0:Nat) (w:List Piece) (hw:w.length<=1000000) (frm last:Int) (T:List Int) (hT:T.length<=10000000)
  (hL: ∀i t,T[i]? =some t->L[c0+i]? =some (w++[⟨last,frm,t⟩])) (S:St) (hS:bR R A H0 q id c0 w frm last T 0 S):
  ∃r,evD EE q18a S=some r/\bF R F A H0 q (c0+T.length) r:=by
 unfold q18a
 refine q0vo T (bR R A H0 q id c0 w frm last T) (bF R F A H0 q (c0+T.length)) (by rintro i S ⟨A',H',d,rfl,-⟩;rfl) ?_ ?_ _ 0 S rfl hS (Zj _)
 ·rintro i x S ⟨A',H',d,rfl,hC,hr,hid⟩ hx
  have hlt:=(Za.1 hx).1
  have w1:IntKind.i64.wrap ((i:Int)+1)=((i+1:Nat):Int):=w64 (by omega) (by omega)
  have hix:=fun H k=>q00c H encI (k:=k) (s:=1) hx rfl
  simp only [encI] at hix
  have hbel:=he.bel _ _ _ hC.r
  have hidl:=q09d hr
  have hH0:=hC.keep.1
  have hr2:Eng.rowAt (H'++[.row 3 (upV ((w++[(⟨last,frm,x⟩:Piece)]).map q00g))]) H'.length=some (3,upV ((w++[(⟨last,frm,x⟩:Piece)]).map q00g)):=by simp [Eng.rowAt]
  obtain ⟨b,H3,ds,A3,hc,hqd,k3,d3,s3,ht,hf⟩:=he.step (c0+i) A' _ _ (.row H'.length (w++[(⟨last,frm,x⟩:Piece)]).length 0 (w++[(⟨last,frm,x⟩:Piece)]).length) [H'.length] (hL i x hx)
   (he.stay _ _ _ _ hC.r (Stay.app _ _ [.row 3 (upV ((w++[(⟨last,frm,x⟩:Piece)]).map q00g))] hbel)) (.inr ⟨_,rfl,hr2,rfl⟩) (fun k hk=>by
    simp at hk;subst hk
    exact ⟨fun h=>by have:=hbel _ h;omega,by omega⟩)
  have kk:Keep A H0 H3:=(hC.keep.trans (Keep.app A' H' _) (fun k hk=>hC.sub k hk)).trans k3 hC.sub
  have dd: ∀k∈ds.foldr (addD H0.length) d,k∈A\/H0.length<=k:=q0nb (fun k hk=>by
   rcases d3 k hk with h|h
   ·exact hC.sub k h
   ·simp at h;omega) hC.dirty
  have ss: ∀k∈A3,k∈A\/H0.length<=k:=fun k hk=>by
   rcases s3 k hk with h|h|h
   ·exact hC.sub k h
   ·simp at h;omega
   ·simp at h;omega
  have qq:q∈ds.foldr (addD H0.length) d:=q09u hqd hq
  have hd:addD H0.length H'.length d=d:=by unfold addD;rw [if_neg (by omega)]
  have hm:w.length+1<most:=by unfold most;omega
  have h1:1<most:=by decide
  have row3:Eng.rowAt H3 id=some (3,upV (w.map q00g)):=by
   refine Keep.row k3 ?_ hid
   rw [q03h _ hidl];exact hr
  have id3:id∉A3:=fun h=>by
   rcases s3 id h with h|h|h
   ·exact hid h
   ·simp at h;omega
   ·simp at h;omega
  have hcl:=fun H=>q0f0 EE 369 3 [vI 0,vI 0,vI 0] H (.row id 0 0 0) (noP _) fn369 rfl
  have hcr: ∀y ys,w=y::ys->clD EE (.p (.fn 369)) [.row id (ys.length+1) 0 (ys.length+1)] H'=some (.row H'.length (ys.length+1) 0 (ys.length+1),some (H'++[.row 3 (upV ((y::ys).map q00g))],[])):=by
   rintro y ys rfl
   have:=q0vp EE 369 3 [vI 0,vI 0,vI 0] H' id _ (noP _) fn369 hr (by simp [upV]) (q0lk q00g 3 (fun _=>rfl) _) (by simp [upV];simp at hm;omega)
   simpa [upV] using this
  cases b with
  |true=>
   refine .inl ⟨bE q id w.length frm last T H0.length H3 (ds.foldr (addD H0.length) d) (i+1),?_,A3,H3,_,rfl,⟨ht rfl,kk,ss,dd,.inl qq⟩,row3,id3⟩
   cases w with
   |nil=>
    simp [q00g] at hc
    simp [bE,hlt,hix,subs,q001,hcl,h1,hc,w1]
   |cons y ys=>
    have hcr:=hcr y ys rfl
    simp [q00g,q04x] at hc hcr hm
    simp [bE,hlt,hix,subs,q001,hcr,hm,hd,hH0,hc,w1,q04x,okEl,show¬H'.length<H0.length by omega]
  |false=>
   refine .inr ⟨(.ret,⟨[(0,.yld q),(5,.row id w.length 0 w.length),(6,vI frm),(9,vI last),(72,sli T),(73,vI T.length),(74,vI i),(89,vB true)],[],H3,H0.length,ds.foldr (addD H0.length) d⟩),?_,by simp,A3,H3,_,_,.inr ⟨rfl,hf rfl,kk,ss,dd,qq⟩⟩
   cases w with
   |nil=>
    simp [q00g] at hc
    simp [bE,hlt,hix,subs,q001,hcl,h1,hc,w1]
   |cons y ys=>
    have hcr:=hcr y ys rfl
    simp [q00g,q04x] at hc hcr hm
    simp [bE,hlt,hix,subs,q001,hcr,hm,hd,hH0,hc,w1,q04x,okEl,show¬H'.length<H0.length by omega]
 ·rintro S ⟨A',H',d,rfl,hC,hr,hid⟩
  refine ⟨(.exit 2,⟨[(0,.yld q),(5,.row id w.length 0 w.length),(6,vI frm),(9,vI last),(72,sli T),(73,vI T.length),(74,vI T.length),(75,vB false)],[],H',H0.length,d⟩),?_,by simp,A',H',d,_,.inl ⟨rfl,hC⟩⟩
  simp [bE]
theorem q0Ez (l:List Note) (a:Int) (n:Nat) (H:Heap) (h0:0<=a) (h:a+n<=l.length) (hn:1<=n):
  slcI H 2 (q00b l) (some (vI a)) (some (vI (a+n-1)))=some (q00b ((l.drop a.toNat).take (n-1))):=by
 have e:(a+n-1-a).toNat=n-1:=by omega
 have hh:q066 2 (l.map q00e)=true:=by cases l<;>rfl
 have g:a<=a+n-1:=by omega
 have g2:a+n-1<=(l.length:Int):=by omega
 simp [slcI,slcV,e,hh,h0,g,g2,List.map_take,List.map_drop]
theorem q0zf {R:Nat->List Nat->Heap->Prop} {F:List Nat->Heap->Prop} {L:List (List Piece)} {q:Nat} (he:Eats repP q L R F) {A A1:List Nat} {H H1:Heap} {c:Nat} {d:List Nat} (h:Came R A H q c A1 H1 d) (o:DObj):Came R A H q c A1 (H1++[o]) d:=
 ⟨he.stay _ _ _ _ h.r (Stay.app _ _ _ (he.bel _ _ _ h.r)),h.keep.trans (Keep.app A1 H1 [o]) h.sub,h.sub,h.dirty,h.q⟩
theorem q0a5 (l:List Note) (s:Spot) (hl:l.length<=1000000) (hx: ∀n∈l,n.lines.length<=1000000) (hb:s.begun<=l.length) (hn:0<=s.note) (hn2:s.note<=1000000) (hli:0<=s.line) (p q:Nat)
  {R:Nat->List Nat->Heap->Prop} {F:List Nat->Heap->Prop} {A:List Nat} {H:Heap} (he:Eats repP q (q00j l s) R F) (h0:R 0 A H) (hq:q<H.length)
  (b1:Eng.boxAt H p=some [q00b l]) (b2:Eng.boxAt H (p+1)=some (cSpot s)) (a1:p∉A) (a2:p+1∉A):
  ∃r,clD EE (allV p) [.yld q] H=some (.tup [],r)/\Gave (q00j l s) R F A H r:=by
 have op:=fun H=>q0Cx l s hl hn2 H
 have e:=q08w hb hn hli
 have hch:q00j l s=(if openN l s=0\/s.fresh=false then [[]] else [])++if openN l s=0 then [] else (q01k (rd l (lastP s (openN l s))) (fromP s (openN l s))).map (oneP l s (openN l s)):=rfl
 have first:(openN l s=0\/s.fresh=false)-> ∃b H' ds A',clD EE (.yld q) [.p (.sl [])] H=some (vB b,some (H',ds))/\q∈ds/\Keep A H H'/\(∀k∈ds,k∈A\/H.length<=k)/\(∀k∈A',k∈A\/H.length<=k)/\(b=true->R 1 A' H')/\(b=false->F A' H'):=by
  intro c
  have hL:(q00j l s)[0]? =some []:=by rw [hch,if_pos c];rfl
  obtain ⟨b,H',ds,A',g1,g2,g3,g4,g5,g6,g7⟩:=he.step 0 A H [] (q00v []) [] hL h0 (.inl ⟨rfl,rfl⟩) (by simp)
  exact ⟨b,H',ds,A',g1,g2,g3,g4,fun k hk=>by have:=g5 k hk;simpa using this,g6,g7⟩
 rw [allV,q02m,q002 _ _ _ _ _ _ (noP _) fn366]
 generalize hN:openN l s=n at*
 have ne_of: ∀ {ds:List Nat},q∈ds-> ¬ds.foldr (addD H.length) []=[]:=fun hd h0=>by
  have:=q09u (B:=H.length) (d:=[]) hd hq
  rw [h0] at this;cases this
 by_cases c0:n=0
 ·subst c0
  obtain ⟨b,H',ds,A',g1,g2,g3,g4,g5,g6,g7⟩:=first (.inl rfl)
  have hlen:(q00j l s).length=1:=by rw [hch];simp
  refine ⟨some (H',ds.foldr (addD H.length) []),?_,A',g3,fun k hk=> ?_,g5,?_⟩
  ·cases b<;>simp [zEc,b1,b2,op,g1,ne_of g2]
  ·rcases q06d hk with h|h
   ·exact g4 k h
   ·cases h
  ·rw [hlen]
   cases b with
   |true=>exact .inl (g6 rfl)
   |false=>exact .inr (g7 rfl)
 ·have hlt:s.note<s.begun:=by omega
  have hnn:(n:Int)=s.begun-s.note:=by omega
  have hlast:=q0pv hlt
  rw [<-e] at hlast
  have hlastN:s.note+n-1=s.begun-1:=by omega
  obtain ⟨seg,hseg⟩: ∃seg,seg=(l.drop s.note.toNat).take (n-1):=⟨_,rfl⟩
  have hsl:seg.length=n-1:=by rw [hseg,ZC,List.length_drop];omega
  have slc:=fun H=>q0Ez l s.note n H hn (by omega) (by omega)
  rw [<-hseg] at slc
  have hwf:=q0ft l s (n-1) hn (by omega)
  rw [<-hseg] at hwf
  have hfr:(if seg.length=0 then s.line else 0)=fromP s n:=by
   unfold fromP
   by_cases z:n=1
   ·rw [if_pos z,if_pos (by omega)]
   ·rw [if_neg z,if_neg (by omega)]
  have hfr2:(if seg=[] then s.line else 0)=fromP s n:=by
   rw [<-hfr]
   by_cases z:seg=[]
   ·rw [if_pos z,z];rfl
   ·rw [if_neg z,if_neg (fun h=>z (List.eq_nil_of_length_eq_zero h))]
  have hrl:=q026 l (s.note+n-1) (by omega) (by omega)
  have hix:=fun H k=>q024 H q00e (k:=k) (s:=2) (show 0<=s.note+n-1 by omega) hrl rfl
  simp only [q00e] at hix
  have hrm:rd l (s.note+n-1)∈l:=q05a (by omega) (by omega)
  have hst: ∀f H,clD EE (.p (.fn 368)) [vNote (rd l (s.note+n-1)),vI f] H=some (sli (q01k (rd l (s.note+n-1)) f),none):=fun f H=>by
   have:=q0ye (rd l (s.note+n-1)).lines (rd l (s.note+n-1)).pens f H (hx _ hrm)
   rw [q0r6] at this
   exact this
  have hTl:(q01k (rd l (s.note+n-1)) (fromP s n)).length<=10000000:=by
   have h1:=q0cd (q02f (rd l (s.note+n-1)).lines (rd l (s.note+n-1)).pens (fromP s n)) ((rd l (s.note+n-1)).lines.length+1) 0
   have:=hx _ hrm
   unfold q01k;omega
  have hch2:q00j l s=(if s.fresh=false then [[]] else [])++(q01k (rd l (s.note+n-1)) (fromP s n)).map (oneP l s n):=by
   rw [hch,if_neg c0]
   congr 1
   by_cases z:s.fresh=false
   ·rw [if_pos (.inr z),if_pos z]
   ·rw [if_neg (fun h=>h.elim c0 z),if_neg z]
  have hsegl:seg.length<=1000000:=by rw [hsl];omega
  have hsegx: ∀x∈seg,x.lines.length<=1000000:=fun x h=>hx x (by rw [hseg] at h;exact List.mem_of_mem_drop (Z6 h))
  have hwl:(q01j l (n-1) s.note s.line).length<=1000000:=by
   have: ∀(k:Nat) (a b:Int),(q01j l k a b).length=k:=by
    intro k
    induction k with
    |zero=>intro a b;rfl
    |succ k ih=>intro a b;simp [q01j,ih]
   rw [this];omega
  have rest: ∀(c:Nat) (A1:List Nat) (H1:Heap) (d:List Nat),Came R A H q c A1 H1 d->(q00j l s).length=c+(q01k (rd l (s.note+n-1)) (fromP s n)).length->
    (∀i t,(q01k (rd l (s.note+n-1)) (fromP s n))[i]? =some t->(q00j l s)[c+i]? =some (oneP l s n t))->
    evD EE q0c6 (alE q p n s seg H1 H.length d [] 0)=some (alX q p n s seg H1 H.length d (q01j l (n-1) s.note s.line))/\
    ∃r,evD EE q18a (bE q H1.length (q01j l (n-1) s.note s.line).length (fromP s n) (s.note+n-1) (q01k (rd l (s.note+n-1)) (fromP s n)) H.length (H1++[.row 3 (upV ((q01j l (n-1) s.note s.line).map q00g))]) d 0)=some r/\bF R F A H q (q00j l s).length r/\
     (∀T,Eng.boxAt (H1++T) p=some [q00b l])/\ ∀T,Eng.boxAt (H1++T) (p+1)=some (cSpot s):=by
   intro c A1 H1 d hC hlen hL
   have hb1:=hC.keep.box b1 a1
   have hb2:=hC.keep.box b2 a2
   refine ⟨?_,?_⟩
   ·have:=q0Ey q p n s ⟨hn,hn2⟩ seg hsegl hsegx H1 H.length hC.keep.1 d hb2
    rw [hwf] at this
    exact this
   ·have hC2:=q0zf he hC (.row 3 (upV ((q01j l (n-1) s.note s.line).map q00g)))
    obtain ⟨r,h1,h2⟩:=b_lp (q00j l s) R F q he A H hq H1.length c (q01j l (n-1) s.note s.line) hwl (fromP s n) (s.note+n-1) (q01k (rd l (s.note+n-1)) (fromP s n)) hTl
     (fun i t ht=>hL i t ht) _ ⟨A1,_,d,rfl,hC2,by simp [Eng.rowAt],fun h=>by have:=he.bel _ _ _ hC.r _ h;omega⟩
    rw [<-hlen] at h2
    exact ⟨r,h1,h2,fun T=>(q077 T (q02y hb1)).trans hb1,fun T=>(q077 T (q02y hb2)).trans hb2⟩
  have w1:IntKind.i64.wrap (s.note+n)=s.note+n:=w64 (by omega) (by omega)
  have w2:IntKind.i64.wrap (s.note+n-1)=s.note+n-1:=w64 (by omega) (by omega)
  have fin: ∀r,bF R F A H q (q00j l s).length r-> ∃(A':List Nat) (H':Heap) (d:List Nat) (env:List (Nat×V)),(r=(.exit 2,⟨env,[],H',H.length,d⟩)\/r=(.ret,⟨env,[],H',H.length,d⟩))/\Gave (q00j l s) R F A H (if d=[] then none else some (H',d)):=by
   rintro r ⟨A',H',d,env,⟨rfl,hC⟩|⟨rfl,h1,h2,h3,h4,h5⟩⟩
   ·refine ⟨A',H',d,env,.inl rfl,?_⟩
    by_cases z:d=[]
    ·rw [if_pos z]
     rcases hC.q with h|⟨h,-⟩
     ·rw [z] at h;cases h
     ·exact ⟨A,Keep.refl _ _,(fun k hk=>nomatch hk),fun k hk=> .inl hk,.inl (by rw [h];exact h0)⟩
    ·rw [if_neg z]
     exact ⟨A',hC.keep,hC.dirty,hC.sub,.inl hC.r⟩
   ·refine ⟨A',H',d,env,.inr rfl,?_⟩
    have z:d≠[]:=fun z=>by rw [z] at h5;cases h5
    rw [if_neg z]
    exact ⟨A',h2,h4,h3,.inr h1⟩
  have hcn: ¬(n:Int)=0:=by omega
  by_cases fr:s.fresh=false
  ·have op: ∀H,clD EE (.p (.fn 367)) [.agg [vI s.note,vI s.line,vI s.begun,vB false],q00b l] H=some (vI n,none):=fun H=>by rw [<-fr];exact op H
   obtain ⟨b,H',ds,A',g1,g2,g3,g4,g5,g6,g7⟩:=first (.inr fr)
   cases b with
   |false=>
    refine ⟨some (H',ds.foldr (addD H.length) []),?_,A',g3,fun k hk=> ?_,g5,.inr (g7 rfl)⟩
    ·simp [zEc,b1,b2,op,g1,ne_of g2,c0,hcn,fr]
    ·rcases q06d hk with h|h
     ·exact g4 k h
     ·cases h
   |true=>
    have hC:Came R A H q 1 A' H' (ds.foldr (addD H.length) []):=⟨g6 rfl,g3,g5,q0nb g4 (fun k hk=>nomatch hk),.inl (q09u g2 hq)⟩
    obtain ⟨k0,r,k1,k2,k3,k4⟩:=rest 1 A' H' _ hC (by rw [hch2,if_pos fr];simp;omega) (fun i t ht=>by rw [hch2,if_pos fr,ZD (by simp)];simp [ht])
    obtain ⟨A2,H2,d2,env,hr,hG⟩:=fin r k2
    refine ⟨_,?_,hG⟩
    rcases hr with rfl|rfl<;>
    ·simp [alE,alX,bE,hfr2] at k0 k1
     simp [zEc,b1,b2,op,g1,c0,hcn,fr,k0,k1,k3,k4,w1,w2,slc,hix,hst]
  ·have op: ∀H,clD EE (.p (.fn 367)) [.agg [vI s.note,vI s.line,vI s.begun,vB true],q00b l] H=some (vI n,none):=fun H=>by rw [<-(show s.fresh=true by simpa using fr)];exact op H
   have hC:Came R A H q 0 A H []:=⟨h0,Keep.refl _ _,fun k hk=> .inl hk,(fun k hk=>nomatch hk),.inr ⟨rfl,rfl⟩⟩
   obtain ⟨k0,r,k1,k2,k3,k4⟩:=rest 0 A H _ hC (by rw [hch2,if_neg fr];simp) (fun i t ht=>by rw [hch2,if_neg fr];simp [ht])
   obtain ⟨A2,H2,d2,env,hr,hG⟩:=fin r k2
   refine ⟨_,?_,hG⟩
   rcases hr with rfl|rfl<;>
   ·simp [alE,alX,bE,hfr2] at k0 k1
    simp [zEc,b1,b2,op,c0,hcn,fr,k0,k1,k3,k4,w1,w2,slc,hix,hst]
structure spotB (l:List Note) (s:Spot):Prop where
 l1:l.length<=1000000
 l2: ∀n∈l,n.lines.length<=1000000
 b:s.begun<=l.length
 n0:0<=s.note
 n1:s.note<=1000000
 li:0<=s.line
def lsEnv (h:Nat):List (Nat×V):=[(4,.ptr h 0),(8,allV (h+1))]
def q06a (st:LSt) (h:Nat):DObj:= .loop st (lsEnv h) [9] q171 q172
def lsR (h:Nat) (i:Nat) (A:List Nat) (H:Heap):Prop:=i=0/\A=[h,h+3]/\h+3<H.length/\H[h+3]? =some (q06a .ready h)/\Eng.boxAt H h=some [.nils]
def lsF (L:List (List Piece)) (h:Nat) (A:List Nat) (H:Heap):Prop:= ∃p v B,L[0]? =some p/\repP p v H B/\(∀k∈B,h<=k)/\H[h+3]? =some (q06a (.done .ret) h)/\Eng.boxAt H h=some [v]/\h+3<H.length
theorem q07p {p:List Piece} {v:V} {H K:Heap} {B:List Nat} (h:repP p v H B) (g:Stay B H K):repP p v K B:=by
 rcases h with h|⟨id,h1,h2,rfl⟩
 ·exact .inl h
 ·exact .inr ⟨id,h1,g.row h2 (by simp),rfl⟩
theorem q0Ba {p:List Piece} {v:V} {H:Heap} {B:List Nat} (h:repP p v H B): ∀k∈B,k<H.length:=by
 rcases h with ⟨-,rfl⟩|⟨id,-,h2,rfl⟩
 ·simp
 ·intro k hk
  simp at hk;subst hk;exact q09d h2
theorem q0lp {p:List Piece} {v:V} {H:Heap} {B:List Nat} (h:repP p v H B):v.oneB=true/\v.cells=[v]/\v.notL=true/\outL v=v/\v.outB=true/\normA v=v:=by
 rcases h with ⟨rfl,-⟩|⟨id,rfl,-,-⟩<;>exact ⟨rfl,rfl,rfl,rfl,rfl,rfl⟩
theorem q0Bb (L:List (List Piece)) (h:Nat):Eats repP (h+3) L (lsR h) (lsF L h):=by
 refine ⟨?_,?_,?_⟩
 ·rintro i A H K ⟨rfl,rfl,h1,h2,h3⟩ g
  exact ⟨rfl,rfl,by have:=g.1;omega,by rw [g.2 _ (by simp)];exact h2,g.box h3 (by simp)⟩
 ·rintro i A H ⟨rfl,rfl,h1,h2,h3⟩ k hk
  have:=q02y h3
  simp at hk;omega
 ·rintro i A H x v B hL ⟨rfl,rfl,h1,h2,h3⟩ hr hB
  obtain ⟨o1,o2,o3,o4,o5,o6⟩:=q0lp hr
  have hh:=q02y h3
  have ne:h+3≠h:=by omega
  have b2: ∀o,Eng.boxAt (H.set (h+3) o) h=some [.nils]:=fun o=>(q01p H (h+3) h o ne).trans h3
  refine ⟨false,((H.set (h+3) (q06a .busy h)).set h (.box [v])).set (h+3) (q06a (.done .ret) h),[h,h+3],[h,h+3]++B,?_,by simp,?_,fun k hk=> .inl hk,fun k hk=> ?_,(fun e=>nomatch e),fun _=> ?_⟩
  ·have hs2: ∀o:DObj,((H.set (h+3) (q06a .busy h)).set h o)[h+3]? =some (q06a .busy h):=fun o=>by
    rw [Zr (by omega)];exact ZX h1
   refine q0e5 h2 rfl (env1:=[(4,.ptr h 0),(5,v)]) (loc1:=[]) ?_ (x:= .ret) (env2:=[(4,.ptr h 0)]) (loc2:=[]) (d2:=[h,h+3]) ?_ (hs2 _)
   ·simp [lsEnv,q171]
   ·simp [q172,o1,o2,b2,q001,hh]
    rfl
  ·exact ((Keep.set _ _ _ _ (.inl (by simp))).trans (Keep.set [h,h+3] _ _ _ (.inl (by simp))) (fun k hk=> .inl hk)).trans (Keep.set [h,h+3] _ _ _ (.inl (by simp))) (fun k hk=> .inl hk)
  ·simp only [ZY] at hk
   exact hk.imp id .inl
  ·refine ⟨x,v,B,hL,?_,fun k hk=> ?_,?_,?_,by simpa using h1⟩
   ·refine q07p hr ⟨by simp,fun k hk=> ?_⟩
    have:=hB k hk
    simp at this
    rw [Zr (by omega),Zr (by omega),Zr (by omega)]
   ·have:=(hB k hk).2;omega
   ·exact ZX (by simpa using h1)
   ·rw [q01p _ _ _ _ (by omega)]
    exact q07o _ _ _ (by simpa using hh)
theorem frz_rep {p:List Piece} {v:V} {H:Heap} {B:List Nat} {b:Nat} (h:repP p v H B) (hb: ∀k∈B,b<=k) (d:Nat):frz b H (d+1) v=some (.sl (p.map q00g)):=by
 rcases h with ⟨rfl,-⟩|⟨id,rfl,h2,rfl⟩
 ·rfl
 ·rw [q056,if_pos (hb id (by simp)),h2,q09c,if_pos (by simp),ZG,Zy (by simp)]
theorem q0a2 (l:List Note) (s:Spot) (o:spotB l s) (H:Heap):clD EE (.p (.fn 264)) [q00b l,vSpot s] H=some (q00v (q05q l s),none):=by
 have al:=fun H=>q0dc l s H
 obtain ⟨H1,hH1⟩: ∃H1,H1=H++[DObj.box [.nils],.box [q00b l],.box (cSpot s)]:=⟨_,rfl⟩
 have hl1:H1.length=H.length+3:=by simp [hH1]
 have e0:lsR H.length 0 [H.length,H.length+3] (H1++[q06a .ready H.length]):=by
  refine ⟨rfl,rfl,by simp [hl1],?_,?_⟩
  ·rw [<-hl1];simp
  ·simp [hH1,Zx]
 obtain ⟨r,h1,A',hk,hd,hs,hR⟩:=q0a5 l s o.l1 o.l2 o.b o.n0 o.n1 o.li (H.length+1) (H.length+3) (q0Bb (q00j l s) H.length) e0 (by simp [hl1]) (by simp [hH1,Zx])
  (by rw [show H.length+1+1=H.length+2 by omega];simp [hH1,Zx]) (by simp) (by simp;omega)
 have hds:(dsOf r).foldr (addD H.length) []=[]:=q0bt fun k hk=>by
  rcases hd k hk with h|h
  ·simp at h;omega
  ·simp [hl1] at h;omega
 rw [q002 _ _ _ _ _ _ (noP _) fn264]
 have hv:(∃f,allV (H.length+1)= .p (.fn f))\/ ∃f u v,allV (H.length+1)= .fn (.func f) u v:= .inr ⟨_,_,_,rfl⟩
 have hloop:q06a .ready H.length= .loop .ready (outE [(4,.ptr H.length 0),(8,allV (H.length+1))]) [9] q171 q172:=rfl
 rw [hloop,<-hl1] at h1
 rw [hloop] at hR
 have fin: ∀ {st e ps' a' b'},(hpOf (H1++[DObj.loop .ready (outE [(4,.ptr H.length 0),(8,allV (H.length+1))]) [9] q171 q172]) r)[H.length+3]? =some (.loop st e ps' a' b')->st≠ .busy->
   evD EE (.rangeFunc (.t 8) [9] q171 q172) ⟨[(4,.ptr H.length 0),(8,allV (H.length+1))],[],H++[DObj.box [.nils],.box [q00b l],.box (cSpot s)],H.length,[]⟩=
    some (exSt st,⟨[(4,.ptr H.length 0),(8,allV (H.length+1))],[],(hpOf (H1++[DObj.loop .ready (outE [(4,.ptr H.length 0),(8,allV (H.length+1))]) [9] q171 q172]) r).set (H.length+3) .dead,H.length,[]⟩):=by
  intro st e ps' a' b' hq hst
  have rg:=q0n9 (env:=[(4,.ptr H.length 0),(8,allV (H.length+1))]) (loc:=[]) (hp:=H1) (base:=H.length) (dirty:=[]) (x:= .t 8) (ps:=[9]) hv rfl h1 (by rw [hl1];exact hq) hst
  rw [hds,hl1] at rg
  rw [<-hH1];exact rg
 generalize hpOf (H1++[DObj.loop .ready (outE [(4,.ptr H.length 0),(8,allV (H.length+1))]) [9] q171 q172]) r=K at hR fin
 rcases hR with ⟨h0,-,hlt,hq,hb⟩|⟨p,v,B,hL,hr,hB,hq,hb,hlt⟩
 ·have rg:=fin hq (by simp)
  have hnil:q05q l s=[]:=by unfold q05q;rw [ZU.1 h0];rfl
  rw [hnil]
  have b2: ∀o,Eng.boxAt (K.set (H.length+3) o) H.length=some [.nils]:=fun o=>(q01p _ _ _ _ (by omega)).trans hb
  have hlt2:=q02y hb
  have b3: ∀o cs,Eng.boxAt ((K.set (H.length+3) o).set H.length (.box cs)) H.length=some cs:=fun o cs=>q07o _ _ _ (by simpa using hlt2)
  simp [zEc,al,rg,exSt,b2,b3,hlt2]
 ·have rg:=fin hq (by simp)
  have hp:q05q l s=p:=by
   unfold q05q
   cases hc:q00j l s with
   |nil=>rw [hc] at hL;cases hL
   |cons x r=>rw [hc] at hL;simpa using hL
  rw [hp]
  have b2: ∀o,Eng.boxAt (K.set (H.length+3) o) H.length=some [v]:=fun o=>(q01p _ _ _ _ (by omega)).trans hb
  rcases hr with ⟨rfl,-⟩|⟨id,rfl,h2,rfl⟩
  ·simp [zEc,al,rg,exSt,b2]
  ·have hid:H.length<=id:=hB id (by simp)
   have ne:id≠H.length+3:=by
    rintro rfl
    unfold Eng.rowAt at h2
    rw [hq] at h2;cases h2
   have hr2: ∀o,Eng.rowAt (K.set (H.length+3) o) id=some (3,upV (p.map q00g)):=fun o=>(q05l _ _ _ _ (Ne.symm ne)).trans h2
   simp [zEc,al,rg,exSt,b2,hr2,hid]
section
variable {α:Type} [DecidableEq α] {E:Env} (f:FuncId) (s:Nat) (sh:List Bool) (enc:α->List PV)
end
theorem q0d0 {l:List Note} {s:Spot} (o:spotB l s): ∀p∈q00j l s,p.length<=1000000:=by
 intro p hp
 have wl: ∀(k:Nat) (a b:Int),(q01j l k a b).length=k:=by
  intro k
  induction k with
  |zero=>intro a b;rfl
  |succ k ih=>intro a b;simp [q01j,ih]
 have hn:openN l s<=1000000:=by
  rw [q08w o.b o.n0 o.li]
  have:=o.b;have:=o.n0;have:=o.l1;omega
 unfold q00j at hp
 rcases ZY.1 hp with h|h
 ·split at h
  ·simp at h;subst h;simp
  ·cases h
 ·split at h
  ·cases h
  ·obtain ⟨t,-,rfl⟩:=ZJ.1 h
   unfold oneP
   rw [Zt,wl]
   simp only [Zg,Zq]
   omega
end Go.EnvOf
