/- The program's functions and the document's, evaluated. -/
import Derived.Test.YtpibjnnbploadaaGreatText3
import Derived.Test.YtpibjnnbploadaaGreatText5
import Derived.Test.YtpibjnnbploadaaGreatText2
import Derived.Test.YtpibjnnbploadaaGreatText4
set_option linter.unusedSimpArgs false
set_option linter.unusedVariables false
namespace Go.EnvOf
open Go Go.Eng
set_option maxRecDepth 100000
def q04j (x:Item):Bool:=decide (x.k=2)||decide (x.k=3)
def stayB (l:List Item) (n:Nat):Bool:=match l[n]? with|some x=> !q04j x|none=>true
def seekP (p:Nat→Bool):Nat→Nat→Int
 |0,_=> -1
 |k+1,n=>if p n=true then n else seekP p k (n+1)
def trimN (l:List Item) (a:Nat):Nat:=a+((l.drop a).takeWhile q04j).length
theorem q0v0 (l:List Item) (a:Nat) (h:a≤l.length):trimN l a≤l.length:=by
 unfold trimN
 have h2:=(List.takeWhile_sublist (l:=l.drop a) q04j).length_le
 simp only [List.length_drop] at h2
 omega
theorem q0v1 (l:List Item) (a:Nat):a≤trimN l a:=Nat.le_add_right _ _
theorem q0c7 {l:List Item} {a:Nat} {x:Item} (hx:l[a]? =some x) (h:q04j x=true):trimN l a=trimN l (a+1):=by
 obtain ⟨hl,rfl⟩:=List.getElem?_eq_some_iff.1 hx
 unfold trimN
 rw [List.drop_eq_getElem_cons hl,List.takeWhile_cons,if_pos h]
 simp only [List.length_cons];omega
theorem q06b {l:List Item} {a:Nat} (h:stayB l a=true):trimN l a=a:=by
 unfold trimN stayB at*
 cases hx:l[a]? with
 |none=>
  have:l.length≤a:=by simpa using hx
  rw [List.drop_eq_nil_of_le this];simp
 |some x=>
  rw [hx] at h
  obtain ⟨hl,rfl⟩:=List.getElem?_eq_some_iff.1 hx
  rw [List.drop_eq_getElem_cons hl,List.takeWhile_cons,if_neg (by simpa using h)]
  simp
theorem q0k9 {l:List Item} {a:Nat} (h:stayB l a=false): ∃x,l[a]? =some x∧q04j x=true:=by
 unfold stayB at h
 cases hx:l[a]? with
 |none=>rw [hx] at h;simp at h
 |some x=>rw [hx] at h;exact ⟨x,rfl,by simpa using h⟩
theorem q0oi {l:List Item} {a:Nat} (h:stayB l a=false):trimN l a=trimN l (a+1):=by
 obtain ⟨x,hx,hl⟩:=q0k9 h
 exact q0c7 hx hl
theorem q0gl (l:List Item): ∀(k a:Nat),a≤l.length→l.length+1-a=k→seekP (stayB l) k a=trimN l a
 |0,a,h,hk=>by omega
 |k+1,a,h,hk=>by
  simp only [seekP]
  cases hs:stayB l a with
  |true=>rw [if_pos rfl,q06b hs]
  |false=>
   obtain ⟨x,hx,hl⟩:=q0k9 hs
   have hlt:=(List.getElem?_eq_some_iff.1 hx).1
   rw [if_neg (by simp),q0gl l k (a+1) (by omega) (by omega),q0c7 hx hl]
theorem q0ri (l:List Item) (n a:Nat) (hn:l.length-a=n):stayB l (trimN l a)=true:=by
 induction n generalizing a with
 |zero=>
  have:stayB l a=true:=by unfold stayB;rw [List.getElem?_eq_none (by omega)]
  rw [q06b this];exact this
 |succ n ih=>
  cases hs:stayB l a with
  |true=>rw [q06b hs];exact hs
  |false=>rw [q0oi hs];exact ih (a+1) (by omega)
theorem q0oj (l:List Item) (a:Nat):trimN l (trimN l a)=trimN l a:=q06b (q0ri l _ a rfl)
def putN (l:List Item) (n:Int):Nat:=(min (max n 0) l.length).toNat
theorem q08b (l:List Item) (n:Int):putN l n≤l.length:=by unfold putN;omega
theorem q0n9 {l:List Item} {n:Nat} (h:n≤l.length):putN l n=n:=by unfold putN;omega
def trimF (l:List Item) (n:Int):Nat:=trimN l (putN l n)
theorem q0ka (l:List Item) (n:Int):trimF l n≤l.length:=q0v0 _ _ (q08b l n)
def q00u (l:List Item):Int:=cnt 5 l
def addAt (fs:List Float) (c:C3) (x:Item):C3:=if x.k=6 then ofS fs c x.n else c
def q00h (fs:List Float) (l:List Item):C3:=l.foldl (addAt fs) ⟨0,0,0⟩
def dueS (fs:List Float) (s:C3×C3) (x:Item):C3×C3:=(addAt fs s.1 x,if x.k=7 then s.1 else s.2)
def dueP (fs:List Float) (l:List Item):C3:=(l.foldl (dueS fs) (⟨0,0,0⟩,⟨0,0,0⟩)).2
theorem q0yl (fs:List Float) (l:List Item): ∀s:C3×C3,(l.foldl (dueS fs) s).1=l.foldl (addAt fs) s.1:=by
 induction l with
 |nil=>intro s;rfl
 |cons x r ih=>intro s;simp only [List.foldl_cons,ih];rfl
theorem q044 {α:Type} {l:List α} {i:Nat} {x:α} (h:l[i]? =some x):l.take (i+1)=l.take i++[x]:=by rw [List.take_add_one,h];rfl
theorem q0lr (l:List Item) (x:Item):q00u (l++[x])=q00u l+if x.k=5 then 1 else 0:=by
 unfold q00u cnt
 by_cases h:x.k=5<;>simp [List.filter_append,h]
theorem q0c8 (fs:List Float) (l:List Item) (x:Item):q00h fs (l++[x])=addAt fs (q00h fs l) x:=by simp [q00h]
theorem q0gm (fs:List Float) (l:List Item) (x:Item):dueP fs (l++[x])=if x.k=7 then q00h fs l else dueP fs l:=by
 simp only [dueP,List.foldl_append,List.foldl_cons,List.foldl_nil,dueS,q0yl];rfl
theorem q0gn (l:List Item):0≤q00u l∧q00u l≤l.length:=by
 unfold q00u cnt
 have:=List.length_filter_le (fun x:Item=>decide (x.k=5)) l
 omega
theorem q0v2 (fs:List Float) (c:C3) (x:Item) (m:Int) (h:0≤c.a∧0≤c.b∧0≤c.c∧c.a≤m∧c.b≤m∧c.c≤m):
  0≤(addAt fs c x).a∧0≤(addAt fs c x).b∧0≤(addAt fs c x).c∧(addAt fs c x).a≤m+1∧(addAt fs c x).b≤m+1∧(addAt fs c x).c≤m+1:=by
 unfold addAt ofS bump
 (repeat' split)<;>(try simp only)<;>omega
theorem q0go (fs:List Float) (l:List Item):0≤(q00h fs l).a∧0≤(q00h fs l).b∧0≤(q00h fs l).c∧(q00h fs l).a≤l.length∧(q00h fs l).b≤l.length∧(q00h fs l).c≤l.length:=by
 have key: ∀(l:List Item) (c:C3) (m:Int),(0≤c.a∧0≤c.b∧0≤c.c∧c.a≤m∧c.b≤m∧c.c≤m)→
   0≤(l.foldl (addAt fs) c).a∧0≤(l.foldl (addAt fs) c).b∧0≤(l.foldl (addAt fs) c).c∧(l.foldl (addAt fs) c).a≤m+l.length∧(l.foldl (addAt fs) c).b≤m+l.length∧(l.foldl (addAt fs) c).c≤m+l.length:=by
  intro l
  induction l with
  |nil=>intro c m h;simpa using h
  |cons x r ih=>
   intro c m h
   have h1:=ih (addAt fs c x) (m+1) (q0v2 fs c x m h)
   simp only [List.foldl_cons,List.length_cons]
   omega
 have:=key l ⟨0,0,0⟩ 0 (by simp)
 simpa [q00h] using this
def preL {α:Type} (f:List Item→α) (l:List Item) (n:Nat):List α:=(List.range n).map fun k=>f (l.take k)
theorem q045 {α:Type} (f:List Item→α) (l:List Item) (n:Nat):(preL f l n).length=n:=by simp [preL]
theorem q0rj {α:Type} (f:List Item→α) (l:List Item) (n:Nat):preL f l (n+1)=preL f l n++[f (l.take n)]:=by simp [preL,List.range_succ]
theorem q046 {α:Type} (f:List Item→α) (l:List Item) (n i:Nat) (h:i<n):(preL f l n)[i]? =some (f (l.take i)):=by simp [preL,h]
def lineN (l:List Note):Int:=(l.map fun n=>(n.lines.length:Int)).sum
theorem q0e6 (l:List Note) (n:Note):lineN (l++[n])=lineN l+n.lines.length:=by simp [lineN]
def q00i (j:Job) (n:Int):Int:=q00u (j.items.take (putN j.items n))
def q00v (j:Job) (n:Int):C3:=q00h j.floats (j.items.take (putN j.items n))
def dueF (j:Job) (n:Int):C3:=dueP j.floats (j.items.take (putN j.items n))
def q04o (j:Job) (s:Stt):Bool:=
 if s.line=0 then decide (s.note=q00i j s.at_) else
 if s.note≠q00i j s.at_-1∨s.note<0∨s.line<1 then false else
 decide (s.line<(rd j.notes s.note).lines.length)&&mayF (rd j.notes s.note).lines (rd j.notes s.note).pens s.line
def zeroC:C3:=⟨0,0,0⟩
def q01c (j:Job) (s:Stt):Bool:=
 if s.at_<0∨(j.items.length:Int)<s.at_∨(trimF j.items s.at_:Int)≠s.at_∨s.col<0∨j.g.cols<s.col then false else
 q04o j s&&inC zeroC s.h&&inC s.h (q00v j s.at_)
def allS (j:Job):C3:=q00h j.floats j.items
def doneS (j:Job) (s:Stt):Bool:=q01c j s&&decide (s.at_=j.items.length)&&decide (s.line=0)&&decide (s.note=j.notes.length)&&decide (s.h=allS j)
def q02f (j:Job) (s:Stt):Bool:=q01c j s&&inC (dueF j s.at_) s.h
def highS (j:Job) (s:Stt):Int:=if q01c j s=true then (if s.col<j.g.cols then j.g.first else j.g.high) else 0
def spotS (j:Job) (s:Stt) (to:Int):Spot:=if q01c j s=true then ⟨s.note,s.line,q00i j to,decide (q00i j s.at_<q00i j to)⟩ else ⟨0,0,0,false⟩
def q02g (j:Job) (s:Stt):Int:=if q01c j s=true then s.at_+lineN (j.notes.take s.note.toNat)+s.line+sumC s.h else 0
structure Tot where
 nat:Int
 s0:Int
 s1:Int
 s2:Int
 s3:Int
 shr:Int
 deriving Inhabited,DecidableEq
def q01p (t:Tot):List PV:=[.int .i64 t.nat,.int .i64 t.s0,.int .i64 t.s1,.int .i64 t.s2,.int .i64 t.s3,.int .i64 t.shr]
@[simp] theorem q0F5 (t:Tot):(q01p t).length=6:=rfl
abbrev vTot (t:Tot):V:= .agg [vI t.nat,vI t.s0,vI t.s1,vI t.s2,vI t.s3,vI t.shr]
def zeroT:Tot:=⟨0,0,0,0,0,0⟩
def addT (a b:Tot):Tot:=⟨a.nat+b.nat,a.s0+b.s0,a.s1+b.s1,a.s2+b.s2,a.s3+b.s3,a.shr+b.shr⟩
def subT (a b:Tot):Tot:=⟨a.nat-b.nat,a.s0-b.s0,a.s1-b.s1,a.s2-b.s2,a.s3-b.s3,a.shr-b.shr⟩
def glueT (h str ord shr:Int):Tot:=⟨h,if ord=0 then str else 0,if ord=1 then str else 0,if ord=2 then str else 0,if ord=3 then str else 0,shr⟩
def totI (x:Item):Tot:=if x.k=1 then ⟨x.h,0,0,0,0,0⟩ else if x.k=2 then glueT x.h x.str x.ord x.shr else zeroT
def totP (l:List Item):Tot:=l.foldl (fun t x=>addT t (totI x)) zeroT
theorem q0rk (l:List Item) (x:Item):totP (l++[x])=addT (totP l) (totI x):=by simp [totP]
def boxI1 (x:Item):Int:=if x.k=1 then x.h else 0
def boxP (l:List Item):Int:=l.foldl (fun t x=>t+boxI1 x) 0
theorem q0rl (l:List Item) (x:Item):boxP (l++[x])=boxP l+boxI1 x:=by simp [boxP]
structure inT (m:Int) (t:Tot):Prop where
 nat:0≤t.nat∧t.nat≤m
 s0:0≤t.s0∧t.s0≤m
 s1:0≤t.s1∧t.s1≤m
 s2:0≤t.s2∧t.s2≤m
 s3:0≤t.s3∧t.s3≤m
 shr:0≤t.shr∧t.shr≤m
theorem q0v3:inT 0 zeroT:=by constructor<;>simp [zeroT]
theorem q0ym {m k:Int} {a b:Tot} (ha:inT m a) (hb:inT k b):inT (m+k) (addT a b):=by
 obtain ⟨⟨a1,a2⟩,⟨a3,a4⟩,⟨a5,a6⟩,⟨a7,a8⟩,⟨a9,b1⟩,⟨b2,b3⟩⟩:=ha
 obtain ⟨⟨c1,c2⟩,⟨c3,c4⟩,⟨c5,c6⟩,⟨c7,c8⟩,⟨c9,d1⟩,⟨d2,d3⟩⟩:=hb
 constructor<;>simp only [addT]<;>omega
structure fairI (x:Item):Prop where
 h:0≤x.h∧x.h≤4294967296
 str:0≤x.str∧x.str≤4294967296
 shr:0≤x.shr∧x.shr≤4294967296
theorem q0fd {x:Item} (f:fairI x):inT 4294967296 (totI x):=by
 have a:=f.h
 have b:=f.str
 have c:=f.shr
 unfold totI
 split
 ·constructor<;>simp only<;>omega
 ·split
  ·unfold glueT;constructor<;>simp only<;>first|omega|(split<;>omega)
  ·constructor<;>simp [zeroT]
theorem q0fe: ∀(l:List Item),(∀x∈l,fairI x)→inT (4294967296*l.length) (totP l):=by
 have key: ∀(l:List Item) (t:Tot) (m:Int),inT m t→(∀x∈l,fairI x)→inT (m+4294967296*l.length) (l.foldl (fun t x=>addT t (totI x)) t):=by
  intro l
  induction l with
  |nil=>intro t m h _;simpa using h
  |cons x r ih=>
   intro t m h hf
   have h1:=ih _ _ (q0ym h (q0fd (hf x List.mem_cons_self))) fun y hy=>hf y (List.mem_cons_of_mem _ hy)
   simp only [List.foldl_cons,List.length_cons]
   have e:m+4294967296*((r.length+1:Nat):Int)=m+4294967296+4294967296*r.length:=by simp only [Int.natCast_add,Int.natCast_one];omega
   rw [e];exact h1
 intro l hf
 have:=key l zeroT 0 q0v3 hf
 simpa [totP] using this
theorem q0v4 {x:Item} (f:fairI x):0≤boxI1 x∧boxI1 x≤4294967296:=by
 have:=f.h
 unfold boxI1;split<;>omega
theorem q0na: ∀(l:List Item),(∀x∈l,fairI x)→0≤boxP l∧boxP l≤4294967296*l.length:=by
 have key: ∀(l:List Item) (t m:Int),0≤t→t≤m→(∀x∈l,fairI x)→0≤l.foldl (fun t x=>t+boxI1 x) t∧l.foldl (fun t x=>t+boxI1 x) t≤m+4294967296*l.length:=by
  intro l
  induction l with
  |nil=>intro t m h h2 _;simp;omega
  |cons x r ih=>
   intro t m h h2 hf
   have hx:=q0v4 (hf x List.mem_cons_self)
   have h1:=ih (t+boxI1 x) (m+4294967296) (by omega) (by omega) fun y hy=>hf y (List.mem_cons_of_mem _ hy)
   simp only [List.foldl_cons,List.length_cons]
   have e:m+4294967296*((r.length+1:Nat):Int)=m+4294967296+4294967296*r.length:=by simp only [Int.natCast_add,Int.natCast_one];omega
   rw [e];exact h1
 intro l hf
 have:=key l 0 0 (by omega) (by omega) hf
 simpa [boxP] using this
theorem q0ok {n s:Int} (h0:0≤n) (h1:n≤1073741823) (h2:s≤1073741823):0≤nearG n s∧nearG n s≤4294967296:=by
 unfold nearG
 split
 ·omega
 ·split
  ·exact q092 h0 h1 (by omega) h2
  ·exact q091 h0 h1 (by omega) h2
theorem q0e7 {x:Item} (h:q01o x=true):fairI x:=by
 simp [q01o,Bool.and_eq_true,lenOK,decide_eq_true_eq] at h
 constructor<;>omega
theorem q0ol {x:Item} {s:Int} (h:q01o x=true) (h1:1≤s) (h2:s≤1073741823):fairI (itemG s x):=by
 have f:=q0e7 h
 simp [q01o,Bool.and_eq_true,lenOK,decide_eq_true_eq] at h
 unfold itemG
 split
 ·exact ⟨q091 (by omega) (by omega) h1 h2,f.str,f.shr⟩
 ·split
  ·exact ⟨q0ok (by omega) (by omega) h2,by simp,by simp⟩
  ·exact f
theorem q0av {g:Geom} (h:geomF g=0):0≤g.grid∧g.grid≤536870912∧1≤g.cols∧g.cols≤8∧1≤g.high∧g.high≤1073741823∧0≤g.rule∧g.rule≤536870912∧0≤g.sep∧g.sep≤536870912:=by
 unfold geomF at h
 by_cases q1:inR 1 8 [g.cols]=false
 ·rw [if_pos q1] at h;omega
 rw [if_neg q1] at h
 by_cases q2:inR 1 1073741823 [g.wide,g.high]=false
 ·rw [if_pos q2] at h;omega
 rw [if_neg q2] at h
 by_cases q3:inR 0 1073741823 [g.gap,g.noteMost,g.topMost,g.botMost]=false
 ·rw [if_pos q3] at h;omega
 rw [if_neg q3] at h
 by_cases q4:inR 0 536870912 [g.rule,g.sep,g.grid]=false
 ·rw [if_pos q4] at h;omega
 have a1:=q043 q1 g.cols (by simp)
 have a2:=q043 q2 g.high (by simp)
 have a3:=q043 q4 g.grid (by simp)
 have a4:=q043 q4 g.rule (by simp)
 have a5:=q043 q4 g.sep (by simp)
 omega
theorem q0gp {j:Job} (r:Right j): ∀x∈(snapG j).items,fairI x:=by
 have hg:=q0av r.g
 unfold snapG
 split
 ·exact fun x hx=>q0e7 (r.items x hx)
 ·intro x hx
  obtain ⟨y,hy,rfl⟩:=List.mem_map.1 hx
  exact q0ol (r.items y hy) (by omega) (by omega)
structure Colm where
 k:Int
 frm:Int
 to:Int
 notes:List Piece
 top:List Int
 bot:List Int
 deriving Inhabited,DecidableEq
abbrev vColm (c:Colm):V:= .agg [vI c.k,vI c.frm,vI c.to,q018 c.notes,sli c.top,sli c.bot]
def zeroS:Stt:=⟨0,0,0,0,⟨0,0,0⟩⟩
def nextS (j:Job) (s:Stt) (c:Colm):Stt:=
 if q01c j s=true then ⟨if c.k=1 then trimF j.items c.to else s.at_,min (s.col+1) j.g.cols,(nextF j.notes (spotS j s c.to) c.notes).1,(nextF j.notes (spotS j s c.to) c.notes).2,addC (addC s.h (ofL j.floats c.top)) (ofL j.floats c.bot)⟩ else zeroS
theorem q0v5 (s:Int) (x:Item):(itemG s x).k=x.k:=by unfold itemG;(repeat' split)<;>rfl
theorem q0yn (s:Int) (x:Item):(itemG s x).n=x.n:=by unfold itemG;(repeat' split)<;>rfl
theorem q0e8 (j:Job): ∃f:Item→Item,(snapG j).items=j.items.map f∧ ∀x,(f x).k=x.k∧(f x).n=x.n:=by
 unfold snapG
 split
 ·exact ⟨fun x=>x,by simp,fun x=>⟨rfl,rfl⟩⟩
 ·exact ⟨itemG j.g.grid,rfl,fun x=>⟨q0v5 _ x,q0yn _ x⟩⟩
theorem q0gq (j:Job):(snapG j).notes.length=j.notes.length:=by unfold snapG;split<;>simp
theorem q0rm (j:Job):(snapG j).floats.length=j.floats.length:=by unfold snapG;split<;>simp
theorem q0rn (j:Job):(snapG j).items.length=j.items.length:=by unfold snapG;split<;>simp
theorem q0gr (j:Job):(snapG j).g.cols=j.g.cols:=by unfold snapG;split<;>rfl
theorem q0v6 {k:Int} {l:List Item} (h: ∀x∈l,x.k≠k):cnt k l=0:=by
 unfold cnt
 rw [List.length_eq_zero_iff,List.filter_eq_nil_iff]
 intro x hx;simpa using h x hx
theorem q0nb (k:Int) (f:Item→Item) (hf: ∀x,(f x).k=x.k) (l:List Item):cnt k (l.map f)=cnt k l:=by
 unfold cnt
 induction l with
 |nil=>rfl
 |cons x r ih=>simp only [List.map_cons,List.filter_cons,hf];split<;>simp [ih]
theorem q0ff {α:Type} (p:α→Bool) (l:List α):l.take (l.takeWhile p).length=l.takeWhile p:=(List.prefix_iff_eq_take.1 (List.takeWhile_prefix p)).symm
theorem q065 {α:Type} {p:α→Bool}: ∀ {l:List α} {x:α},x∈l.takeWhile p→p x=true
 |y::r,x,h=>by
  rw [List.takeWhile_cons] at h
  split at h
  ·rename_i hy
   rcases List.mem_cons.1 h with rfl|h
   ·exact hy
   ·exact q065 h
  ·cases h
def hpOf (H:Heap):Option (Heap×List Nat)→Heap
 |none=>H
 |some x=>x.1
def dsOf:Option (Heap×List Nat)→List Nat
 |none=>[]
 |some x=>x.2
theorem q02s {H:Heap} {q:Nat} {cs:List V} (h:Eng.boxAt H q=some cs):q<H.length:=by
 unfold Eng.boxAt at h
 rcases Nat.lt_or_ge q H.length with g|g
 ·exact g
 ·rw [List.getElem?_eq_none g] at h;cases h
theorem q0v7 {B i x:Nat} {d:List Nat} (h:x∈d):x∈addD B i d:=by
 unfold addD
 split
 ·exact List.mem_cons_of_mem _ h
 ·exact h
theorem q0ro {B x:Nat} {d:List Nat} (h:x<B):x∈addD B x d:=by
 unfold addD
 rw [if_pos h]
 exact List.mem_cons_self
theorem q099 {B x:Nat}: ∀ {ds d:List Nat},x∈ds→x<B→x∈ds.foldr (addD B) d
 |y::ds,d,h,hx=>by
  rcases List.mem_cons.1 h with rfl|h
  ·exact q0ro hx
  ·exact q0v7 (q099 h hx)
theorem q060 {B x:Nat}: ∀ {ds d:List Nat},x∈ds.foldr (addD B) d→x∈ds∨x∈d
 |[],_,h=> .inr h
 |y::ds,d,h=>by
  simp only [List.foldr_cons,addD] at h
  split at h
  ·rcases List.mem_cons.1 h with rfl|h
   ·exact .inl List.mem_cons_self
   ·rcases q060 h with h|h
    ·exact .inl (List.mem_cons_of_mem _ h)
    ·exact .inr h
  ·rcases q060 h with h|h
   ·exact .inl (List.mem_cons_of_mem _ h)
   ·exact .inr h
theorem rd_of {α:Type} [Inhabited α] {l:List α} {i:Nat} {x:α} (h:l[i]? =some x):rd l i=x:=by
 unfold rd
 simp [List.getD,h]
def encC3 (c:C3):List PV:=[.int .i64 c.a,.int .i64 c.b,.int .i64 c.c]
@[simp] theorem q0Jt (c:C3):(encC3 c).length=3:=rfl
def q007 (l:List Item):V:= .eptr [q00g l] 0
def q00o (l:List Item):V:= .eptr [q00g l,.p (.sl ((preL totP l (l.length+1)).map q01p)),sli (preL boxP l (l.length+1))] 0
def vMapW (l:List Item) (fs:List Float):V:= .eptr [q00g l,sli (preL q00u l (l.length+1)),.p (.sl ((preL (q00h fs) l (l.length+1)).map encC3)),.p (.sl ((preL (dueP fs) l (l.length+1)).map encC3))] 0
def q00e (j:Job):V:= .eptr [q007 j.items,q00o j.items,vMapW j.items j.floats] 0
def preN (l:List Note):List Int:=(List.range (l.length+1)).map fun k=>lineN (l.take k)
abbrev cJobW (j:Job):List V:=cGeom j.g++[q00g j.items,q00q j.notes,q00b j.floats]
def vW (j:Job):V:= .eptr (q00e j::(cJobW j++[sli (preN j.notes),vI (allS j).a,vI (allS j).b,vI (allS j).c])) 0
section
variable (l:List Item)
@[simp] theorem q0Ag (k:Nat):q00p (q007 l) k=true:=_root_.id rfl
@[simp] theorem q0F6 (k i:Nat):escV k i (q007 l)=(q007 l):=_root_.id rfl
@[simp] theorem q0Cg:outL (q007 l)=(q007 l):=_root_.id rfl
@[simp] theorem q0Ch:V.notL (q007 l)=true:=_root_.id rfl
@[simp] theorem q0Ci:V.outB (q007 l)=true:=_root_.id rfl
@[simp] theorem q0Cj:V.oneB (q007 l)=true:=_root_.id rfl
@[simp] theorem q0Ah:V.cells (q007 l)=[(q007 l)] :=_root_.id rfl
@[simp] theorem q0Ai:normA (q007 l)=(q007 l):=_root_.id rfl
@[simp] theorem q0Aj:normC (q007 l)=(q007 l):=_root_.id rfl
@[simp] theorem q0Ak:V.isNil .ptr (q007 l)=some false:=_root_.id rfl
@[simp] theorem q0za:V.plainR (q007 l)=true:=_root_.id rfl
@[simp] theorem q0zb:V.plainB (q007 l)=true:=_root_.id rfl
@[simp] theorem q0F7:solN sd (q007 l)=true:=_root_.id rfl
@[simp] theorem q0om (b d:Nat) (H:Heap):q00s b H d (q007 l)=[] :=by cases d<;>rfl
@[simp] theorem q0Ck (S:St):q014 S (q007 l)=[] :=q0om _ _ _ _
@[simp] theorem q0Ju (S:St):Eng.freeze S (q007 l)=some (q007 l):=_root_.id rfl
@[simp] theorem q0F8 (S:St):Eng.freezeR S (q007 l)=some (q007 l):=_root_.id rfl
end
section
variable (l:List Item)
@[simp] theorem q0Al (k:Nat):q00p (q00o l) k=true:=_root_.id rfl
@[simp] theorem q0F9 (k i:Nat):escV k i (q00o l)=(q00o l):=_root_.id rfl
@[simp] theorem q0Cl:outL (q00o l)=(q00o l):=_root_.id rfl
@[simp] theorem q0Cm:V.notL (q00o l)=true:=_root_.id rfl
@[simp] theorem q0Cn:V.outB (q00o l)=true:=_root_.id rfl
@[simp] theorem q0Co:V.oneB (q00o l)=true:=_root_.id rfl
@[simp] theorem q0Am:V.cells (q00o l)=[(q00o l)] :=_root_.id rfl
@[simp] theorem q0An:normA (q00o l)=(q00o l):=_root_.id rfl
@[simp] theorem q0Ao:normC (q00o l)=(q00o l):=_root_.id rfl
@[simp] theorem q0Ap:V.isNil .ptr (q00o l)=some false:=_root_.id rfl
@[simp] theorem q0zc:V.plainR (q00o l)=true:=_root_.id rfl
@[simp] theorem q0zd:V.plainB (q00o l)=true:=_root_.id rfl
@[simp] theorem q0Fa:solN sd (q00o l)=true:=_root_.id rfl
@[simp] theorem q0on (b d:Nat) (H:Heap):q00s b H d (q00o l)=[] :=by cases d<;>rfl
@[simp] theorem q0Cp (S:St):q014 S (q00o l)=[] :=q0on _ _ _ _
@[simp] theorem q0Jv (S:St):Eng.freeze S (q00o l)=some (q00o l):=_root_.id rfl
@[simp] theorem q0Fb (S:St):Eng.freezeR S (q00o l)=some (q00o l):=_root_.id rfl
end
section
variable (l:List Item) (fs:List Float)
@[simp] theorem q0Cq (k:Nat):q00p (vMapW l fs) k=true:=_root_.id rfl
@[simp] theorem q0Jw (k i:Nat):escV k i (vMapW l fs)=(vMapW l fs):=_root_.id rfl
@[simp] theorem q0Fc:outL (vMapW l fs)=(vMapW l fs):=_root_.id rfl
@[simp] theorem q0Fd:V.notL (vMapW l fs)=true:=_root_.id rfl
@[simp] theorem q0Fe:V.outB (vMapW l fs)=true:=_root_.id rfl
@[simp] theorem q0Ff:V.oneB (vMapW l fs)=true:=_root_.id rfl
@[simp] theorem q0Cr:V.cells (vMapW l fs)=[(vMapW l fs)] :=_root_.id rfl
@[simp] theorem q0Cs:normA (vMapW l fs)=(vMapW l fs):=_root_.id rfl
@[simp] theorem q0Ct:normC (vMapW l fs)=(vMapW l fs):=_root_.id rfl
@[simp] theorem q0Cu:V.isNil .ptr (vMapW l fs)=some false:=_root_.id rfl
@[simp] theorem q0Aq:V.plainR (vMapW l fs)=true:=_root_.id rfl
@[simp] theorem q0Ar:V.plainB (vMapW l fs)=true:=_root_.id rfl
@[simp] theorem q0Jx:solN sd (vMapW l fs)=true:=_root_.id rfl
@[simp] theorem q0rp (b d:Nat) (H:Heap):q00s b H d (vMapW l fs)=[] :=by cases d<;>rfl
@[simp] theorem q0Fg (S:St):q014 S (vMapW l fs)=[] :=q0rp _ _ _ _ _
@[simp] theorem q0Ne (S:St):Eng.freeze S (vMapW l fs)=some (vMapW l fs):=_root_.id rfl
@[simp] theorem q0Jy (S:St):Eng.freezeR S (vMapW l fs)=some (vMapW l fs):=_root_.id rfl
end
section
variable (j:Job)
@[simp] theorem q0As (k:Nat):q00p (q00e j) k=true:=_root_.id rfl
@[simp] theorem q0Fh (k i:Nat):escV k i (q00e j)=(q00e j):=_root_.id rfl
@[simp] theorem q0Cv:outL (q00e j)=(q00e j):=_root_.id rfl
@[simp] theorem q0Cw:V.notL (q00e j)=true:=_root_.id rfl
@[simp] theorem q0Cx:V.outB (q00e j)=true:=_root_.id rfl
@[simp] theorem q0Cy:V.oneB (q00e j)=true:=_root_.id rfl
@[simp] theorem q0At:V.cells (q00e j)=[(q00e j)] :=_root_.id rfl
@[simp] theorem q0Au:normA (q00e j)=(q00e j):=_root_.id rfl
@[simp] theorem q0Av:normC (q00e j)=(q00e j):=_root_.id rfl
@[simp] theorem q0Aw:V.isNil .ptr (q00e j)=some false:=_root_.id rfl
@[simp] theorem q0ze:V.plainR (q00e j)=true:=_root_.id rfl
@[simp] theorem q0zf:V.plainB (q00e j)=true:=_root_.id rfl
@[simp] theorem q0Fi:solN sd (q00e j)=true:=_root_.id rfl
@[simp] theorem q0oo (b d:Nat) (H:Heap):q00s b H d (q00e j)=[] :=by cases d<;>rfl
@[simp] theorem q0Cz (S:St):q014 S (q00e j)=[] :=q0oo _ _ _ _
@[simp] theorem q0Jz (S:St):Eng.freeze S (q00e j)=some (q00e j):=_root_.id rfl
@[simp] theorem q0Fj (S:St):Eng.freezeR S (q00e j)=some (q00e j):=_root_.id rfl
end
section
variable (j:Job)
@[simp] theorem q0Nf (k:Nat):q00p (vW j) k=true:=_root_.id rfl
@[simp] theorem q0Pv (k i:Nat):escV k i (vW j)=(vW j):=_root_.id rfl
@[simp] theorem q0P8:outL (vW j)=(vW j):=_root_.id rfl
@[simp] theorem q0P9:V.notL (vW j)=true:=_root_.id rfl
@[simp] theorem q0Pa:V.outB (vW j)=true:=_root_.id rfl
@[simp] theorem q0Pb:V.oneB (vW j)=true:=_root_.id rfl
@[simp] theorem q0Ng:V.cells (vW j)=[(vW j)] :=_root_.id rfl
@[simp] theorem q0Nh:normA (vW j)=(vW j):=_root_.id rfl
@[simp] theorem q0Ni:normC (vW j)=(vW j):=_root_.id rfl
@[simp] theorem q0Nj:V.isNil .ptr (vW j)=some false:=_root_.id rfl
@[simp] theorem q0K0:V.plainR (vW j)=true:=_root_.id rfl
@[simp] theorem q0K1:V.plainB (vW j)=true:=_root_.id rfl
@[simp] theorem q0Pw:solN sd (vW j)=true:=_root_.id rfl
@[simp] theorem q0Ax (b d:Nat) (H:Heap):q00s b H d (vW j)=[] :=by cases d<;>rfl
@[simp] theorem q0Pc (S:St):q014 S (vW j)=[] :=q0Ax _ _ _ _
@[simp] theorem vW_fz (S:St):Eng.freeze S (vW j)=some (vW j):=_root_.id rfl
@[simp] theorem q0Px (S:St):Eng.freezeR S (vW j)=some (vW j):=_root_.id rfl
end
def q033 (l:List Item) (n:Int):Option Item:=if 0≤n∧n<l.length then some (rd l n) else none
theorem q09a (l:List Item) (n:Nat):q033 l n=l[n]? :=by
 unfold q033
 by_cases h:n<l.length
 ·rw [if_pos ⟨by omega,by omega⟩,List.getElem?_eq_getElem h,rd_of (List.getElem?_eq_getElem h)]
 ·rw [if_neg (by omega),List.getElem?_eq_none (by omega)]
theorem q0rq (x:Item) (H:Heap):clD EE (.p (.fn 347)) [vItem x] H=some (vB (q04j x),none):=by
 rw [q002 _ _ _ _ _ _ (noP _) fn347]
 unfold q04j
 by_cases h:x.k=2<;>simp [St.enter,q000,subs,q001,h]
theorem q01r (l:List Item) (H:Heap):clD EE (.p (.fn 82)) [q007 l] H=some (vI l.length,none):=by
 rw [q002 _ _ _ _ _ _ (noP _) fn82]
 simp [q007,St.enter,q000,subs,q001]
theorem q07f (l:List Item) (n:Int) (H:Heap):clD EE (.p (.fn 286)) [q007 l,vI n] H=some (.tup [match q033 l n with|some x=>vItem x|none=> .agg [vI 0,vI 0,vI 0,vI 0,vI 0,vI 0,vI 0],vB (q033 l n).isSome],none):=by
 rw [q002 _ _ _ _ _ _ (noP _) fn286]
 have hl:=fun H=>q01r l H
 unfold q033
 simp only [q007] at hl⊢
 by_cases h1:n<0
 ·simp [St.enter,q000,subs,q001,h1,show¬0≤n by omega]
 ·by_cases h2:(l.length:Int)≤n
  ·simp [St.enter,q000,subs,q001,h1,h2,hl,show¬n<l.length by omega]
  ·have hx:=q03y l n (by omega) (by omega)
   have hix:=fun H k=>q04e H q006 (k:=k) (s:=7) (by omega) hx rfl
   simp [St.enter,q000,subs,q001,h1,h2,hl,show 0≤n∧n<l.length by omega,hix,q006]
theorem q0v8 (l:List Item) (n:Nat) (H:Heap):clD EE (.p (.fn 218)) [q007 l,vI n] H=some (vB (stayB l n),none):=by
 rw [q002 _ _ _ _ _ _ (noP _) fn218]
 have h:=fun H=>q07f l n H
 rw [q09a] at h
 unfold stayB
 cases hx:l[n]? with
 |none=>
  simp only [hx] at h
  simp only [q007] at h⊢
  simp [St.enter,q000,subs,q001,h]
 |some x=>
  simp only [hx] at h
  have lo:=fun H=>q0rq x H
  simp only [q007] at h⊢
  simp [St.enter,q000,subs,q001,h,lo]
theorem q0yo (l:List Item) (hv:V) (p:Nat→Bool) (hl:l.length≤1000000) (H:Heap) (hH: ∀n:Nat,n≤l.length→clD EE hv [vI n] H=some (vB (p n),none)): ∀(k n:Nat),n≤l.length+1→l.length+1-n=k→
  evD EE q084 ⟨[(0,q007 l),(2,hv),(7,vI n)],[],H,H.length,[]⟩=some (if seekP p k n= -1 then (.exit 0,⟨[(0,q007 l),(2,hv),(7,vI (l.length+1)),(12,vB false)],[],H,H.length,[]⟩) else (.ret,⟨[(6,vI (seekP p k n))],[],H,H.length,[]⟩)):=by
 intro k
 induction k with
 |zero=>
  intro n h1 h2
  have e:n=l.length+1:=by omega
  subst e
  have hle:=fun H=>q01r l H
  unfold q084
  rw [q005]
  simp only [q007] at hle⊢
  simp [seekP,hle,show¬(l.length:Int)+1≤l.length by omega]
 |succ k ih=>
  intro n h1 h2
  have hle:=fun H=>q01r l H
  have c:(n:Int)≤l.length:=by omega
  have w:IntKind.i64.wrap ((n:Int)+1)=((n+1:Nat):Int):=w64 (by omega) (by omega)
  have hp:=hH n (by omega)
  simp only [seekP]
  by_cases hb:p n=true
  ·rw [hb] at hp
   have hne: ¬(n:Int)= -1:=by omega
   simp only [if_pos hb,if_neg hne]
   unfold q084
   rw [q005]
   simp only [q007] at hle⊢
   simp [hle,c,hp]
  ·have hb':p n=false:=by simpa using hb
   rw [hb'] at hp
   have key:=ih (n+1) (by omega) (by omega)
   simp only [if_neg hb]
   rw [←key]
   conv=>lhs;unfold q084
   rw [q005]
   simp only [q007] at hle⊢
   simp [hle,c,hp,w]
   rfl
theorem q0fg (l:List Item) (n:Nat) (hv:V) (p:Nat→Bool) (hl:l.length≤1000000) (H:Heap) (hH: ∀n:Nat,n≤l.length→clD EE hv [vI n] H=some (vB (p n),none)) (h1:n≤l.length+1) (ho:hv.outB=true) (hn:normA hv=hv):
  clD EE (.p (.fn 217)) [q007 l,vI n,hv] H=some (vI (seekP p (l.length+1-n) n),none):=by
 rw [q002 _ _ _ _ _ _ (noP _) fn217]
 have k:=q0yo l hv p hl H hH _ n h1 rfl
 by_cases h:seekP p (l.length+1-n) n= -1
 ·rw [if_pos h] at k
  simp only [q007] at k⊢
  simp [St.enter,q000,k,h]
 ·rw [if_neg h] at k
  simp only [q007] at k⊢
  simp [St.enter,q000,k]
theorem q0nc (l:List Item) (n:Int) (hl:l.length≤1000000) (H:Heap):clD EE (.p (.fn 87)) [q007 l,vI n] H=some (vI (trimF l n),none):=by
 rw [q002 _ _ _ _ _ _ (noP _) fn87]
 have hle:=fun H=>q01r l H
 have hk:min (max n 0) (l.length:Int)=(putN l n:Int):=by unfold putN;omega
 have hp:=q08b l n
 have s:=fun H=>q0fg l (putN l n) (.fn (.func 218) [q007 l] []) (stayB l) hl H (fun m _=>by rw [q02e];exact q0v8 l m H) (by omega) rfl rfl
 have e:=q0gl l _ (putN l n) hp rfl
 rw [e] at s
 unfold trimF
 simp only [q007] at hle s⊢
 simp [St.enter,q000,hle,hk,s]
section
variable (l:List Item) (fs:List Float) (hl:l.length≤1000000)
theorem q0cx (n:Int) (H:Heap):clD EE (.p (.fn 202)) [vMapW l fs,vI n] H=some (.tup [vI (putN l n),vB true],none):=by
 rw [q002 _ _ _ _ _ _ (noP _) fn202]
 have hk:min (max n 0) (l.length:Int)=(putN l n:Int):=by unfold putN;omega
 simp only [vMapW]
 simp [St.enter,q000,subs,q001,hk]
theorem q0cy (n:Int) (H:Heap):clD EE (.p (.fn 254)) [vMapW l fs,vI n] H=some (vI (q00u (l.take (putN l n))),none):=by
 rw [q002 _ _ _ _ _ _ (noP _) fn254]
 have hp:=fun H=>q0cx l fs n H
 have hn:=q08b l n
 have hx:=q046 q00u l (l.length+1) (putN l n) (by omega)
 have hix:=fun H k=>q00z H encI (k:=k) (s:=1) hx rfl
 simp only [vMapW] at hp⊢
 simp [St.enter,q000,subs,q001,hp,hix,encI]
theorem q09b (n:Int) (H:Heap):clD EE (.p (.fn 77)) [vMapW l fs,vI n] H=some (vC (q00h fs (l.take (putN l n))),none):=by
 rw [q002 _ _ _ _ _ _ (noP _) fn77]
 have hp:=fun H=>q0cx l fs n H
 have hn:=q08b l n
 have hx:=q046 (q00h fs) l (l.length+1) (putN l n) (by omega)
 have hix:=fun H k=>q00z H encC3 (k:=k) (s:=3) hx rfl
 simp only [vMapW] at hp⊢
 simp [St.enter,q000,subs,q001,hp,hix,encC3]
theorem q0rr (n:Int) (H:Heap):clD EE (.p (.fn 253)) [vMapW l fs,vI n] H=some (vC (dueP fs (l.take (putN l n))),none):=by
 rw [q002 _ _ _ _ _ _ (noP _) fn253]
 have hp:=fun H=>q0cx l fs n H
 have hn:=q08b l n
 have hx:=q046 (dueP fs) l (l.length+1) (putN l n) (by omega)
 have hix:=fun H k=>q00z H encC3 (k:=k) (s:=3) hx rfl
 simp only [vMapW] at hp⊢
 simp [St.enter,q000,subs,q001,hp,hix,encC3]
end
structure okW (j:Job):Prop where
 n1:j.items.length≤1000000
 n2:j.notes.length≤1000000
 n3:j.floats.length≤100000
 lines: ∀n∈j.notes,n.lines.length≤1000000
 cols:I64 j.g.cols∧j.g.cols≤1000
 refs:q00u j.items≤j.notes.length
theorem q03h {j:Job} (w:okW j) (n:Int):q00i j n≤j.notes.length:=by
 have h:=w.refs
 unfold q00i q00u at*
 have:=q07q 5 j.items (putN j.items n)
 omega
theorem q0gs (j:Job) (n:Int):0≤q00i j n:=(q0gn _).1
section
variable (j:Job) (w:okW j)
theorem q071 (H:Heap):clD EE (.p (.fn 100)) [vW j] H=some (vJob j,none):=by
 rw [q002 _ _ _ _ _ _ (noP _) fn100]
 simp only [vW,cJobW,cGeom,List.cons_append,List.nil_append]
 simp [St.enter,q000,subs,q001]
include w in
theorem q0op (s:Stt) (H:Heap):clD EE (.p (.fn 132)) [vW j,vStt s] H=some (vB (q04o j s),none):=by
 rw [q002 _ _ _ _ _ _ (noP _) fn132]
 have hb:=fun H=>q0cy j.items j.floats s.at_ H
 have hle:=q03h w s.at_
 have hge:=q0gs j s.at_
 change∀H,clD EE _ _ H=some (vI (q00i j s.at_),none) at hb
 have w1:IntKind.i64.wrap (q00i j s.at_-1)=q00i j s.at_-1:=w64 (by have:=w.n2;omega) (by have:=w.n2;omega)
 unfold q04o
 generalize q00i j s.at_=b at*
 simp only [vW,q00e,cJobW,cGeom,List.cons_append,List.nil_append]
 by_cases h0:s.line=0
 ·simp [St.enter,q000,subs,q001,hb,h0]
 ·by_cases h1:s.note=b-1
  ·by_cases h2:s.note<0
   ·simp [St.enter,q000,subs,q001,hb,h0,w1,h1,show b-1<0 by omega]
   ·by_cases h3:s.line<1
    ·simp [St.enter,q000,subs,q001,hb,h0,w1,h1,show¬b-1<0 by omega,h3]
    ·have hx:=q03y j.notes s.note (by omega) (by omega)
     have hix:=fun H k=>q04e H q00f (k:=k) (s:=2) (by omega) hx rfl
     have hl:=w.lines _ (List.mem_of_getElem? hx)
     have hm:=fun H=>q0Ab (rd j.notes s.note).lines (rd j.notes s.note).pens s.line H (by omega)
     rw [h1] at hix hm hl⊢
     simp only [q00f] at hix
     simp only [note,sli] at hm
     by_cases h4:s.line<((rd j.notes (b-1)).lines.length:Int)
     ·simp [St.enter,q000,subs,q001,hb,h0,w1,h1,show¬b-1<0 by omega,h3,hix,h4,hm]
     ·simp [St.enter,q000,subs,q001,hb,h0,w1,h1,show¬b-1<0 by omega,h3,hix,h4]
  ·simp [St.enter,q000,subs,q001,hb,h0,w1,h1]
include w in
theorem q02a (s:Stt) (H:Heap):clD EE (.p (.fn 38)) [vW j,vStt s] H=some (vB (q01c j s),none):=by
 rw [q002 _ _ _ _ _ _ (noP _) fn38]
 have hl:=fun H=>q01r j.items H
 have ht:=fun H=>q0nc j.items s.at_ w.n1 H
 have hc:=fun H=>q0op j w s H
 have ha:=fun H=>q09b j.items j.floats s.at_ H
 change∀H,clD EE _ _ H=some (vC (q00v j s.at_),none) at ha
 have i1:=fun H=>in_ev zeroC s.h H
 have i2:=fun H=>in_ev s.h (q00v j s.at_) H
 unfold q01c
 simp only [vW,q00e,cJobW,cGeom,List.cons_append,List.nil_append,zeroC] at hc i1⊢
 by_cases h1:s.at_<0
 ·simp [St.enter,q000,subs,q001,h1]
 ·by_cases h2:(j.items.length:Int)<s.at_
  ·simp [St.enter,q000,subs,q001,h1,hl,h2]
  ·by_cases h3:(trimF j.items s.at_:Int)=s.at_
   ·by_cases h4:s.col<0
    ·simp [St.enter,q000,subs,q001,h1,hl,h2,ht,h3,h4]
    ·by_cases h5:j.g.cols<s.col
     ·simp [St.enter,q000,subs,q001,h1,hl,h2,ht,h3,h4,h5]
     ·cases c1:q04o j s with
      |false=>simp [St.enter,q000,subs,q001,h1,hl,h2,ht,h3,h4,h5,hc,c1]
      |true=>
       cases c2:inC ⟨0,0,0⟩ s.h with
       |false=>simp [St.enter,q000,subs,q001,h1,hl,h2,ht,h3,h4,h5,hc,c1,i1,c2]
       |true=>simp [St.enter,q000,subs,q001,h1,hl,h2,ht,h3,h4,h5,hc,c1,i1,c2,ha,i2]
   ·simp [St.enter,q000,subs,q001,h1,hl,h2,ht,h3]
end
section
variable (j:Job) (w:okW j)
include w in
theorem q061 (s:Stt) (to:Int) (H:Heap):clD EE (.p (.fn 121)) [vW j,vStt s,vI to] H=some (vSpot (spotS j s to),none):=by
 rw [q002 _ _ _ _ _ _ (noP _) fn121]
 have hr:=fun H=>q02a j w s H
 have b1:=fun H=>q0cy j.items j.floats to H
 have b2:=fun H=>q0cy j.items j.floats s.at_ H
 change∀H,clD EE _ _ H=some (vI (q00i j to),none) at b1
 change∀H,clD EE _ _ H=some (vI (q00i j s.at_),none) at b2
 unfold spotS
 cases c:q01c j s with
 |false=>
  rw [c] at hr
  simp [St.enter,q000,subs,q001,hr]
 |true=>
  rw [c] at hr
  simp only [vW,q00e,cJobW,cGeom,List.cons_append,List.nil_append] at hr⊢
  simp [St.enter,q000,subs,q001,hr,b1,b2]
include w in
theorem q0rs (s:Stt) (H:Heap):clD EE (.p (.fn 101)) [vW j,vStt s] H=some (vI (highS j s),none):=by
 rw [q002 _ _ _ _ _ _ (noP _) fn101]
 have hr:=fun H=>q02a j w s H
 unfold highS
 cases c:q01c j s with
 |false=>
  rw [c] at hr
  simp [St.enter,q000,subs,q001,hr]
 |true=>
  rw [c] at hr
  simp only [vW,q00e,cJobW,cGeom,List.cons_append,List.nil_append] at hr⊢
  by_cases h:s.col<j.g.cols
  ·simp [St.enter,q000,subs,q001,hr,h]
  ·simp [St.enter,q000,subs,q001,hr,h]
include w in
include w in
include w in
theorem q0gt (s:Stt) (H:Heap):clD EE (.p (.fn 31)) [vW j,vStt s] H=some (vB (doneS j s),none):=by
 rw [q002 _ _ _ _ _ _ (noP _) fn31]
 have hr:=fun H=>q02a j w s H
 have hl:=fun H=>q01r j.items H
 obtain ⟨sa,sc,sn,sl,⟨x,y,z⟩⟩:=s
 have e:(decide (x=(allS j).a)&&(decide (y=(allS j).b)&&decide (z=(allS j).c)))=decide (C3.mk x y z=allS j):=by
  generalize allS j=q
  obtain ⟨a,b,c⟩:=q
  simp [Bool.decide_and]
 unfold doneS
 simp only [vW,q00e,cJobW,cGeom,List.cons_append,List.nil_append] at hr⊢
 cases c:q01c j ⟨sa,sc,sn,sl,⟨x,y,z⟩⟩ with
 |false=>
  rw [c] at hr
  simp [St.enter,q000,subs,q001,hr]
 |true=>
  rw [c] at hr
  by_cases h1:sa=j.items.length
  ·subst h1
   by_cases h2:sl=0
   ·subst h2
    by_cases h3:sn=j.notes.length
    ·subst h3
     simp [St.enter,q000,subs,q001,hr,hl,e]
    ·simp [St.enter,q000,subs,q001,hr,hl,h3]
   ·simp [St.enter,q000,subs,q001,hr,hl,h2]
  ·simp [St.enter,q000,subs,q001,hr,hl,h1]
include w in
theorem q0rt (s:Stt) (c:Colm) (c1:c.notes.length≤1000000) (c2:c.top.length≤1000000) (c3:c.bot.length≤1000000) (H:Heap):clD EE (.p (.fn 33)) [vW j,vStt s,vColm c] H=some (vStt (nextS j s c),none):=by
 rw [q002 _ _ _ _ _ _ (noP _) fn33]
 have hr:=fun H=>q02a j w s H
 have hs:=fun H=>q061 j w s c.to H
 have ht:=fun H=>q0nc j.items c.to w.n1 H
 have hn:=fun H=>q0k4 j.notes (spotS j s c.to) c.notes w.n2 c1 H
 have o1:=fun H=>of_ev j.floats c.top H w.n3 c2
 have o2:=fun H=>of_ev j.floats c.bot H w.n3 c3
 have a1:=fun x y H=>q0mo x y H
 have k1:IntKind.i64.wrap 1=1:=by decide
 have k2:IntKind.i64.wrap 2=2:=by decide
 unfold nextS
 cases cr:q01c j s with
 |false=>
  rw [cr] at hr
  simp [St.enter,q000,subs,q001,hr,zeroS]
 |true=>
  rw [cr] at hr
  have hcol:0≤s.col∧s.col≤j.g.cols:=by
   unfold q01c at cr
   split at cr
   ·cases cr
   ·rename_i h;omega
  have hw:=w.cols
  have w1:IntKind.i64.wrap (s.col+1)=s.col+1:=w64 (by omega) (by omega)
  generalize spotS j s c.to=sp at*
  generalize nextF j.notes sp c.notes=nx at*
  simp only [vW,q00e,cJobW,cGeom,List.cons_append,List.nil_append] at hr hs⊢
  by_cases h1:c.k=1
  ·simp [St.enter,q000,subs,q001,hr,hs,ht,hn,w1,h1,q0ix,q005,ixsI,ixsV,k1,k2,o1,o2,a1]
  ·simp [St.enter,q000,subs,q001,hr,hs,ht,hn,w1,h1,q0ix,q005,ixsI,ixsV,k1,k2,o1,o2,a1]
end
end Go.EnvOf
namespace Go.Eng
open Go
@[simp] theorem q0Pd (v:V):zR (some (v,none))=zV [] v:=rfl
@[simp] theorem q0Pe (v:V) (H:Heap):zR (some (v,some (H,[])))=zV H v:=rfl
@[simp] theorem q0Fk:zR none=none:=rfl
@[simp] theorem q0Py (H:Heap) (vs:List V):zV H (.tup vs)=(allO (solV H sd) vs).map .tup:=rfl
@[simp] theorem zV_p (H:Heap) (x:PV):zV H (.p x)=some (.p x):=rfl
@[simp] theorem q0Pf (H:Heap):zV H .nils=some (.p (.sl [])):=rfl
@[simp] theorem q0Ay (H:Heap) (a b c d:Nat):zV H (.row a b c d)=(frz 0 H deep (.row a b c d)).map .p:=rfl
@[simp] theorem q0Pz (H:Heap) (id off:Nat):zV H (.ptr id off)=(Eng.boxAt H id).bind fun cs=>(allO (solV H 5) cs).map fun cs'=> .eptr cs' off:=rfl
@[simp] theorem q0Q0 (H:Heap) (d:Nat) (x:PV):solV H d (.p x)=some (.p x):=by cases d<;>rfl
@[simp] theorem q0K2 (H:Heap) (d:Nat):solV H d .nils=some (.p (.sl [])):=by cases d<;>rfl
@[simp] theorem q0Nk (H:Heap) (d a b c e:Nat):solV H d (.row a b c e)=(frz 0 H deep (.row a b c e)).map .p:=by cases d<;>rfl
@[simp] theorem q0K3 (H:Heap) (id off:Nat):solV H sd (.ptr id off)=(Eng.boxAt H id).bind fun cs=>(allO (solV H 5) cs).map fun cs'=> .eptr cs' off:=rfl
@[simp] theorem q0Fl (H:Heap) (id off:Nat):solV H 6 (.ptr id off)=(Eng.boxAt H id).bind fun cs=>(allO (solV H 5) cs).map fun cs'=> .eptr cs' off:=rfl
@[simp] theorem q0K4 (H:Heap) (id off:Nat):solV H 5 (.ptr id off)=(Eng.boxAt H id).bind fun cs=>(allO (solV H 4) cs).map fun cs'=> .eptr cs' off:=rfl
@[simp] theorem q0Fm (a b:Nat):V.plainB (.ptr a b)=false:=rfl
@[simp] theorem q0Fn (a b:Nat):q06m (.ptr a b)=false:=rfl
theorem q047 {H:Heap} {id n s:Nat} {es:List (List PV)} (h:Eng.rowAt H id=some (s,upV es)) (hn:es.length=n):frz 0 H deep (.row id n 0 n)=some (.sl es):=by
 unfold deep
 rw [q0f4,if_pos (Nat.zero_le _),h,q0jb,if_pos hn]
 simp [←hn]
end Go.Eng
namespace Go.EnvOf
open Go Go.Eng
set_option maxRecDepth 100000
@[simp] theorem q0zg (l:List Item):q06m (q00o l)=true:=rfl
@[simp] theorem q0K5 (j:Job):q06m (vW j)=true:=rfl
@[simp] theorem q0D0 (H:Heap) (l:List Item):solV H 5 (q007 l)=some (q007 l):=rfl
@[simp] theorem q0D1 (H:Heap) (j:Job):solV H 5 (q00e j)=some (q00e j):=rfl
@[simp] theorem q0Az (H:Heap) (l:List Item):solV H 4 (q007 l)=some (q007 l):=rfl
@[simp] theorem q0B0 (H:Heap) (l:List Item):solV H 4 (q00o l)=some (q00o l):=rfl
@[simp] theorem q0D2 (H:Heap) (l:List Item) (fs:List Float):solV H 4 (vMapW l fs)=some (vMapW l fs):=rfl
theorem q0e9 {α:Type} (f:FuncId) (s:Nat) (z:List V) (enc:α→List PV) (hs: ∀x,(enc x).length=s) (hf:EE.fns f=some (q05b s z)) (l:List α) (hm:l.length<most) (hp:EE.prims f=none:=by exact noP _):
  zR (clD EE (.p (.fn f)) [.p (.sl (l.map enc))] [])=some (.p (.sl (l.map enc))):=by
 rw [q05d f s z [] enc hs hf l hm hp]
 cases l with
 |nil=>rfl
 |cons x r=>
  have h:Eng.rowAt ([]++[DObj.row s (upV ((x::r).map enc))]) 0=some (s,upV ((x::r).map enc)):=rfl
  show zV _ (.row 0 (x::r).length 0 (x::r).length)=_
  rw [q0Ay,q047 h (by simp)]
  rfl
theorem q05e (l:List Item) (h:l.length≤1000000):zR (clD EE (.p (.fn 189)) [q00g l] [])=some (q00g l):=q0e9 _ 7 _ q006 (fun _=>rfl) fn189 l (by unfold most;omega)
theorem q0hq (l:List Float) (h:l.length≤1000000):zR (clD EE (.p (.fn 190)) [q00b l] [])=some (q00b l):=q0e9 _ 3 _ q00m (fun _=>rfl) fn190 l (by unfold most;omega)
theorem q0oq (l:List Int) (h:l.length≤1000000):zR (clD EE (.p (.fn 191)) [sli l] [])=some (sli l):=q0e9 _ 1 _ encI (fun _=>rfl) fn191 l (by unfold most;omega)
theorem q0ls (l:List Int) (h:l.length≤1000000):zR (clD EE (.p (.fn 192)) [sli l] [])=some (sli l):=q0e9 _ 1 _ encI (fun _=>rfl) fn192 l (by unfold most;omega)
theorem q0or (l:List Item) (h:l.length≤1000000):zR (clD EE (.p (.fn 75)) [q00g l] [])=some (q007 l):=by
 rw [q002 _ _ _ _ _ _ (noP _) fn75]
 have c:=q05e l h
 simp [St.enter,q000,subs,q001,solN,sd,c,allO,q007]
theorem q0v9 (f:FuncId) (x y z:Int) (p q:Nat) (H:Heap) (hf:clD EE (.p (.fn f)) [vI x,vI y] H=some (resT (some z),none)) (h1:Eng.boxAt H p=some [.p (.fn f)]) (h2:Eng.boxAt H q=some [vB true]):
  clD EE (.p (.fn 412)) [vI x,vI y,.ptr p 0,.ptr q 0] H=some (vI z,some (H,[q])):=by
 rw [q002 _ _ _ _ _ _ (noP _) fn412]
 have hlt:=q02s h2
 have e:H.set q (.box [vB true])=H:=by
  unfold Eng.boxAt at h2
  split at h2
  ·rename_i cs h3
   cases h2
   obtain ⟨h4,h5⟩:=List.getElem?_eq_some_iff.1 h3
   rw [←h5];exact List.set_getElem_self h4
  ·cases h2
 have a1:subs [V.p (PV.fn f)] 0 1=some [V.p (PV.fn f)]:=rfl
 have a2:subs [vB true] 0 1=some [vB true]:=rfl
 have a3:q001 [vB true] 0 [vB true]=some [vB true]:=rfl
 simp only [resT] at hf
 simp [St.enter,q000,h1,h2,a1,a2,a3,hf,e,hlt]
theorem q0nd (f:FuncId) (a b c:Tot) (H:Heap) (hf: ∀(x y z:Int) (H:Heap),(x,y,z)∈[(a.nat,b.nat,c.nat),(a.s0,b.s0,c.s0),(a.s1,b.s1,c.s1),(a.s2,b.s2,c.s2),(a.s3,b.s3,c.s3),(a.shr,b.shr,c.shr)]→clD EE (.p (.fn f)) [vI x,vI y] H=some (resT (some z),none)):
  clD EE (.p (.fn 337)) [vTot a,vTot b,.p (.fn f)] H=some (.tup [vTot c,vB true],none):=by
 rw [q002 _ _ _ _ _ _ (noP _) fn337]
 have k: ∀x y z,(x,y,z)∈[(a.nat,b.nat,c.nat),(a.s0,b.s0,c.s0),(a.s1,b.s1,c.s1),(a.s2,b.s2,c.s2),(a.s3,b.s3,c.s3),(a.shr,b.shr,c.shr)]→clD EE (.fn (.func 412) [] [.ptr H.length 0,.ptr (H.length+1) 0]) [vI x,vI y] (H++[.box [.p (.fn f)],.box [vB true]])=some (vI z,some (H++[.box [.p (.fn f)],.box [vB true]],[H.length+1])):=by
  intro x y z hm
  rw [q02e]
  exact q0v9 f x y z H.length (H.length+1) _ (hf x y z _ hm) (by simp) (by simp)
 have k0:=k a.nat b.nat c.nat (by simp)
 have k1:=k a.s0 b.s0 c.s0 (by simp)
 have k2:=k a.s1 b.s1 c.s1 (by simp)
 have k3:=k a.s2 b.s2 c.s2 (by simp)
 have k4:=k a.s3 b.s3 c.s3 (by simp)
 have k5:=k a.shr b.shr c.shr (by simp)
 have w1:IntKind.i64.wrap 1=1:=by decide
 have w2:IntKind.i64.wrap 2=2:=by decide
 have w3:IntKind.i64.wrap 3=3:=by decide
 have w4:IntKind.i64.wrap 4=4:=by decide
 have ad:addD H.length (H.length+1) []=[]:=by unfold addD;rw [if_neg (by omega)]
 simp [St.enter,q000,subs,q001,k0,k1,k2,k3,k4,k5,q0mi,q005,ixaV,q00k,w1,w2,w3,w4,ad]
structure inT64 (t:Tot):Prop where
 nat:I64 t.nat
 s0:I64 t.s0
 s1:I64 t.s1
 s2:I64 t.s2
 s3:I64 t.s3
 shr:I64 t.shr
theorem q072 {m:Int} {t:Tot} (h:inT m t) (hm:m≤9223372036854775807):inT64 t:=by
 obtain ⟨⟨a1,a2⟩,⟨a3,a4⟩,⟨a5,a6⟩,⟨a7,a8⟩,⟨a9,b1⟩,⟨b2,b3⟩⟩:=h
 constructor<;>constructor<;>omega
theorem q0yp {a b:Int} (h:I64 (a+b)):addF a b=some (a+b):=by unfold addF;rw [if_pos h]
theorem q0yq {a b:Int} (h:I64 (a-b)):subF a b=some (a-b):=by unfold subF;rw [if_pos h]
theorem q0ru (a b:Tot) (ha:inT64 a) (hb:inT64 b) (hc:inT64 (addT a b)) (H:Heap):clD EE (.p (.fn 200)) [vTot a,vTot b] H=some (.tup [vTot (addT a b),vB true],none):=by
 rw [q002 _ _ _ _ _ _ (noP _) fn200]
 have one: ∀(x y:Int) (H:Heap),I64 x→I64 y→I64 (x+y)→clD EE (.p (.fn 338)) [vI x,vI y] H=some (resT (some (x+y)),none):=by
  intro x y H hx hy hz
  rw [q0r2 x y H hx hy,q0yp hz]
 have h:=fun H=>q0nd 338 a b (addT a b) H (fun x y z H hm=>by
  simp only [List.mem_cons,Prod.mk.injEq,List.not_mem_nil,or_false] at hm
  rcases hm with ⟨rfl,rfl,rfl⟩|⟨rfl,rfl,rfl⟩|⟨rfl,rfl,rfl⟩|⟨rfl,rfl,rfl⟩|⟨rfl,rfl,rfl⟩|⟨rfl,rfl,rfl⟩
  ·exact one _ _ _ ha.nat hb.nat hc.nat
  ·exact one _ _ _ ha.s0 hb.s0 hc.s0
  ·exact one _ _ _ ha.s1 hb.s1 hc.s1
  ·exact one _ _ _ ha.s2 hb.s2 hc.s2
  ·exact one _ _ _ ha.s3 hb.s3 hc.s3
  ·exact one _ _ _ ha.shr hb.shr hc.shr)
 generalize addT a b=c at*
 simp [St.enter,q000,subs,q001,h]
theorem q0rv (h:Int) (H:Heap):clD EE (.p (.fn 334)) [vI h] H=some (vTot ⟨h,0,0,0,0,0⟩,none):=by
 rw [q002 _ _ _ _ _ _ (noP _) fn334]
 simp [St.enter,q000,subs,q001]
theorem q0os (h str ord shr:Int) (H:Heap):clD EE (.p (.fn 335)) [vI h,vI str,vI ord,vI shr] H=some (vTot (glueT h str ord shr),none):=by
 rw [q002 _ _ _ _ _ _ (noP _) fn335]
 unfold glueT
 by_cases c0:ord=0
 ·simp [St.enter,q000,subs,q001,c0,ixaV,q00k]
 ·by_cases c1:ord=1
  ·simp [St.enter,q000,subs,q001,c1,ixaV,q00k]
  ·by_cases c2:ord=2
   ·simp [St.enter,q000,subs,q001,c2,ixaV,q00k]
   ·by_cases c3:ord=3
    ·simp [St.enter,q000,subs,q001,c3,ixaV,q00k]
    ·by_cases c4:ord<0
     ·simp [St.enter,q000,subs,q001,c0,c1,c2,c3,show¬0≤ord by omega]
     ·simp [St.enter,q000,subs,q001,c0,c1,c2,c3,show 0≤ord by omega,show¬ord<4 by omega]
theorem q0kb (x:Item) (H:Heap):clD EE (.p (.fn 198)) [vItem x] H=some (vTot (totI x),none):=by
 rw [q002 _ _ _ _ _ _ (noP _) fn198]
 have b:=fun H=>q0rv x.h H
 have g:=fun H=>q0os x.h x.str x.ord x.shr H
 unfold totI
 by_cases k1:x.k=1
 ·simp [St.enter,q000,subs,q001,k1,b]
 ·by_cases k2:x.k=2
  ·simp only [k2,if_neg (show¬(2:Int)=1 by decide),if_true]
   generalize glueT x.h x.str x.ord x.shr=t at*
   simp [St.enter,q000,subs,q001,k2,g]
  ·simp [St.enter,q000,subs,q001,k1,k2,zeroT]
theorem q05o (n:Int) (H:Heap) (h:0≤n∧n≤4294967296):clD EE (.p (.fn 336)) [vI n] H=some (vB true,none):=by
 rw [q002 _ _ _ _ _ _ (noP _) fn336]
 simp [St.enter,q000,h.1,h.2]
theorem q0va (t:Tot) (h:inT 4294967296 t) (H:Heap):clD EE (.p (.fn 199)) [vTot t] H=some (vB true,none):=by
 rw [q002 _ _ _ _ _ _ (noP _) fn199]
 have k0:=fun H=>q05o t.nat H h.nat
 have k1:=fun H=>q05o t.s0 H h.s0
 have k2:=fun H=>q05o t.s1 H h.s1
 have k3:=fun H=>q05o t.s2 H h.s2
 have k4:=fun H=>q05o t.s3 H h.s3
 have k5:=fun H=>q05o t.shr H h.shr
 have w1:IntKind.i64.wrap 1=1:=by decide
 have w2:IntKind.i64.wrap 2=2:=by decide
 have w3:IntKind.i64.wrap 3=3:=by decide
 have w4:IntKind.i64.wrap 4=4:=by decide
 simp [St.enter,q000,subs,q001,k0,k1,k2,k3,k4,k5,q0mg,q005,ixaV,q00k,w1,w2,w3,w4]
def q0kc (x:Item):Bool:=decide (x.k=2)||decide (x.k=3)
def q08c (x:Item):Bool:=decide (x.k=3)&&decide (x.n≤ -10000)
theorem q0vb (x:Item) (H:Heap):clD EE (.p (.fn 347)) [vItem x] H=some (vB (q0kc x),none):=by
 rw [q002 _ _ _ _ _ _ (noP _) fn347]
 unfold q0kc
 by_cases h:x.k=2<;>simp [St.enter,q000,subs,q001,h]
theorem q0gu (x:Item) (H:Heap):clD EE (.p (.fn 287)) [vItem x] H=some (vB (q08c x),none):=by
 rw [q002 _ _ _ _ _ _ (noP _) fn287]
 unfold q08c
 by_cases h:x.k=3<;>simp [St.enter,q000,subs,q001,h]
theorem q073 (j:Job) (H:Heap):clD EE (.p (.fn 81)) [vW j] H=some (q007 j.items,none):=by
 rw [q002 _ _ _ _ _ _ (noP _) fn81]
 have p: ∀H,clD EE (.p (.fn 211)) [vW j] H=some (q00e j,none):=by
  intro H
  rw [q002 _ _ _ _ _ _ (noP _) fn211]
  simp [vW,St.enter,q000,subs,q001]
 have q: ∀H,clD EE (.p (.fn 212)) [q00e j] H=some (q007 j.items,none):=by
  intro H
  rw [q002 _ _ _ _ _ _ (noP _) fn212]
  simp [q00e,St.enter,q000,subs,q001]
 simp [St.enter,q000,p,q]
theorem q0vc (j:Job) (H:Heap):clD EE (.p (.fn 105)) [vW j] H=some (q00o j.items,none):=by
 rw [q002 _ _ _ _ _ _ (noP _) fn105]
 have p: ∀H,clD EE (.p (.fn 211)) [vW j] H=some (q00e j,none):=by
  intro H
  rw [q002 _ _ _ _ _ _ (noP _) fn211]
  simp [vW,St.enter,q000,subs,q001]
 have q: ∀H,clD EE (.p (.fn 235)) [q00e j] H=some (q00o j.items,none):=by
  intro H
  rw [q002 _ _ _ _ _ _ (noP _) fn235]
  simp [q00e,St.enter,q000,subs,q001]
 simp [St.enter,q000,p,q]
def sumT (l:List Item) (a b:Int):Tot:=if max a 0<min b l.length then subT (totP (l.take (min b l.length).toNat)) (totP (l.take (max a 0).toNat)) else zeroT
theorem q0ot (l:List Item) (H:Heap):clD EE (.p (.fn 359)) [q00o l] H=some (vI l.length,none):=by
 rw [q002 _ _ _ _ _ _ (noP _) fn359]
 simp [q00o,St.enter,q000,subs,q001]
theorem q0ou (l:List Item) (a b:Int) (H:Heap):clD EE (.p (.fn 236)) [q00o l,vI a,vI b] H=some (.tup [vI (max a 0),vI (min b l.length),vB (decide (max a 0<min b l.length))],none):=by
 rw [q002 _ _ _ _ _ _ (noP _) fn236]
 have h:=fun H=>q0ot l H
 simp [St.enter,q000,subs,q001,h]
theorem q0rw (a b:Tot) (ha:inT64 a) (hb:inT64 b) (hc:inT64 (subT a b)) (H:Heap):clD EE (.p (.fn 290)) [vTot a,vTot b] H=some (.tup [vTot (subT a b),vB true],none):=by
 rw [q002 _ _ _ _ _ _ (noP _) fn290]
 have one: ∀(x y:Int) (H:Heap),I64 x→I64 y→I64 (x-y)→clD EE (.p (.fn 376)) [vI x,vI y] H=some (resT (some (x-y)),none):=by
  intro x y H hx hy hz
  rw [q0r3 x y H hx hy,q0yq hz]
 have h:=fun H=>q0nd 376 a b (subT a b) H (fun x y z H hm=>by
  simp only [List.mem_cons,Prod.mk.injEq,List.not_mem_nil,or_false] at hm
  rcases hm with ⟨rfl,rfl,rfl⟩|⟨rfl,rfl,rfl⟩|⟨rfl,rfl,rfl⟩|⟨rfl,rfl,rfl⟩|⟨rfl,rfl,rfl⟩|⟨rfl,rfl,rfl⟩
  ·exact one _ _ _ ha.nat hb.nat hc.nat
  ·exact one _ _ _ ha.s0 hb.s0 hc.s0
  ·exact one _ _ _ ha.s1 hb.s1 hc.s1
  ·exact one _ _ _ ha.s2 hb.s2 hc.s2
  ·exact one _ _ _ ha.s3 hb.s3 hc.s3
  ·exact one _ _ _ ha.shr hb.shr hc.shr)
 generalize subT a b=c at*
 simp [St.enter,q000,subs,q001,h]
theorem q0yr {m k:Int} {a b:Tot} (ha:inT m a) (hb:inT k b) (hm:m≤9223372036854775807) (hk:k≤9223372036854775807):inT64 (subT a b):=by
 obtain ⟨⟨a1,a2⟩,⟨a3,a4⟩,⟨a5,a6⟩,⟨a7,a8⟩,⟨a9,b1⟩,⟨b2,b3⟩⟩:=ha
 obtain ⟨⟨c1,c2⟩,⟨c3,c4⟩,⟨c5,c6⟩,⟨c7,c8⟩,⟨c9,d1⟩,⟨d2,d3⟩⟩:=hb
 constructor<;>constructor<;>simp only [subT]<;>omega
theorem q0kd (l:List Item) (hl:l.length≤1000000) (hf: ∀x∈l,fairI x) (n:Nat):inT 4294967296000000 (totP (l.take n)):=by
 have h:=q0fe (l.take n) (fun x hx=>hf x (List.mem_of_mem_take hx))
 have hn:(l.take n).length≤1000000:=by rw [List.length_take];omega
 have hm:4294967296*((l.take n).length:Int)≤4294967296000000:=by omega
 obtain ⟨⟨a1,a2⟩,⟨a3,a4⟩,⟨a5,a6⟩,⟨a7,a8⟩,⟨a9,b1⟩,⟨b2,b3⟩⟩:=h
 constructor<;>constructor<;>omega
theorem q0rx (l:List Item) (hl:l.length≤1000000) (hf: ∀x∈l,fairI x) (a b:Int) (H:Heap):clD EE (.p (.fn 139)) [q00o l,vI a,vI b] H=some (vTot (sumT l a b),none):=by
 rw [q002 _ _ _ _ _ _ (noP _) fn139]
 have hw:=fun H=>q0ou l a b H
 unfold sumT
 by_cases c:max a 0<min b l.length
 ·have ha:(preL totP l (l.length+1))[(max a 0).toNat]? =some (totP (l.take (max a 0).toNat)):=q046 _ _ _ _ (by omega)
  have hb:(preL totP l (l.length+1))[(min b l.length).toNat]? =some (totP (l.take (min b l.length).toNat)):=q046 _ _ _ _ (by omega)
  have ia:=fun H k=>q04e H q01p (k:=k) (s:=6) (i:=max a 0) (by omega) ha rfl
  have ib:=fun H k=>q04e H q01p (k:=k) (s:=6) (i:=min b l.length) (by omega) hb rfl
  have i1:=q0kd l hl hf (min b l.length).toNat
  have i2:=q0kd l hl hf (max a 0).toNat
  have hs:=fun H=>q0rw _ _ (q072 i1 (by omega)) (q072 i2 (by omega)) (q0yr i1 i2 (by omega) (by omega)) H
  rw [if_pos c]
  generalize totP (l.take (min b l.length).toNat)=t1 at*
  generalize totP (l.take (max a 0).toNat)=t2 at*
  generalize subT t1 t2=t3 at*
  generalize max a 0=a' at*
  generalize min b l.length=b' at*
  simp only [q01p] at ia ib
  simp only [q00o] at hw⊢
  simp [St.enter,q000,subs,q001,hw,c,ia,ib,hs]
 ·rw [if_neg c]
  simp [St.enter,q000,subs,q001,hw,c,zeroT]
structure Setg where
 how:Int
 ord:Int
 by_:Int
 of_:Int
 left:Int
 deriving Inhabited,DecidableEq
def zeroG:Setg:=⟨0,0,0,0,0⟩
abbrev vSet (s:Setg):V:= .agg [vI s.how,vI s.ord,vI s.by_,vI s.of_,vI s.left]
def fairL (n:Int):Bool:=decide (0≤n)&&decide (n≤1125899906842624)
def q08d (t:Tot):Bool:=fairL t.s0&&fairL t.s1&&fairL t.s2&&fairL t.s3&&fairL t.nat&&fairL t.shr
def q08e (t:Tot) (h:Int):Bool:=q08d t&&decide (-1125899906842624≤h)&&decide (h≤1125899906842624)
def ordT (t:Tot):Int:=if t.s3≠0 then 3 else if t.s2≠0 then 2 else if t.s1≠0 then 1 else 0
def strT (t:Tot) (o:Int):Int:=if o=3 then t.s3 else if o=2 then t.s2 else if o=1 then t.s1 else t.s0
def q0ea (t:Tot) (h:Int) (last:Bool):Setg:=
 if q08e t h=true then
  if h-t.nat=0 then zeroG
  else if 0<h-t.nat∧0<strT t (ordT t)∧ ¬(last=true∧ordT t=0) then ⟨1,ordT t,h-t.nat,strT t (ordT t),0⟩
  else if 0<h-t.nat then ⟨0,0,0,0,h-t.nat⟩
  else if 0≤t.shr+(h-t.nat) then ⟨2,0,-(h-t.nat),t.shr,0⟩
  else ⟨3,0,t.shr,t.shr,t.shr+(h-t.nat)⟩
 else zeroG
theorem q0vd (n:Int) (H:Heap):clD EE (.p (.fn 231)) [vI n] H=some (vB (fairL n),none):=by
 rw [q002 _ _ _ _ _ _ (noP _) fn231]
 unfold fairL
 by_cases h:0≤n<;>simp [St.enter,q000,h]
theorem q0ov (t:Tot) (H:Heap):clD EE (.p (.fn 232)) [vTot t] H=some (vB (q08d t),none):=by
 rw [q002 _ _ _ _ _ _ (noP _) fn232]
 have f:=fun n H=>q0vd n H
 have w1:IntKind.i64.wrap 1=1:=by decide
 have w2:IntKind.i64.wrap 2=2:=by decide
 have w3:IntKind.i64.wrap 3=3:=by decide
 have w4:IntKind.i64.wrap 4=4:=by decide
 unfold q08d
 cases c0:fairL t.s0 with
 |false=>simp [St.enter,q000,subs,q001,f,q06d,q005,ixvV,ixaV,q00k,w1,w2,w3,w4,c0]
 |true=>
  cases c1:fairL t.s1 with
  |false=>simp [St.enter,q000,subs,q001,f,q06d,q005,ixvV,ixaV,q00k,w1,w2,w3,w4,c0,c1]
  |true=>
   cases c2:fairL t.s2 with
   |false=>simp [St.enter,q000,subs,q001,f,q06d,q005,ixvV,ixaV,q00k,w1,w2,w3,w4,c0,c1,c2]
   |true=>
    cases c3:fairL t.s3 with
    |false=>simp [St.enter,q000,subs,q001,f,q06d,q005,ixvV,ixaV,q00k,w1,w2,w3,w4,c0,c1,c2,c3]
    |true=>
     cases c4:fairL t.nat<;>simp [St.enter,q000,subs,q001,f,q06d,q005,ixvV,ixaV,q00k,w1,w2,w3,w4,c0,c1,c2,c3,c4]
theorem q0ry (t:Tot) (h:Int) (H:Heap):clD EE (.p (.fn 288)) [vTot t,vI h] H=some (vB (q08e t h),none):=by
 rw [q002 _ _ _ _ _ _ (noP _) fn288]
 have f:=fun H=>q0ov t H
 unfold q08e
 cases c:q08d t with
 |false=>simp [St.enter,q000,subs,q001,f,c]
 |true=>by_cases d: -1125899906842624≤h<;>simp [St.enter,q000,subs,q001,f,c,d]
theorem q0ys (t:Tot) (H:Heap):clD EE (.p (.fn 289)) [vTot t] H=some (vI (ordT t),none):=by
 rw [q002 _ _ _ _ _ _ (noP _) fn289]
 have w0:IntKind.i64.wrap 0=0:=by decide
 have w1:IntKind.i64.wrap 1=1:=by decide
 have w2:IntKind.i64.wrap 2=2:=by decide
 unfold ordT
 by_cases c3:t.s3=0
 ·by_cases c2:t.s2=0
  ·by_cases c1:t.s1=0
   ·simp [St.enter,q000,subs,q001,q086,q005,ixaV,q00k,w0,w1,w2,c3,c2,c1]
   ·simp [St.enter,q000,subs,q001,q086,q005,ixaV,q00k,w0,w1,w2,c3,c2,c1]
  ·simp [St.enter,q000,subs,q001,q086,q005,ixaV,q00k,w0,w1,w2,c3,c2]
 ·simp [St.enter,q000,subs,q001,q086,q005,ixaV,q00k,w0,w1,w2,c3]
theorem q0rz {t:Tot} {h:Int} (r:q08e t h=true):(0≤t.nat∧t.nat≤1125899906842624)∧(0≤t.shr∧t.shr≤1125899906842624)∧ -1125899906842624≤h∧h≤1125899906842624:=by
 unfold q08e q08d fairL at r
 simp at r
 omega
theorem q0s0 (t:Tot) (h:Int) (last:Bool) (H:Heap):clD EE (.p (.fn 138)) [vTot t,vI h,vB last] H=some (vSet (q0ea t h last),none):=by
 rw [q002 _ _ _ _ _ _ (noP _) fn138]
 have r:=fun H=>q0ry t h H
 have o:=fun H=>q0ys t H
 unfold q0ea
 cases c:q08e t h with
 |false=>simp [St.enter,q000,subs,q001,r,c,zeroG]
 |true=>
  have bd:=q0rz c
  obtain ⟨need,hneed⟩: ∃n,h-t.nat=n:=⟨_,rfl⟩
  have w1:IntKind.i64.wrap (h-t.nat)=need:=by rw [hneed];exact w64 (by omega) (by omega)
  have w2:IntKind.i64.wrap (t.shr+need)=t.shr+need:=w64 (by omega) (by omega)
  have w3:IntKind.i64.wrap (-need)= -need:=w64 (by omega) (by omega)
  have ho:(ordT t=0∧strT t (ordT t)=t.s0)∨(ordT t=1∧strT t (ordT t)=t.s1)∨(ordT t=2∧strT t (ordT t)=t.s2)∨(ordT t=3∧strT t (ordT t)=t.s3):=by
   unfold ordT
   (repeat' split)<;>simp [strT]
  simp only [hneed]
  clear hneed bd
  generalize strT t (ordT t)=str at*
  generalize ordT t=od at*
  simp only [if_true]
  by_cases n0:need=0
  ·subst n0
   simp [St.enter,q000,subs,q001,r,c,o,w1,zeroG]
  ·by_cases n1:0<need
   ·rcases ho with ⟨rfl,rfl⟩|⟨rfl,rfl⟩|⟨rfl,rfl⟩|⟨rfl,rfl⟩
    ·by_cases s:0<t.s0
     ·cases last<;>simp [St.enter,q000,subs,q001,ixaV,q00k,r,c,o,w1,w2,n0,n1,s]
     ·simp [St.enter,q000,subs,q001,ixaV,q00k,r,c,o,w1,w2,n0,n1,s]
    ·by_cases s:0<t.s1
     ·cases last<;>simp [St.enter,q000,subs,q001,ixaV,q00k,r,c,o,w1,w2,n0,n1,s]
     ·simp [St.enter,q000,subs,q001,ixaV,q00k,r,c,o,w1,w2,n0,n1,s]
    ·by_cases s:0<t.s2
     ·cases last<;>simp [St.enter,q000,subs,q001,ixaV,q00k,r,c,o,w1,w2,n0,n1,s]
     ·simp [St.enter,q000,subs,q001,ixaV,q00k,r,c,o,w1,w2,n0,n1,s]
    ·by_cases s:0<t.s3
     ·cases last<;>simp [St.enter,q000,subs,q001,ixaV,q00k,r,c,o,w1,w2,n0,n1,s]
     ·simp [St.enter,q000,subs,q001,ixaV,q00k,r,c,o,w1,w2,n0,n1,s]
   ·by_cases n2:0≤t.shr+need
    ·simp [St.enter,q000,subs,q001,r,c,o,w1,w2,w3,n0,n1,n2]
    ·simp [St.enter,q000,subs,q001,r,c,o,w1,w2,n0,n1,n2]
def highA (g:Geom) (fs:List Float) (a b:List Int):Int:=IntKind.i64.wrap (highQ fs a g.sep+highQ fs b g.sep)
def q08f (g:Geom) (fs:List Float) (a:List Int):Int:=if highQ fs a g.sep=0 then 0 else IntKind.i64.wrap (highQ fs a g.sep-min (max g.sep 0) 1125899906842624)
theorem q0lt (g:Geom) (fs:List Float) (a b:List Int) (ha:a.length≤1000000) (hb:b.length≤1000000) (H:Heap):clD EE (.p (.fn 135)) [vGeom g,q00b fs,.agg [sli a,sli b]] H=some (vI (highA g fs a b),none):=by
 rw [q002 _ _ _ _ _ _ (noP _) fn135]
 have h1:=fun H=>q08z fs a g.sep H ha
 have h2:=fun H=>q08z fs b g.sep H hb
 unfold highA
 simp [St.enter,q000,subs,q001,h1,h2]
theorem q0ke (g:Geom) (fs:List Float) (a:List Int) (ha:a.length≤1000000) (H:Heap):clD EE (.p (.fn 136)) [vGeom g,q00b fs,sli a] H=some (vI (q08f g fs a),none):=by
 rw [q002 _ _ _ _ _ _ (noP _) fn136]
 have h1:=fun H=>q08z fs a g.sep H ha
 unfold q08f
 by_cases c:highQ fs a g.sep=0<;>simp [St.enter,q000,subs,q001,h1,c]
def lastC (l:List Item) (c:Colm):Bool:=decide (c.k=1)&&(decide (c.to=l.length)||match q033 l c.to with|some x=>decide (0<c.to)&&q08c x|none=>false)
theorem q0ve (j:Job) (c:Colm) (H:Heap):clD EE (.p (.fn 137)) [vW j,vColm c] H=some (vB (lastC j.items c),none):=by
 rw [q002 _ _ _ _ _ _ (noP _) fn137]
 have l1:=fun H=>q073 j H
 have l2:=fun H=>q01r j.items H
 have l3:=fun H=>q07f j.items c.to H
 have f:=fun x H=>q0gu x H
 unfold lastC
 by_cases k:c.k=1
 ·by_cases e:c.to=j.items.length
  ·cases h:q033 j.items c.to with
   |none=>rw [h] at l3;simp [St.enter,q000,subs,q001,l1,l2,l3,k,←e]
   |some x=>rw [h] at l3;simp [St.enter,q000,subs,q001,l1,l2,l3,k,←e]
  ·cases h:q033 j.items c.to with
   |none=>rw [h] at l3;simp [St.enter,q000,subs,q001,l1,l2,l3,k,e]
   |some x=>
    rw [h] at l3
    by_cases p:0<c.to<;>simp [St.enter,q000,subs,q001,l1,l2,l3,k,e,p,f]
 ·simp [St.enter,q000,subs,q001,k]
structure Fcts where
 notes:Int
 floats:Int
 room:Int
 last:Bool
 over:Bool
 set_:Setg
def zeroF:Fcts:=⟨0,0,0,false,false,zeroG⟩
abbrev vFcts (f:Fcts):V:= .agg [vI f.notes,vI f.floats,vI f.room,vB f.last,vB f.over,vI f.set_.how,vI f.set_.ord,vI f.set_.by_,vI f.set_.of_,vI f.set_.left]
def q06g (j:Job) (c:Colm):Int:=if c.k=1 then highA j.g j.floats c.top c.bot else if c.k=2 then q08f j.g j.floats c.top else 0
def roomC (j:Job) (s:Stt) (c:Colm):Int:=IntKind.i64.wrap (IntKind.i64.wrap (highS j s-highP j.notes c.notes j.g.rule)-q06g j c)
def fullC (j:Job) (c:Colm):Bool:=decide (0<c.notes.length)&&decide (j.g.noteMost<highP j.notes c.notes j.g.rule)
def setC (j:Job) (s:Stt) (c:Colm):Setg:=q0ea (sumT j.items s.at_ c.to) (roomC j s c) (lastC j.items c)
def q01x (j:Job) (s:Stt) (c:Colm):Fcts:=
 if q01c j s=true then
  ⟨highP j.notes c.notes j.g.rule,q06g j c,roomC j s c,lastC j.items c,
   if c.k=1 then fullC j c||decide ((setC j s c).how=3) else fullC j c||decide (roomC j s c<0),
   if c.k=1 then setC j s c else zeroG⟩
 else zeroF
theorem q0kf (j:Job) (w:okW j) (hf: ∀x∈j.items,fairI x) (s:Stt) (c:Colm) (c1:c.notes.length≤1000000) (c2:c.top.length≤1000000) (c3:c.bot.length≤1000000) (H:Heap):
  clD EE (.p (.fn 39)) [vW j,vStt s,vColm c] H=some (vFcts (q01x j s c),none):=by
 rw [q002 _ _ _ _ _ _ (noP _) fn39]
 have r:=fun H=>q02a j w s H
 have pl:=fun H=>q071 j H
 have sh:=fun H=>q0k8 j.notes c.notes j.g.rule w.lines c1 H
 have ah:=fun H=>q0lt j.g j.floats c.top c.bot c2 c3 H
 have as:=fun H=>q0ke j.g j.floats c.top c2 H
 have hi:=fun H=>q0rs j w s H
 have la:=fun H=>q0ve j c H
 have su:=fun H=>q0vc j H
 have so:=fun H=>q0rx j.items w.n1 hf s.at_ c.to H
 have gs:=fun H=>q0s0 (sumT j.items s.at_ c.to) (roomC j s c) (lastC j.items c) H
 unfold q01x
 cases b:q01c j s with
 |false=>
  rw [b] at r
  simp [St.enter,q000,subs,q001,r,zeroF,zeroG]
 |true=>
  rw [b] at r
  have e:setC j s c=q0ea (sumT j.items s.at_ c.to) (roomC j s c) (lastC j.items c):=rfl
  rw [←e] at gs
  have hr:roomC j s c=IntKind.i64.wrap (IntKind.i64.wrap (highS j s-highP j.notes c.notes j.g.rule)-q06g j c):=rfl
  generalize setC j s c=G at*
  have hfu:fullC j c=(decide (0<c.notes.length)&&decide (j.g.noteMost<highP j.notes c.notes j.g.rule)):=rfl
  have hfl:q06g j c=if c.k=1 then highA j.g j.floats c.top c.bot else if c.k=2 then q08f j.g j.floats c.top else 0:=rfl
  generalize lastC j.items c=L at*
  generalize highA j.g j.floats c.top c.bot=A1 at*
  generalize q08f j.g j.floats c.top=A2 at*
  generalize sumT j.items s.at_ c.to=T at*
  generalize roomC j s c=R at*
  generalize highP j.notes c.notes j.g.rule=hp at*
  generalize highS j s=hs at*
  generalize q06g j c=F at*
  generalize fullC j c=U at*
  simp only [vJob,vGeom,cGeom,List.cons_append,List.nil_append] at pl ah as
  have hn:(0:Int)<c.notes.length↔0<c.notes.length:=by omega
  by_cases k1:c.k=1
  ·rw [if_pos k1] at hfl
   subst hfl
   simp only [vColm,k1] at la
   by_cases n0:0<c.notes.length
   ·simp only [n0,decide_true,Bool.true_and] at hfu
    by_cases q:j.g.noteMost<hp<;>simp only [q,decide_true,decide_false] at hfu<;>subst hfu<;>
     simp [St.enter,q000,subs,q001,fldvV,r,pl,sh,ah,hi,la,su,so,gs,k1,hn,n0,←hr,q]
   ·simp only [n0,decide_false,Bool.false_and] at hfu
    subst hfu
    simp [St.enter,q000,subs,q001,fldvV,r,pl,sh,ah,hi,la,su,so,gs,k1,hn,n0,←hr]
  ·rw [if_neg k1] at hfl
   by_cases k2:c.k=2
   ·rw [if_pos k2] at hfl
    subst hfl
    simp only [vColm,k2] at la
    by_cases n0:0<c.notes.length
    ·simp only [n0,decide_true,Bool.true_and] at hfu
     by_cases q:j.g.noteMost<hp<;>simp only [q,decide_true,decide_false] at hfu<;>subst hfu<;>
      simp [St.enter,q000,subs,q001,fldvV,r,pl,sh,as,hi,la,k1,k2,hn,n0,←hr,q,zeroG]
    ·simp only [n0,decide_false,Bool.false_and] at hfu
     subst hfu
     simp [St.enter,q000,subs,q001,fldvV,r,pl,sh,as,hi,la,k1,k2,hn,n0,←hr,zeroG]
   ·rw [if_neg k2] at hfl
    subst hfl
    rw [Int.sub_zero] at hr
    by_cases n0:0<c.notes.length
    ·simp only [n0,decide_true,Bool.true_and] at hfu
     by_cases q:j.g.noteMost<hp<;>simp only [q,decide_true,decide_false] at hfu<;>subst hfu<;>
      simp [St.enter,q000,subs,q001,fldvV,r,pl,sh,hi,la,k1,k2,hn,n0,←hr,q,zeroG]
    ·simp only [n0,decide_false,Bool.false_and] at hfu
     subst hfu
     simp [St.enter,q000,subs,q001,fldvV,r,pl,sh,hi,la,k1,k2,hn,n0,←hr,zeroG]
def forbX (x:Item):Bool:=decide (x.k=3)&&decide (10000≤x.n)
theorem q0yt (x:Item) (H:Heap):clD EE (.p (.fn 385)) [vItem x] H=some (vB (forbX x),none):=by
 rw [q002 _ _ _ _ _ _ (noP _) fn385]
 unfold forbX
 by_cases h:x.k=3<;>simp [St.enter,q000,subs,q001,h]
def mayV (l:List Item) (n:Int):Bool:=
 if n<1∨(l.length:Int)<n then false else match q033 l n with
  |none=>true
  |some x=>if x.k=2 then !q0kc (rd l (n-1)) else if x.k=3 then !forbX x else false
theorem q0yu (l:List Item) (hl:l.length≤1000000) (n:Int) (H:Heap):clD EE (.p (.fn 316)) [q007 l,vI n] H=some (vB (mayV l n),none):=by
 rw [q002 _ _ _ _ _ _ (noP _) fn316]
 have l2:=fun H=>q01r l H
 have l3:=fun H=>q07f l n H
 have f:=fun x H=>q0yt x H
 have lo:=fun x H=>q0vb x H
 unfold mayV
 by_cases c1:n<1
 ·cases h:q033 l n with
  |none=>rw [h] at l3;simp [St.enter,q000,subs,q001,l2,l3,c1]
  |some x=>rw [h] at l3;simp [St.enter,q000,subs,q001,l2,l3,c1]
 ·by_cases c2:(l.length:Int)<n
  ·cases h:q033 l n with
   |none=>rw [h] at l3;simp [St.enter,q000,subs,q001,l2,l3,c1,c2]
   |some x=>rw [h] at l3;simp [St.enter,q000,subs,q001,l2,l3,c1,c2]
  ·cases h:q033 l n with
   |none=>rw [h] at l3;simp [St.enter,q000,subs,q001,l2,l3,c1,c2]
   |some x=>
    rw [h] at l3
    have w:IntKind.i64.wrap (n-1)=n-1:=w64 (by omega) (by omega)
    have hx:=q03y l (n-1) (by omega) (by omega)
    have hix:=fun H k=>q04e H q006 (k:=k) (s:=7) (by omega) hx rfl
    simp only [q006] at hix
    by_cases k2:x.k=2
    ·simp only [q007] at l2 l3⊢
     simp [St.enter,q000,subs,q001,l2,l3,c1,c2,k2,w,hix,lo]
    ·by_cases k3:x.k=3
     ·have f1:=fun H=>f x H
      simp only [vItem,k3] at f1
      simp [St.enter,q000,subs,q001,l2,l3,c1,c2,k3,f1]
     ·simp [St.enter,q000,subs,q001,l2,l3,c1,c2,k2,k3]
end Go.EnvOf
namespace Go.EnvOf
open Go Go.Eng
set_option maxRecDepth 100000
def coFn (H:Heap):V:= .fn (.func 175) [.ptr H.length 0] []
@[simp] theorem q0Fo (H:Heap) (k:Nat):q00p (coFn H) k=true:=rfl
section
variable (j:Job) (w:okW j)
include w in
end
end Go.EnvOf
