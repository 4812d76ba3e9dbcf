/- The program's functions and the document's, evaluated. -/
import Derived.KernelRfl
import Derived.Test.YtpibjnnbploadaaGreatText2
import Derived.Test.YtpibjnnbploadaaGreatText5
import Derived.Test.YtpibjnnbploadaaGreatText4
import Derived.Test.YtpibjnnbploadaaGreatText3
set_option linter.unusedSimpArgs false
set_option linter.unusedVariables false
namespace Go.EnvOf
open Go Go.Eng
set_option maxRecDepth 100000
theorem q0ag {j:Job} (h:j.floats.length≤1000000):(snapG j).floats.length≤1000000:=by
 unfold snapG;split
 ·exact h
 ·simpa using h
def cnt (k:Int) (l:List Item):Nat:=(l.filter fun x=>decide (x.k=k)).length
theorem q0rl (k:Int) (x:Item) (r:List Item):cnt k (x::r)=(if x.k=k then 1 else 0)+cnt k r:=by
 unfold cnt
 by_cases h:x.k=k
 ·simp [h];omega
 ·simp [h]
theorem q0b5 (k:Int) (most:Nat): ∀(l:List Item) (i n:Nat),n≤most→refF k most i n l<0→n+cnt k l=most
 |[],i,n,hn,h=>by
  simp only [refF] at h
  by_cases c:n<most
  ·rw [if_pos c] at h;omega
  ·simp [cnt];omega
 |x::r,i,n,hn,h=>by
  simp only [refF] at h
  rw [q0rl]
  by_cases hk:x.k=k
  ·rw [if_pos hk] at h⊢
   by_cases hx:x.n=n∧n<most
   ·rw [if_pos hx] at h
    have:=q0b5 k most r (i+1) (n+1) (by omega) h
    omega
   ·rw [if_neg hx] at h;omega
  ·rw [if_neg hk] at h⊢
   have:=q0b5 k most r (i+1) n hn h
   omega
theorem q07o {α:Type} {p:α→Bool} {l:List α} (h:idxF p 0 l<0): ∀x∈l,p x=false:=by
 have:=q07i p 0 l
 have h2:l.any p=false:=by rw [←this];simp;omega
 intro x hx
 have:=List.any_eq_false.1 h2 x hx
 simpa using this
theorem q09r {α:Type} {p:α→Bool} {l:List α} (h: ∀x∈l,p x=false):idxF p 0 l<0:=by
 have:=q07i p 0 l
 have h2:l.any p=false:=by rw [List.any_eq_false];intro x hx;rw [h x hx];simp
 rw [h2] at this
 simp at this;exact this
structure Right (j:Job):Prop where
 n1:(j.items.length:Int)≤4096
 n2:(j.floats.length:Int)≤256
 n3:(j.notes.length:Int)≤512
 g:geomF j.g=0
 items: ∀x∈j.items,q00x x=true
 notes: ∀x∈j.notes,q01k x.lines x.pens=false
 floats: ∀x∈j.floats,q019 x=true
 r5:refF 5 j.notes.length 0 0 j.items<0
 r6:refF 6 j.floats.length 0 0 j.items<0
 tall: ∀f∈(snapG j).floats,¬(snapG j).g.first<f.h
theorem q0ed (j:Job):(q023 j).1=0↔Right j:=by
 rw [←q0ec]
 constructor
 ·intro h
  unfold q071 at h
  split at h
  ·cases h
  split at h
  ·cases h
  split at h
  ·cases h
  split at h
  ·rename_i hg;exact absurd h hg
  split at h
  ·cases h
  split at h
  ·cases h
  split at h
  ·cases h
  split at h
  ·cases h
  split at h
  ·cases h
  split at h
  ·cases h
  rename_i a1 a2 a3 a4 a5 a6 a7 a8 a9 a10
  refine ⟨by omega,by omega,by omega,by omega,fun x hx=> ?_,fun x hx=> ?_,fun x hx=> ?_,by omega,by omega,fun f hf=> ?_⟩
  ·simpa using q07o (p:=fun x=> !q00x x) (by omega) x hx
  ·exact q07o (p:=fun x:Note=>q01k x.lines x.pens) (by omega) x hx
  ·simpa using q07o (p:=fun x=> !q019 x) (by omega) x hx
  ·have:tallF j<0:=by omega
   simpa using q07o this f hf
 ·intro r
  have i1:=q09r (p:=fun x=> !q00x x) (l:=j.items) fun x hx=>by rw [r.items x hx];rfl
  have i2:=q09r (p:=fun x:Note=>q01k x.lines x.pens) (l:=j.notes) r.notes
  have i3:=q09r (p:=fun x=> !q019 x) (l:=j.floats) fun x hx=>by rw [r.floats x hx];rfl
  have i4:tallF j<0:=q09r fun f hf=>by simpa using r.tall f hf
  have a1:=r.n1
  have a2:=r.n2
  have a3:=r.n3
  have a4:=r.g
  have a5:=r.r5
  have a6:=r.r6
  unfold q071
  rw [if_neg (by omega),if_neg (by omega),if_neg (by omega),if_neg (by omega),if_neg (by omega),if_neg (by omega),if_neg (by omega),if_neg (by omega),if_neg (by omega),if_neg (by omega)]
structure Piece where
 n:Int
 frm:Int
 to:Int
 deriving Inhabited,DecidableEq
def q0rm (x:Piece):List PV:=[.int .i64 x.n,.int .i64 x.frm,.int .i64 x.to]
@[simp] theorem q0wt (x:Piece):(q0rm x).length=3:=rfl
def q033 (x:Item):Bool:=decide (x.k=2)||decide (x.k=3)
def stayB (l:List Item) (n:Nat):Bool:=match l[n]? with|some x=> !q033 x|none=>true
def seekP (p:Nat→Bool):Nat→Nat→Int
 |0,_=> -1
 |k+1,n=>if p n=true then n else seekP p k (n+1)
def trimN (l:List Item) (a:Nat):Nat:=a+((l.drop a).takeWhile q033).length
theorem q0ah {l:List Item} {a:Nat} {x:Item} (hx:l[a]? =some x) (h:q033 x=true):trimN l a=trimN l (a+1):=by
 obtain ⟨hl,rfl⟩:=List.getElem?_eq_some_iff.1 hx
 unfold trimN
 rw [List.drop_eq_getElem_cons hl,List.takeWhile_cons,if_pos h]
 simp only [List.length_cons];omega
theorem q07p {l:List Item} {a:Nat} (h:stayB l a=true):trimN l a=a:=by
 unfold trimN stayB at*
 cases hx:l[a]? with
 |none=>
  have:l.length≤a:=by simpa using hx
  rw [List.drop_eq_nil_of_le this];simp
 |some x=>
  rw [hx] at h
  obtain ⟨hl,rfl⟩:=List.getElem?_eq_some_iff.1 hx
  rw [List.drop_eq_getElem_cons hl,List.takeWhile_cons,if_neg (by simpa using h)]
  simp
theorem q0rn {l:List Item} {a:Nat} (h:stayB l a=false): ∃x,l[a]? =some x∧q033 x=true:=by
 unfold stayB at h
 cases hx:l[a]? with
 |none=>rw [hx] at h;simp at h
 |some x=>rw [hx] at h;exact ⟨x,rfl,by simpa using h⟩
theorem q0ee (l:List Item): ∀(k a:Nat),a≤l.length→l.length+1-a=k→seekP (stayB l) k a=trimN l a
 |0,a,h,hk=>by omega
 |k+1,a,h,hk=>by
  simp only [seekP]
  cases hs:stayB l a with
  |true=>rw [if_pos rfl,q07p hs]
  |false=>
   obtain ⟨x,hx,hl⟩:=q0rn hs
   have hlt:=(List.getElem?_eq_some_iff.1 hx).1
   rw [if_neg (by simp),q0ee l k (a+1) (by omega) (by omega),q0ah hx hl]
def putN (l:List Item) (n:Int):Nat:=(min (max n 0) l.length).toNat
theorem q09s (l:List Item) (n:Int):putN l n≤l.length:=by unfold putN;omega
theorem q0v2 {l:List Item} {n:Nat} (h:n≤l.length):putN l n=n:=by unfold putN;omega
def trimF (l:List Item) (n:Int):Nat:=trimN l (putN l n)
def q01b (l:List Item):Int:=cnt 5 l
def addAt (fs:List Float) (c:C3) (x:Item):C3:=if x.k=6 then ofS fs c x.n else c
def q00q (fs:List Float) (l:List Item):C3:=l.foldl (addAt fs) ⟨0,0,0⟩
def dueS (fs:List Float) (s:C3×C3) (x:Item):C3×C3:=(addAt fs s.1 x,if x.k=7 then s.1 else s.2)
def dueP (fs:List Float) (l:List Item):C3:=(l.foldl (dueS fs) (⟨0,0,0⟩,⟨0,0,0⟩)).2
theorem q0v3 (fs:List Float) (l:List Item): ∀s:C3×C3,(l.foldl (dueS fs) s).1=l.foldl (addAt fs) s.1:=by
 induction l with
 |nil=>intro s;rfl
 |cons x r ih=>intro s;simp only [List.foldl_cons,ih];rfl
theorem q099 {α:Type} {l:List α} {i:Nat} {x:α} (h:l[i]? =some x):l.take (i+1)=l.take i++[x]:=by rw [List.take_add_one,h];rfl
theorem q0iy (l:List Item) (x:Item):q01b (l++[x])=q01b l+if x.k=5 then 1 else 0:=by
 unfold q01b cnt
 by_cases h:x.k=5<;>simp [List.filter_append,h]
theorem q0iz (fs:List Float) (l:List Item) (x:Item):q00q fs (l++[x])=addAt fs (q00q fs l) x:=by simp [q00q]
theorem q0o9 (fs:List Float) (l:List Item) (x:Item):dueP fs (l++[x])=if x.k=7 then q00q fs l else dueP fs l:=by
 simp only [dueP,List.foldl_append,List.foldl_cons,List.foldl_nil,dueS,q0v3];rfl
theorem q0oa (l:List Item):0≤q01b l∧q01b l≤l.length:=by
 unfold q01b cnt
 have:=List.length_filter_le (fun x:Item=>decide (x.k=5)) l
 omega
theorem q0ro (fs:List Float) (c:C3) (x:Item) (m:Int) (h:0≤c.a∧0≤c.b∧0≤c.c∧c.a≤m∧c.b≤m∧c.c≤m):
  0≤(addAt fs c x).a∧0≤(addAt fs c x).b∧0≤(addAt fs c x).c∧(addAt fs c x).a≤m+1∧(addAt fs c x).b≤m+1∧(addAt fs c x).c≤m+1:=by
 unfold addAt ofS bump
 (repeat' split)<;>(try simp only)<;>omega
theorem q0ob (fs:List Float) (l:List Item):0≤(q00q fs l).a∧0≤(q00q fs l).b∧0≤(q00q fs l).c∧(q00q fs l).a≤l.length∧(q00q fs l).b≤l.length∧(q00q fs l).c≤l.length:=by
 have key: ∀(l:List Item) (c:C3) (m:Int),(0≤c.a∧0≤c.b∧0≤c.c∧c.a≤m∧c.b≤m∧c.c≤m)→
   0≤(l.foldl (addAt fs) c).a∧0≤(l.foldl (addAt fs) c).b∧0≤(l.foldl (addAt fs) c).c∧(l.foldl (addAt fs) c).a≤m+l.length∧(l.foldl (addAt fs) c).b≤m+l.length∧(l.foldl (addAt fs) c).c≤m+l.length:=by
  intro l
  induction l with
  |nil=>intro c m h;simpa using h
  |cons x r ih=>
   intro c m h
   have h1:=ih (addAt fs c x) (m+1) (q0ro fs c x m h)
   simp only [List.foldl_cons,List.length_cons]
   omega
 have:=key l ⟨0,0,0⟩ 0 (by simp)
 simpa [q00q] using this
def preL {α:Type} (f:List Item→α) (l:List Item) (n:Nat):List α:=(List.range n).map fun k=>f (l.take k)
theorem q03e {α:Type} (f:List Item→α) (l:List Item) (n:Nat):(preL f l n).length=n:=by simp [preL]
theorem q0oc {α:Type} (f:List Item→α) (l:List Item) (n:Nat):preL f l (n+1)=preL f l n++[f (l.take n)]:=by simp [preL,List.range_succ]
theorem q04p {α:Type} (f:List Item→α) (l:List Item) (n i:Nat) (h:i<n):(preL f l n)[i]? =some (f (l.take i)):=by simp [preL,h]
def lineN (l:List Note):Int:=(l.map fun n=>(n.lines.length:Int)).sum
def allS (j:Job):C3:=q00q j.floats j.items
structure Tot where
 nat:Int
 s0:Int
 s1:Int
 s2:Int
 s3:Int
 shr:Int
 deriving Inhabited,DecidableEq
def q01p (t:Tot):List PV:=[.int .i64 t.nat,.int .i64 t.s0,.int .i64 t.s1,.int .i64 t.s2,.int .i64 t.s3,.int .i64 t.shr]
@[simp] theorem q0Bl (t:Tot):(q01p t).length=6:=rfl
abbrev vTot (t:Tot):V:= .agg [vI t.nat,vI t.s0,vI t.s1,vI t.s2,vI t.s3,vI t.shr]
def zeroT:Tot:=⟨0,0,0,0,0,0⟩
def addT (a b:Tot):Tot:=⟨a.nat+b.nat,a.s0+b.s0,a.s1+b.s1,a.s2+b.s2,a.s3+b.s3,a.shr+b.shr⟩
def subT (a b:Tot):Tot:=⟨a.nat-b.nat,a.s0-b.s0,a.s1-b.s1,a.s2-b.s2,a.s3-b.s3,a.shr-b.shr⟩
def glueT (h str ord shr:Int):Tot:=⟨h,if ord=0 then str else 0,if ord=1 then str else 0,if ord=2 then str else 0,if ord=3 then str else 0,shr⟩
def totI (x:Item):Tot:=if x.k=1 then ⟨x.h,0,0,0,0,0⟩ else if x.k=2 then glueT x.h x.str x.ord x.shr else zeroT
def totP (l:List Item):Tot:=l.foldl (fun t x=>addT t (totI x)) zeroT
theorem q0ef (l:List Item) (x:Item):totP (l++[x])=addT (totP l) (totI x):=by simp [totP]
def boxI1 (x:Item):Int:=if x.k=1 then x.h else 0
def boxP (l:List Item):Int:=l.foldl (fun t x=>t+boxI1 x) 0
theorem q0od (l:List Item) (x:Item):boxP (l++[x])=boxP l+boxI1 x:=by simp [boxP]
structure inT (m:Int) (t:Tot):Prop where
 nat:0≤t.nat∧t.nat≤m
 s0:0≤t.s0∧t.s0≤m
 s1:0≤t.s1∧t.s1≤m
 s2:0≤t.s2∧t.s2≤m
 s3:0≤t.s3∧t.s3≤m
 shr:0≤t.shr∧t.shr≤m
theorem q0hm:inT 0 zeroT:=by constructor<;>simp [zeroT]
theorem q0k2 {m k:Int} {a b:Tot} (ha:inT m a) (hb:inT k b):inT (m+k) (addT a b):=by
 obtain ⟨⟨a1,a2⟩,⟨a3,a4⟩,⟨a5,a6⟩,⟨a7,a8⟩,⟨a9,b1⟩,⟨b2,b3⟩⟩:=ha
 obtain ⟨⟨c1,c2⟩,⟨c3,c4⟩,⟨c5,c6⟩,⟨c7,c8⟩,⟨c9,d1⟩,⟨d2,d3⟩⟩:=hb
 constructor<;>simp only [addT]<;>omega
structure fairI (x:Item):Prop where
 h:0≤x.h∧x.h≤4294967296
 str:0≤x.str∧x.str≤4294967296
 shr:0≤x.shr∧x.shr≤4294967296
theorem q09t {x:Item} (f:fairI x):inT 4294967296 (totI x):=by
 have a:=f.h
 have b:=f.str
 have c:=f.shr
 unfold totI
 split
 ·constructor<;>simp only<;>omega
 ·split
  ·unfold glueT;constructor<;>simp only<;>first|omega|(split<;>omega)
  ·constructor<;>simp [zeroT]
theorem q0dg: ∀(l:List Item),(∀x∈l,fairI x)→inT (4294967296*l.length) (totP l):=by
 have key: ∀(l:List Item) (t:Tot) (m:Int),inT m t→(∀x∈l,fairI x)→inT (m+4294967296*l.length) (l.foldl (fun t x=>addT t (totI x)) t):=by
  intro l
  induction l with
  |nil=>intro t m h _;simpa using h
  |cons x r ih=>
   intro t m h hf
   have h1:=ih _ _ (q0k2 h (q09t (hf x List.mem_cons_self))) fun y hy=>hf y (List.mem_cons_of_mem _ hy)
   simp only [List.foldl_cons,List.length_cons]
   have e:m+4294967296*((r.length+1:Nat):Int)=m+4294967296+4294967296*r.length:=by simp only [Int.natCast_add,Int.natCast_one];omega
   rw [e];exact h1
 intro l hf
 have:=key l zeroT 0 q0hm hf
 simpa [totP] using this
theorem q0rp {x:Item} (f:fairI x):0≤boxI1 x∧boxI1 x≤4294967296:=by
 have:=f.h
 unfold boxI1;split<;>omega
theorem q0k3: ∀(l:List Item),(∀x∈l,fairI x)→0≤boxP l∧boxP l≤4294967296*l.length:=by
 have key: ∀(l:List Item) (t m:Int),0≤t→t≤m→(∀x∈l,fairI x)→0≤l.foldl (fun t x=>t+boxI1 x) t∧l.foldl (fun t x=>t+boxI1 x) t≤m+4294967296*l.length:=by
  intro l
  induction l with
  |nil=>intro t m h h2 _;simp;omega
  |cons x r ih=>
   intro t m h h2 hf
   have hx:=q0rp (hf x List.mem_cons_self)
   have h1:=ih (t+boxI1 x) (m+4294967296) (by omega) (by omega) fun y hy=>hf y (List.mem_cons_of_mem _ hy)
   simp only [List.foldl_cons,List.length_cons]
   have e:m+4294967296*((r.length+1:Nat):Int)=m+4294967296+4294967296*r.length:=by simp only [Int.natCast_add,Int.natCast_one];omega
   rw [e];exact h1
 intro l hf
 have:=key l 0 0 (by omega) (by omega) hf
 simpa [boxP] using this
theorem q0lc {n s:Int} (h0:0≤n) (h1:n≤1073741823) (h2:s≤1073741823):0≤nearG n s∧nearG n s≤4294967296:=by
 unfold nearG
 split
 ·omega
 ·split
  ·exact q0l3 h0 h1 (by omega) h2
  ·exact q0h4 h0 h1 (by omega) h2
theorem q0cd {x:Item} (h:q00x x=true):fairI x:=by
 simp [q00x,Bool.and_eq_true,lenOK,decide_eq_true_eq] at h
 constructor<;>omega
theorem q0ld {x:Item} {s:Int} (h:q00x x=true) (h1:1≤s) (h2:s≤1073741823):fairI (itemG s x):=by
 have f:=q0cd h
 simp [q00x,Bool.and_eq_true,lenOK,decide_eq_true_eq] at h
 unfold itemG
 split
 ·exact ⟨q0h4 (by omega) (by omega) h1 h2,f.str,f.shr⟩
 ·split
  ·exact ⟨q0lc (by omega) (by omega) h2,by simp,by simp⟩
  ·exact f
theorem q0eg {g:Geom} (h:geomF g=0):0≤g.grid∧g.grid≤536870912∧1≤g.cols∧g.cols≤8∧1≤g.high∧g.high≤1073741823∧0≤g.rule∧g.rule≤536870912∧0≤g.sep∧g.sep≤536870912:=by
 unfold geomF at h
 by_cases q1:inR 1 8 [g.cols]=false
 ·rw [if_pos q1] at h;omega
 rw [if_neg q1] at h
 by_cases q2:inR 1 1073741823 [g.wide,g.high]=false
 ·rw [if_pos q2] at h;omega
 rw [if_neg q2] at h
 by_cases q3:inR 0 1073741823 [g.gap,g.noteMost,g.topMost,g.botMost]=false
 ·rw [if_pos q3] at h;omega
 rw [if_neg q3] at h
 by_cases q4:inR 0 536870912 [g.rule,g.sep,g.grid]=false
 ·rw [if_pos q4] at h;omega
 have a1:=q090 q1 g.cols (by simp)
 have a2:=q090 q2 g.high (by simp)
 have a3:=q090 q4 g.grid (by simp)
 have a4:=q090 q4 g.rule (by simp)
 have a5:=q090 q4 g.sep (by simp)
 omega
theorem q0eh {j:Job} (r:Right j): ∀x∈(snapG j).items,fairI x:=by
 have hg:=q0eg r.g
 unfold snapG
 split
 ·exact fun x hx=>q0cd (r.items x hx)
 ·intro x hx
  obtain ⟨y,hy,rfl⟩:=List.mem_map.1 hx
  exact q0ld (r.items y hy) (by omega) (by omega)
theorem q0rq (s:Int) (x:Item):(itemG s x).k=x.k:=by unfold itemG;(repeat' split)<;>rfl
theorem q0v4 (s:Int) (x:Item):(itemG s x).n=x.n:=by unfold itemG;(repeat' split)<;>rfl
theorem q0le (j:Job): ∃f:Item→Item,(snapG j).items=j.items.map f∧ ∀x,(f x).k=x.k∧(f x).n=x.n:=by
 unfold snapG
 split
 ·exact ⟨fun x=>x,by simp,fun x=>⟨rfl,rfl⟩⟩
 ·exact ⟨itemG j.g.grid,rfl,fun x=>⟨q0rq _ x,q0v4 _ x⟩⟩
theorem q0oe (j:Job):(snapG j).notes.length=j.notes.length:=by unfold snapG;split<;>simp
theorem q0of (j:Job):(snapG j).items.length=j.items.length:=by unfold snapG;split<;>simp
theorem q0og (j:Job):(snapG j).g.cols=j.g.cols:=by unfold snapG;split<;>rfl
theorem q0v5 (k:Int) (f:Item→Item) (hf: ∀x,(f x).k=x.k) (l:List Item):cnt k (l.map f)=cnt k l:=by
 unfold cnt
 induction l with
 |nil=>rfl
 |cons x r ih=>simp only [List.map_cons,List.filter_cons,hf];split<;>simp [ih]
theorem q0hn {H:Heap} {q:Nat} {cs:List V} (h:Eng.boxAt H q=some cs):q<H.length:=by
 unfold Eng.boxAt at h
 rcases Nat.lt_or_ge q H.length with g|g
 ·exact g
 ·rw [List.getElem?_eq_none g] at h;cases h
theorem q09a {α:Type} {E:Env} {ks kl:List Nat} {c:IC} (L:List α) (R:Nat→St→Prop) (F:Ex×St→Prop)
  (hk: ∀i S,R i S→S.keep ks kl=S)
  (hstep: ∀i x S,R i S→L[i]? =some x→ ∃S',evD E c S=some (.normal,S')∧R (i+1) S')
  (hend: ∀S,R L.length S→ ∃r,evD E c S=some r∧r.1≠ .normal∧F r):
  ∀(n i:Nat) S,L.length-i=n→R i S→i≤L.length→ ∃r,evD E (.loop ks kl c) S=some r∧F r
 |0,i,S,hn,hR,hi=>by
  have e:i=L.length:=by omega
  subst e
  obtain ⟨⟨x,S'⟩,h1,h2,h3⟩:=hend S hR
  refine ⟨(x,S'),?_,h3⟩
  rw [q008,hk _ _ hR,h1]
  cases x with
  |normal=>exact absurd rfl h2
  |_=>rfl
 |n+1,i,S,hn,hR,hi=>by
  have hlt:i<L.length:=by omega
  obtain ⟨S',h1,h2⟩:=hstep i _ S hR (List.getElem?_eq_getElem hlt)
  rw [q008,hk _ _ hR,h1,q06a]
  exact q09a L R F hk hstep hend n (i+1) S' (by omega) h2 hlt
theorem rd_of {α:Type} [Inhabited α] {l:List α} {i:Nat} {x:α} (h:l[i]? =some x):rd l i=x:=by
 unfold rd
 simp [List.getD,h]
def encC3 (c:C3):List PV:=[.int .i64 c.a,.int .i64 c.b,.int .i64 c.c]
@[simp] theorem q0G5 (c:C3):(encC3 c).length=3:=rfl
def q006 (l:List Item):V:= .eptr [q004 l] 0
def q00k (l:List Item):V:= .eptr [q004 l,.p (.sl ((preL totP l (l.length+1)).map q01p)),sli (preL boxP l (l.length+1))] 0
def vMapW (l:List Item) (fs:List Float):V:= .eptr [q004 l,sli (preL q01b l (l.length+1)),.p (.sl ((preL (q00q fs) l (l.length+1)).map encC3)),.p (.sl ((preL (dueP fs) l (l.length+1)).map encC3))] 0
def q00t (j:Job):V:= .eptr [q006 j.items,q00k j.items,vMapW j.items j.floats] 0
def preN (l:List Note):List Int:=(List.range (l.length+1)).map fun k=>lineN (l.take k)
abbrev cJobW (j:Job):List V:=cGeom j.g++[q004 j.items,q00j j.notes,q00g j.floats]
def vW (j:Job):V:= .eptr (q00t j::(cJobW j++[sli (preN j.notes),vI (allS j).a,vI (allS j).b,vI (allS j).c])) 0
section
variable (l:List Item)
@[simp] theorem q0wu (k:Nat):q00p (q006 l) k=true:=_root_.id rfl
@[simp] theorem q0Bm (k i:Nat):escV k i (q006 l)=(q006 l):=_root_.id rfl
@[simp] theorem q0yv:outL (q006 l)=(q006 l):=_root_.id rfl
@[simp] theorem q0yw:V.notL (q006 l)=true:=_root_.id rfl
@[simp] theorem q0yx:V.outB (q006 l)=true:=_root_.id rfl
@[simp] theorem q0yy:V.oneB (q006 l)=true:=_root_.id rfl
@[simp] theorem q0wv:V.cells (q006 l)=[(q006 l)] :=_root_.id rfl
@[simp] theorem q0ww:normA (q006 l)=(q006 l):=_root_.id rfl
@[simp] theorem q0wx:normC (q006 l)=(q006 l):=_root_.id rfl
@[simp] theorem q0wy:V.isNil .ptr (q006 l)=some false:=_root_.id rfl
@[simp] theorem q0vq:V.plainR (q006 l)=true:=_root_.id rfl
@[simp] theorem q0vr:V.plainB (q006 l)=true:=_root_.id rfl
@[simp] theorem q0Bn:solN sd (q006 l)=true:=_root_.id rfl
@[simp] theorem q0lf (b d:Nat) (H:Heap):q00r b H d (q006 l)=[] :=by cases d<;>rfl
@[simp] theorem q0yz (S:St):q012 S (q006 l)=[] :=q0lf _ _ _ _
@[simp] theorem q0G6 (S:St):Eng.freeze S (q006 l)=some (q006 l):=_root_.id rfl
@[simp] theorem q0Bo (S:St):Eng.freezeR S (q006 l)=some (q006 l):=_root_.id rfl
end
section
variable (l:List Item)
@[simp] theorem q0wz (k:Nat):q00p (q00k l) k=true:=_root_.id rfl
@[simp] theorem q0Bp (k i:Nat):escV k i (q00k l)=(q00k l):=_root_.id rfl
@[simp] theorem q0z0:outL (q00k l)=(q00k l):=_root_.id rfl
@[simp] theorem q0z1:V.notL (q00k l)=true:=_root_.id rfl
@[simp] theorem q0z2:V.outB (q00k l)=true:=_root_.id rfl
@[simp] theorem q0z3:V.oneB (q00k l)=true:=_root_.id rfl
@[simp] theorem q0x0:V.cells (q00k l)=[(q00k l)] :=_root_.id rfl
@[simp] theorem q0x1:normA (q00k l)=(q00k l):=_root_.id rfl
@[simp] theorem q0x2:normC (q00k l)=(q00k l):=_root_.id rfl
@[simp] theorem q0x3:V.isNil .ptr (q00k l)=some false:=_root_.id rfl
@[simp] theorem q0vs:V.plainR (q00k l)=true:=_root_.id rfl
@[simp] theorem q0vt:V.plainB (q00k l)=true:=_root_.id rfl
@[simp] theorem q0Bq:solN sd (q00k l)=true:=_root_.id rfl
@[simp] theorem q0lg (b d:Nat) (H:Heap):q00r b H d (q00k l)=[] :=by cases d<;>rfl
@[simp] theorem q0z4 (S:St):q012 S (q00k l)=[] :=q0lg _ _ _ _
@[simp] theorem q0G7 (S:St):Eng.freeze S (q00k l)=some (q00k l):=_root_.id rfl
@[simp] theorem q0Br (S:St):Eng.freezeR S (q00k l)=some (q00k l):=_root_.id rfl
end
section
variable (l:List Item) (fs:List Float)
@[simp] theorem q0z5 (k:Nat):q00p (vMapW l fs) k=true:=_root_.id rfl
@[simp] theorem q0G8 (k i:Nat):escV k i (vMapW l fs)=(vMapW l fs):=_root_.id rfl
@[simp] theorem q0Bs:outL (vMapW l fs)=(vMapW l fs):=_root_.id rfl
@[simp] theorem q0Bt:V.notL (vMapW l fs)=true:=_root_.id rfl
@[simp] theorem q0Bu:V.outB (vMapW l fs)=true:=_root_.id rfl
@[simp] theorem q0Bv:V.oneB (vMapW l fs)=true:=_root_.id rfl
@[simp] theorem q0z6:V.cells (vMapW l fs)=[(vMapW l fs)] :=_root_.id rfl
@[simp] theorem q0z7:normA (vMapW l fs)=(vMapW l fs):=_root_.id rfl
@[simp] theorem q0z8:normC (vMapW l fs)=(vMapW l fs):=_root_.id rfl
@[simp] theorem q0z9:V.isNil .ptr (vMapW l fs)=some false:=_root_.id rfl
@[simp] theorem q0x4:V.plainR (vMapW l fs)=true:=_root_.id rfl
@[simp] theorem q0x5:V.plainB (vMapW l fs)=true:=_root_.id rfl
@[simp] theorem q0G9:solN sd (vMapW l fs)=true:=_root_.id rfl
@[simp] theorem q0oh (b d:Nat) (H:Heap):q00r b H d (vMapW l fs)=[] :=by cases d<;>rfl
@[simp] theorem q0Bw (S:St):q012 S (vMapW l fs)=[] :=q0oh _ _ _ _ _
@[simp] theorem q0Jk (S:St):Eng.freeze S (vMapW l fs)=some (vMapW l fs):=_root_.id rfl
@[simp] theorem q0Ga (S:St):Eng.freezeR S (vMapW l fs)=some (vMapW l fs):=_root_.id rfl
end
section
variable (j:Job)
@[simp] theorem q0x6 (k:Nat):q00p (q00t j) k=true:=_root_.id rfl
@[simp] theorem q0Bx (k i:Nat):escV k i (q00t j)=(q00t j):=_root_.id rfl
@[simp] theorem q0za:outL (q00t j)=(q00t j):=_root_.id rfl
@[simp] theorem q0zb:V.notL (q00t j)=true:=_root_.id rfl
@[simp] theorem q0zc:V.outB (q00t j)=true:=_root_.id rfl
@[simp] theorem q0zd:V.oneB (q00t j)=true:=_root_.id rfl
@[simp] theorem q0x7:V.cells (q00t j)=[(q00t j)] :=_root_.id rfl
@[simp] theorem q0x8:normA (q00t j)=(q00t j):=_root_.id rfl
@[simp] theorem q0x9:normC (q00t j)=(q00t j):=_root_.id rfl
@[simp] theorem q0xa:V.isNil .ptr (q00t j)=some false:=_root_.id rfl
@[simp] theorem q0vu:V.plainR (q00t j)=true:=_root_.id rfl
@[simp] theorem q0vv:V.plainB (q00t j)=true:=_root_.id rfl
@[simp] theorem q0By:solN sd (q00t j)=true:=_root_.id rfl
@[simp] theorem q0lh (b d:Nat) (H:Heap):q00r b H d (q00t j)=[] :=by cases d<;>rfl
@[simp] theorem q0ze (S:St):q012 S (q00t j)=[] :=q0lh _ _ _ _
@[simp] theorem q0Gb (S:St):Eng.freeze S (q00t j)=some (q00t j):=_root_.id rfl
@[simp] theorem q0Bz (S:St):Eng.freezeR S (q00t j)=some (q00t j):=_root_.id rfl
end
section
variable (j:Job)
@[simp] theorem q0Jl (k:Nat):q00p (vW j) k=true:=_root_.id rfl
@[simp] theorem q0M3 (k i:Nat):escV k i (vW j)=(vW j):=_root_.id rfl
@[simp] theorem q0Le:outL (vW j)=(vW j):=_root_.id rfl
@[simp] theorem q0Lf:V.notL (vW j)=true:=_root_.id rfl
@[simp] theorem q0Lg:V.outB (vW j)=true:=_root_.id rfl
@[simp] theorem q0Lh:V.oneB (vW j)=true:=_root_.id rfl
@[simp] theorem q0Jm:V.cells (vW j)=[(vW j)] :=_root_.id rfl
@[simp] theorem q0Jn:normA (vW j)=(vW j):=_root_.id rfl
@[simp] theorem q0Jo:normC (vW j)=(vW j):=_root_.id rfl
@[simp] theorem q0Jp:V.isNil .ptr (vW j)=some false:=_root_.id rfl
@[simp] theorem q0Gc:V.plainR (vW j)=true:=_root_.id rfl
@[simp] theorem q0Gd:V.plainB (vW j)=true:=_root_.id rfl
@[simp] theorem q0M4:solN sd (vW j)=true:=_root_.id rfl
@[simp] theorem q0xb (b d:Nat) (H:Heap):q00r b H d (vW j)=[] :=by cases d<;>rfl
@[simp] theorem q0Li (S:St):q012 S (vW j)=[] :=q0xb _ _ _ _
@[simp] theorem vW_fz (S:St):Eng.freeze S (vW j)=some (vW j):=_root_.id rfl
@[simp] theorem q0M5 (S:St):Eng.freezeR S (vW j)=some (vW j):=_root_.id rfl
end
def q01c (l:List Item) (n:Int):Option Item:=if 0≤n∧n<l.length then some (rd l n) else none
theorem q04f (l:List Item) (n:Nat):q01c l n=l[n]? :=by
 unfold q01c
 by_cases h:n<l.length
 ·rw [if_pos ⟨by omega,by omega⟩,List.getElem?_eq_getElem h,rd_of (List.getElem?_eq_getElem h)]
 ·rw [if_neg (by omega),List.getElem?_eq_none (by omega)]
theorem q0oi (x:Item) (H:Heap):clD EE (.p (.fn 347)) [vItem x] H=some (vB (q033 x),none):=by
 rw [q002 _ _ _ _ _ _ (noP _) fn347]
 unfold q033
 by_cases h:x.k=2<;>simp [St.enter,q000,subs,q001,h]
theorem q01h (l:List Item) (H:Heap):clD EE (.p (.fn 82)) [q006 l] H=some (vI l.length,none):=by
 rw [q002 _ _ _ _ _ _ (noP _) fn82]
 simp [q006,St.enter,q000,subs,q001]
theorem q03f (l:List Item) (n:Int) (H:Heap):clD EE (.p (.fn 286)) [q006 l,vI n] H=some (.tup [match q01c l n with|some x=>vItem x|none=> .agg [vI 0,vI 0,vI 0,vI 0,vI 0,vI 0,vI 0],vB (q01c l n).isSome],none):=by
 rw [q002 _ _ _ _ _ _ (noP _) fn286]
 have hl:=fun H=>q01h l H
 unfold q01c
 simp only [q006] at hl⊢
 by_cases h1:n<0
 ·simp [St.enter,q000,subs,q001,h1,show¬0≤n by omega]
 ·by_cases h2:(l.length:Int)≤n
  ·simp [St.enter,q000,subs,q001,h1,h2,hl,show¬n<l.length by omega]
  ·have hx:=q028 l n (by omega) (by omega)
   have hix:=fun H k=>q02t H q003 (k:=k) (s:=7) (by omega) hx rfl
   simp [St.enter,q000,subs,q001,h1,h2,hl,show 0≤n∧n<l.length by omega,hix,q003]
theorem q0rr (l:List Item) (n:Nat) (H:Heap):clD EE (.p (.fn 218)) [q006 l,vI n] H=some (vB (stayB l n),none):=by
 rw [q002 _ _ _ _ _ _ (noP _) fn218]
 have h:=fun H=>q03f l n H
 rw [q04f] at h
 unfold stayB
 cases hx:l[n]? with
 |none=>
  simp only [hx] at h
  simp only [q006] at h⊢
  simp [St.enter,q000,subs,q001,h]
 |some x=>
  simp only [hx] at h
  have lo:=fun H=>q0oi x H
  simp only [q006] at h⊢
  simp [St.enter,q000,subs,q001,h,lo]
theorem q0v6 (l:List Item) (hv:V) (p:Nat→Bool) (hl:l.length≤1000000) (H:Heap) (hH: ∀n:Nat,n≤l.length→clD EE hv [vI n] H=some (vB (p n),none)): ∀(k n:Nat),n≤l.length+1→l.length+1-n=k→
  evD EE q06r ⟨[(0,q006 l),(2,hv),(7,vI n)],[],H,H.length,[]⟩=some (if seekP p k n= -1 then (.exit 0,⟨[(0,q006 l),(2,hv),(7,vI (l.length+1)),(12,vB false)],[],H,H.length,[]⟩) else (.ret,⟨[(6,vI (seekP p k n))],[],H,H.length,[]⟩)):=by
 intro k
 induction k with
 |zero=>
  intro n h1 h2
  have e:n=l.length+1:=by omega
  subst e
  have hle:=fun H=>q01h l H
  unfold q06r
  rw [q008]
  simp only [q006] at hle⊢
  simp [seekP,hle,show¬(l.length:Int)+1≤l.length by omega]
 |succ k ih=>
  intro n h1 h2
  have hle:=fun H=>q01h l H
  have c:(n:Int)≤l.length:=by omega
  have w:IntKind.i64.wrap ((n:Int)+1)=((n+1:Nat):Int):=w64 (by omega) (by omega)
  have hp:=hH n (by omega)
  simp only [seekP]
  by_cases hb:p n=true
  ·rw [hb] at hp
   have hne: ¬(n:Int)= -1:=by omega
   simp only [if_pos hb,if_neg hne]
   unfold q06r
   rw [q008]
   simp only [q006] at hle⊢
   simp [hle,c,hp]
  ·have hb':p n=false:=by simpa using hb
   rw [hb'] at hp
   have key:=ih (n+1) (by omega) (by omega)
   simp only [if_neg hb]
   rw [←key]
   conv=>lhs;unfold q06r
   rw [q008]
   simp only [q006] at hle⊢
   simp [hle,c,hp,w]
   rfl
theorem q0dh (l:List Item) (n:Nat) (hv:V) (p:Nat→Bool) (hl:l.length≤1000000) (H:Heap) (hH: ∀n:Nat,n≤l.length→clD EE hv [vI n] H=some (vB (p n),none)) (h1:n≤l.length+1) (ho:hv.outB=true) (hn:normA hv=hv):
  clD EE (.p (.fn 217)) [q006 l,vI n,hv] H=some (vI (seekP p (l.length+1-n) n),none):=by
 rw [q002 _ _ _ _ _ _ (noP _) fn217]
 have k:=q0v6 l hv p hl H hH _ n h1 rfl
 by_cases h:seekP p (l.length+1-n) n= -1
 ·rw [if_pos h] at k
  simp only [q006] at k⊢
  simp [St.enter,q000,k,h]
 ·rw [if_neg h] at k
  simp only [q006] at k⊢
  simp [St.enter,q000,k]
theorem q0k4 (l:List Item) (n:Int) (hl:l.length≤1000000) (H:Heap):clD EE (.p (.fn 87)) [q006 l,vI n] H=some (vI (trimF l n),none):=by
 rw [q002 _ _ _ _ _ _ (noP _) fn87]
 have hle:=fun H=>q01h l H
 have hk:min (max n 0) (l.length:Int)=(putN l n:Int):=by unfold putN;omega
 have hp:=q09s l n
 have s:=fun H=>q0dh l (putN l n) (.fn (.func 218) [q006 l] []) (stayB l) hl H (fun m _=>by rw [q020];exact q0rr l m H) (by omega) rfl rfl
 have e:=q0ee l _ (putN l n) hp rfl
 rw [e] at s
 unfold trimF
 simp only [q006] at hle s⊢
 simp [St.enter,q000,hle,hk,s]
section
variable (l:List Item) (fs:List Float) (hl:l.length≤1000000)
theorem q0rs (n:Int) (H:Heap):clD EE (.p (.fn 202)) [vMapW l fs,vI n] H=some (.tup [vI (putN l n),vB true],none):=by
 rw [q002 _ _ _ _ _ _ (noP _) fn202]
 have hk:min (max n 0) (l.length:Int)=(putN l n:Int):=by unfold putN;omega
 simp only [vMapW]
 simp [St.enter,q000,subs,q001,hk]
theorem q0rt (n:Int) (H:Heap):clD EE (.p (.fn 77)) [vMapW l fs,vI n] H=some (vC (q00q fs (l.take (putN l n))),none):=by
 rw [q002 _ _ _ _ _ _ (noP _) fn77]
 have hp:=fun H=>q0rs l fs n H
 have hn:=q09s l n
 have hx:=q04p (q00q fs) l (l.length+1) (putN l n) (by omega)
 have hix:=fun H k=>q00o H encC3 (k:=k) (s:=3) hx rfl
 simp only [vMapW] at hp⊢
 simp [St.enter,q000,subs,q001,hp,hix,encC3]
end
structure okW (j:Job):Prop where
 n1:j.items.length≤1000000
 n2:j.notes.length≤1000000
 n3:j.floats.length≤100000
 lines: ∀n∈j.notes,n.lines.length≤1000000
 cols:I64 j.g.cols∧j.g.cols≤1000
 refs:q01b j.items≤j.notes.length
section
variable (j:Job) (w:okW j)
theorem q0ru (H:Heap):clD EE (.p (.fn 100)) [vW j] H=some (vJob j,none):=by
 rw [q002 _ _ _ _ _ _ (noP _) fn100]
 simp only [vW,cJobW,cGeom,List.cons_append,List.nil_append]
 simp [St.enter,q000,subs,q001]
include w in
include w in
end
section
variable (j:Job) (w:okW j)
include w in
include w in
include w in
include w in
include w in
include w in
end
end Go.EnvOf
namespace Go.Eng
open Go
@[simp] theorem q0Lj (v:V):zR (some (v,none))=zV [] v:=rfl
@[simp] theorem q0Lk (v:V) (H:Heap):zR (some (v,some (H,[])))=zV H v:=rfl
@[simp] theorem q0C0:zR none=none:=rfl
@[simp] theorem q0M6 (H:Heap) (vs:List V):zV H (.tup vs)=(allO (solV H sd) vs).map .tup:=rfl
@[simp] theorem zV_p (H:Heap) (x:PV):zV H (.p x)=some (.p x):=rfl
@[simp] theorem q0Ll (H:Heap):zV H .nils=some (.p (.sl [])):=rfl
@[simp] theorem q0xc (H:Heap) (a b c d:Nat):zV H (.row a b c d)=(frz 0 H deep (.row a b c d)).map .p:=rfl
@[simp] theorem q0M7 (H:Heap) (id off:Nat):zV H (.ptr id off)=(Eng.boxAt H id).bind fun cs=>(allO (solV H 5) cs).map fun cs'=> .eptr cs' off:=rfl
@[simp] theorem q0M8 (H:Heap) (d:Nat) (x:PV):solV H d (.p x)=some (.p x):=by cases d<;>rfl
@[simp] theorem q0Ge (H:Heap) (d:Nat):solV H d .nils=some (.p (.sl [])):=by cases d<;>rfl
@[simp] theorem q0Jq (H:Heap) (d a b c e:Nat):solV H d (.row a b c e)=(frz 0 H deep (.row a b c e)).map .p:=by cases d<;>rfl
@[simp] theorem q0Gf (H:Heap) (id off:Nat):solV H sd (.ptr id off)=(Eng.boxAt H id).bind fun cs=>(allO (solV H 5) cs).map fun cs'=> .eptr cs' off:=rfl
@[simp] theorem q0C1 (H:Heap) (id off:Nat):solV H 6 (.ptr id off)=(Eng.boxAt H id).bind fun cs=>(allO (solV H 5) cs).map fun cs'=> .eptr cs' off:=rfl
@[simp] theorem q0Gg (H:Heap) (id off:Nat):solV H 5 (.ptr id off)=(Eng.boxAt H id).bind fun cs=>(allO (solV H 4) cs).map fun cs'=> .eptr cs' off:=rfl
@[simp] theorem q0C2 (a b:Nat):V.plainB (.ptr a b)=false:=rfl
@[simp] theorem q0C3 (a b:Nat):q05m (.ptr a b)=false:=rfl
theorem q03g {H:Heap} {id n s:Nat} {es:List (List PV)} (h:Eng.rowAt H id=some (s,upV es)) (hn:es.length=n):frz 0 H deep (.row id n 0 n)=some (.sl es):=by
 unfold deep
 rw [q09o,if_pos (Nat.zero_le _),h,q0ay,if_pos hn]
 simp [←hn]
end Go.Eng
namespace Go.EnvOf
open Go Go.Eng
set_option maxRecDepth 100000
@[simp] theorem q0vw (l:List Item):q05m (q00k l)=true:=rfl
@[simp] theorem q0Gh (j:Job):q05m (vW j)=true:=rfl
@[simp] theorem q0zf (H:Heap) (l:List Item):solV H 5 (q006 l)=some (q006 l):=rfl
@[simp] theorem q0zg (H:Heap) (j:Job):solV H 5 (q00t j)=some (q00t j):=rfl
@[simp] theorem q0xd (H:Heap) (l:List Item):solV H 4 (q006 l)=some (q006 l):=rfl
@[simp] theorem q0xe (H:Heap) (l:List Item):solV H 4 (q00k l)=some (q00k l):=rfl
@[simp] theorem q0zh (H:Heap) (l:List Item) (fs:List Float):solV H 4 (vMapW l fs)=some (vMapW l fs):=rfl
theorem q0ce {α:Type} (f:FuncId) (s:Nat) (z:List V) (enc:α→List PV) (hs: ∀x,(enc x).length=s) (hf:EE.fns f=some (q051 s z)) (l:List α) (hm:l.length<most) (hp:EE.prims f=none:=by exact noP _):
  zR (clD EE (.p (.fn f)) [.p (.sl (l.map enc))] [])=some (.p (.sl (l.map enc))):=by
 rw [q04e f s z [] enc hs hf l hm hp]
 cases l with
 |nil=>rfl
 |cons x r=>
  have h:Eng.rowAt ([]++[DObj.row s (upV ((x::r).map enc))]) 0=some (s,upV ((x::r).map enc)):=rfl
  show zV _ (.row 0 (x::r).length 0 (x::r).length)=_
  rw [q0xc,q03g h (by simp)]
  rfl
theorem q04g (l:List Item) (h:l.length≤1000000):zR (clD EE (.p (.fn 189)) [q004 l] [])=some (q004 l):=q0ce _ 7 _ q003 (fun _=>rfl) fn189 l (by unfold most;omega)
theorem q0f8 (l:List Float) (h:l.length≤1000000):zR (clD EE (.p (.fn 190)) [q00g l] [])=some (q00g l):=q0ce _ 3 _ q00a (fun _=>rfl) fn190 l (by unfold most;omega)
theorem q0li (l:List Int) (h:l.length≤1000000):zR (clD EE (.p (.fn 191)) [sli l] [])=some (sli l):=q0ce _ 1 _ encI (fun _=>rfl) fn191 l (by unfold most;omega)
theorem q0j0 (l:List Int) (h:l.length≤1000000):zR (clD EE (.p (.fn 192)) [sli l] [])=some (sli l):=q0ce _ 1 _ encI (fun _=>rfl) fn192 l (by unfold most;omega)
theorem q0lj (l:List Item) (h:l.length≤1000000):zR (clD EE (.p (.fn 75)) [q004 l] [])=some (q006 l):=by
 rw [q002 _ _ _ _ _ _ (noP _) fn75]
 have c:=q04g l h
 simp [St.enter,q000,subs,q001,solN,sd,c,allO,q006]
theorem q0rv (f:FuncId) (x y z:Int) (p q:Nat) (H:Heap) (hf:clD EE (.p (.fn f)) [vI x,vI y] H=some (resT (some z),none)) (h1:Eng.boxAt H p=some [.p (.fn f)]) (h2:Eng.boxAt H q=some [vB true]):
  clD EE (.p (.fn 412)) [vI x,vI y,.ptr p 0,.ptr q 0] H=some (vI z,some (H,[q])):=by
 rw [q002 _ _ _ _ _ _ (noP _) fn412]
 have hlt:=q0hn h2
 have e:H.set q (.box [vB true])=H:=by
  unfold Eng.boxAt at h2
  split at h2
  ·rename_i cs h3
   cases h2
   obtain ⟨h4,h5⟩:=List.getElem?_eq_some_iff.1 h3
   rw [←h5];exact List.set_getElem_self h4
  ·cases h2
 have a1:subs [V.p (PV.fn f)] 0 1=some [V.p (PV.fn f)]:=rfl
 have a2:subs [vB true] 0 1=some [vB true]:=rfl
 have a3:q001 [vB true] 0 [vB true]=some [vB true]:=rfl
 simp only [resT] at hf
 simp [St.enter,q000,h1,h2,a1,a2,a3,hf,e,hlt]
theorem q0k5 (f:FuncId) (a b c:Tot) (H:Heap) (hf: ∀(x y z:Int) (H:Heap),(x,y,z)∈[(a.nat,b.nat,c.nat),(a.s0,b.s0,c.s0),(a.s1,b.s1,c.s1),(a.s2,b.s2,c.s2),(a.s3,b.s3,c.s3),(a.shr,b.shr,c.shr)]→clD EE (.p (.fn f)) [vI x,vI y] H=some (resT (some z),none)):
  clD EE (.p (.fn 337)) [vTot a,vTot b,.p (.fn f)] H=some (.tup [vTot c,vB true],none):=by
 rw [q002 _ _ _ _ _ _ (noP _) fn337]
 have k: ∀x y z,(x,y,z)∈[(a.nat,b.nat,c.nat),(a.s0,b.s0,c.s0),(a.s1,b.s1,c.s1),(a.s2,b.s2,c.s2),(a.s3,b.s3,c.s3),(a.shr,b.shr,c.shr)]→clD EE (.fn (.func 412) [] [.ptr H.length 0,.ptr (H.length+1) 0]) [vI x,vI y] (H++[.box [.p (.fn f)],.box [vB true]])=some (vI z,some (H++[.box [.p (.fn f)],.box [vB true]],[H.length+1])):=by
  intro x y z hm
  rw [q020]
  exact q0rv f x y z H.length (H.length+1) _ (hf x y z _ hm) (by simp) (by simp)
 have k0:=k a.nat b.nat c.nat (by simp)
 have k1:=k a.s0 b.s0 c.s0 (by simp)
 have k2:=k a.s1 b.s1 c.s1 (by simp)
 have k3:=k a.s2 b.s2 c.s2 (by simp)
 have k4:=k a.s3 b.s3 c.s3 (by simp)
 have k5:=k a.shr b.shr c.shr (by simp)
 have w1:IntKind.i64.wrap 1=1:=by decide
 have w2:IntKind.i64.wrap 2=2:=by decide
 have w3:IntKind.i64.wrap 3=3:=by decide
 have w4:IntKind.i64.wrap 4=4:=by decide
 have ad:addD H.length (H.length+1) []=[]:=by unfold addD;rw [if_neg (by omega)]
 simp [St.enter,q000,subs,q001,k0,k1,k2,k3,k4,k5,q0js,q008,ixaV,q00b,w1,w2,w3,w4,ad]
structure inT64 (t:Tot):Prop where
 nat:I64 t.nat
 s0:I64 t.s0
 s1:I64 t.s1
 s2:I64 t.s2
 s3:I64 t.s3
 shr:I64 t.shr
theorem q03h {m:Int} {t:Tot} (h:inT m t) (hm:m≤9223372036854775807):inT64 t:=by
 obtain ⟨⟨a1,a2⟩,⟨a3,a4⟩,⟨a5,a6⟩,⟨a7,a8⟩,⟨a9,b1⟩,⟨b2,b3⟩⟩:=h
 constructor<;>constructor<;>omega
theorem q0v7 {a b:Int} (h:I64 (a+b)):addF a b=some (a+b):=by unfold addF;rw [if_pos h]
theorem q0v8 {a b:Int} (h:I64 (a-b)):subF a b=some (a-b):=by unfold subF;rw [if_pos h]
theorem q0oj (a b:Tot) (ha:inT64 a) (hb:inT64 b) (hc:inT64 (addT a b)) (H:Heap):clD EE (.p (.fn 200)) [vTot a,vTot b] H=some (.tup [vTot (addT a b),vB true],none):=by
 rw [q002 _ _ _ _ _ _ (noP _) fn200]
 have one: ∀(x y:Int) (H:Heap),I64 x→I64 y→I64 (x+y)→clD EE (.p (.fn 338)) [vI x,vI y] H=some (resT (some (x+y)),none):=by
  intro x y H hx hy hz
  rw [q0nj x y H hx hy,q0v7 hz]
 have h:=fun H=>q0k5 338 a b (addT a b) H (fun x y z H hm=>by
  simp only [List.mem_cons,Prod.mk.injEq,List.not_mem_nil,or_false] at hm
  rcases hm with ⟨rfl,rfl,rfl⟩|⟨rfl,rfl,rfl⟩|⟨rfl,rfl,rfl⟩|⟨rfl,rfl,rfl⟩|⟨rfl,rfl,rfl⟩|⟨rfl,rfl,rfl⟩
  ·exact one _ _ _ ha.nat hb.nat hc.nat
  ·exact one _ _ _ ha.s0 hb.s0 hc.s0
  ·exact one _ _ _ ha.s1 hb.s1 hc.s1
  ·exact one _ _ _ ha.s2 hb.s2 hc.s2
  ·exact one _ _ _ ha.s3 hb.s3 hc.s3
  ·exact one _ _ _ ha.shr hb.shr hc.shr)
 generalize addT a b=c at*
 simp [St.enter,q000,subs,q001,h]
theorem q0ok (h:Int) (H:Heap):clD EE (.p (.fn 334)) [vI h] H=some (vTot ⟨h,0,0,0,0,0⟩,none):=by
 rw [q002 _ _ _ _ _ _ (noP _) fn334]
 simp [St.enter,q000,subs,q001]
theorem q0lk (h str ord shr:Int) (H:Heap):clD EE (.p (.fn 335)) [vI h,vI str,vI ord,vI shr] H=some (vTot (glueT h str ord shr),none):=by
 rw [q002 _ _ _ _ _ _ (noP _) fn335]
 unfold glueT
 by_cases c0:ord=0
 ·simp [St.enter,q000,subs,q001,c0,ixaV,q00b]
 ·by_cases c1:ord=1
  ·simp [St.enter,q000,subs,q001,c1,ixaV,q00b]
  ·by_cases c2:ord=2
   ·simp [St.enter,q000,subs,q001,c2,ixaV,q00b]
   ·by_cases c3:ord=3
    ·simp [St.enter,q000,subs,q001,c3,ixaV,q00b]
    ·by_cases c4:ord<0
     ·simp [St.enter,q000,subs,q001,c0,c1,c2,c3,show¬0≤ord by omega]
     ·simp [St.enter,q000,subs,q001,c0,c1,c2,c3,show 0≤ord by omega,show¬ord<4 by omega]
theorem q0ho (x:Item) (H:Heap):clD EE (.p (.fn 198)) [vItem x] H=some (vTot (totI x),none):=by
 rw [q002 _ _ _ _ _ _ (noP _) fn198]
 have b:=fun H=>q0ok x.h H
 have g:=fun H=>q0lk x.h x.str x.ord x.shr H
 unfold totI
 by_cases k1:x.k=1
 ·simp [St.enter,q000,subs,q001,k1,b]
 ·by_cases k2:x.k=2
  ·simp only [k2,if_neg (show¬(2:Int)=1 by decide),if_true]
   generalize glueT x.h x.str x.ord x.shr=t at*
   simp [St.enter,q000,subs,q001,k2,g]
  ·simp [St.enter,q000,subs,q001,k1,k2,zeroT]
theorem q04q (n:Int) (H:Heap) (h:0≤n∧n≤4294967296):clD EE (.p (.fn 336)) [vI n] H=some (vB true,none):=by
 rw [q002 _ _ _ _ _ _ (noP _) fn336]
 simp [St.enter,q000,h.1,h.2]
theorem q0rw (t:Tot) (h:inT 4294967296 t) (H:Heap):clD EE (.p (.fn 199)) [vTot t] H=some (vB true,none):=by
 rw [q002 _ _ _ _ _ _ (noP _) fn199]
 have k0:=fun H=>q04q t.nat H h.nat
 have k1:=fun H=>q04q t.s0 H h.s0
 have k2:=fun H=>q04q t.s1 H h.s1
 have k3:=fun H=>q04q t.s2 H h.s2
 have k4:=fun H=>q04q t.s3 H h.s3
 have k5:=fun H=>q04q t.shr H h.shr
 have w1:IntKind.i64.wrap 1=1:=by decide
 have w2:IntKind.i64.wrap 2=2:=by decide
 have w3:IntKind.i64.wrap 3=3:=by decide
 have w4:IntKind.i64.wrap 4=4:=by decide
 simp [St.enter,q000,subs,q001,k0,k1,k2,k3,k4,k5,q0jp,q008,ixaV,q00b,w1,w2,w3,w4]
def q0cf (x:Item):Bool:=decide (x.k=2)||decide (x.k=3)
def q03q (x:Item):Bool:=decide (x.k=3)&&decide (x.n≤ -10000)
theorem q0rx (x:Item) (H:Heap):clD EE (.p (.fn 347)) [vItem x] H=some (vB (q0cf x),none):=by
 rw [q002 _ _ _ _ _ _ (noP _) fn347]
 unfold q0cf
 by_cases h:x.k=2<;>simp [St.enter,q000,subs,q001,h]
theorem q0ei (x:Item) (H:Heap):clD EE (.p (.fn 287)) [vItem x] H=some (vB (q03q x),none):=by
 rw [q002 _ _ _ _ _ _ (noP _) fn287]
 unfold q03q
 by_cases h:x.k=3<;>simp [St.enter,q000,subs,q001,h]
abbrev fz:Int:=1125899906842624
def hz (n:Int):Int:=min (max n 0) fz
abbrev Pr:Type:=List Int×List Int
def encP (p:Pr):List PV:=[.sl (p.1.map encI),.sl (p.2.map encI)]
@[simp] theorem q0Jr (x:Pr):(encP x).length=2:=rfl
theorem q04r (j:Job) (H:Heap):clD EE (.p (.fn 81)) [vW j] H=some (q006 j.items,none):=by
 rw [q002 _ _ _ _ _ _ (noP _) fn81]
 have p: ∀H,clD EE (.p (.fn 211)) [vW j] H=some (q00t j,none):=by
  intro H
  rw [q002 _ _ _ _ _ _ (noP _) fn211]
  simp [vW,St.enter,q000,subs,q001]
 have q: ∀H,clD EE (.p (.fn 212)) [q00t j] H=some (q006 j.items,none):=by
  intro H
  rw [q002 _ _ _ _ _ _ (noP _) fn212]
  simp [q00t,St.enter,q000,subs,q001]
 simp [St.enter,q000,p,q]
theorem q0ry (j:Job) (H:Heap):clD EE (.p (.fn 105)) [vW j] H=some (q00k j.items,none):=by
 rw [q002 _ _ _ _ _ _ (noP _) fn105]
 have p: ∀H,clD EE (.p (.fn 211)) [vW j] H=some (q00t j,none):=by
  intro H
  rw [q002 _ _ _ _ _ _ (noP _) fn211]
  simp [vW,St.enter,q000,subs,q001]
 have q: ∀H,clD EE (.p (.fn 235)) [q00t j] H=some (q00k j.items,none):=by
  intro H
  rw [q002 _ _ _ _ _ _ (noP _) fn235]
  simp [q00t,St.enter,q000,subs,q001]
 simp [St.enter,q000,p,q]
def sumT (l:List Item) (a b:Int):Tot:=if max a 0<min b l.length then subT (totP (l.take (min b l.length).toNat)) (totP (l.take (max a 0).toNat)) else zeroT
theorem q0ll (l:List Item) (H:Heap):clD EE (.p (.fn 359)) [q00k l] H=some (vI l.length,none):=by
 rw [q002 _ _ _ _ _ _ (noP _) fn359]
 simp [q00k,St.enter,q000,subs,q001]
theorem q0lm (l:List Item) (a b:Int) (H:Heap):clD EE (.p (.fn 236)) [q00k l,vI a,vI b] H=some (.tup [vI (max a 0),vI (min b l.length),vB (decide (max a 0<min b l.length))],none):=by
 rw [q002 _ _ _ _ _ _ (noP _) fn236]
 have h:=fun H=>q0ll l H
 simp [St.enter,q000,subs,q001,h]
theorem q0ol (a b:Tot) (ha:inT64 a) (hb:inT64 b) (hc:inT64 (subT a b)) (H:Heap):clD EE (.p (.fn 290)) [vTot a,vTot b] H=some (.tup [vTot (subT a b),vB true],none):=by
 rw [q002 _ _ _ _ _ _ (noP _) fn290]
 have one: ∀(x y:Int) (H:Heap),I64 x→I64 y→I64 (x-y)→clD EE (.p (.fn 376)) [vI x,vI y] H=some (resT (some (x-y)),none):=by
  intro x y H hx hy hz
  rw [q0nk x y H hx hy,q0v8 hz]
 have h:=fun H=>q0k5 376 a b (subT a b) H (fun x y z H hm=>by
  simp only [List.mem_cons,Prod.mk.injEq,List.not_mem_nil,or_false] at hm
  rcases hm with ⟨rfl,rfl,rfl⟩|⟨rfl,rfl,rfl⟩|⟨rfl,rfl,rfl⟩|⟨rfl,rfl,rfl⟩|⟨rfl,rfl,rfl⟩|⟨rfl,rfl,rfl⟩
  ·exact one _ _ _ ha.nat hb.nat hc.nat
  ·exact one _ _ _ ha.s0 hb.s0 hc.s0
  ·exact one _ _ _ ha.s1 hb.s1 hc.s1
  ·exact one _ _ _ ha.s2 hb.s2 hc.s2
  ·exact one _ _ _ ha.s3 hb.s3 hc.s3
  ·exact one _ _ _ ha.shr hb.shr hc.shr)
 generalize subT a b=c at*
 simp [St.enter,q000,subs,q001,h]
theorem q0v9 {m k:Int} {a b:Tot} (ha:inT m a) (hb:inT k b) (hm:m≤9223372036854775807) (hk:k≤9223372036854775807):inT64 (subT a b):=by
 obtain ⟨⟨a1,a2⟩,⟨a3,a4⟩,⟨a5,a6⟩,⟨a7,a8⟩,⟨a9,b1⟩,⟨b2,b3⟩⟩:=ha
 obtain ⟨⟨c1,c2⟩,⟨c3,c4⟩,⟨c5,c6⟩,⟨c7,c8⟩,⟨c9,d1⟩,⟨d2,d3⟩⟩:=hb
 constructor<;>constructor<;>simp only [subT]<;>omega
theorem q0hp (l:List Item) (hl:l.length≤1000000) (hf: ∀x∈l,fairI x) (n:Nat):inT 4294967296000000 (totP (l.take n)):=by
 have h:=q0dg (l.take n) (fun x hx=>hf x (List.mem_of_mem_take hx))
 have hn:(l.take n).length≤1000000:=by rw [List.length_take];omega
 have hm:4294967296*((l.take n).length:Int)≤4294967296000000:=by omega
 obtain ⟨⟨a1,a2⟩,⟨a3,a4⟩,⟨a5,a6⟩,⟨a7,a8⟩,⟨a9,b1⟩,⟨b2,b3⟩⟩:=h
 constructor<;>constructor<;>omega
theorem q0om (l:List Item) (hl:l.length≤1000000) (hf: ∀x∈l,fairI x) (a b:Int) (H:Heap):clD EE (.p (.fn 139)) [q00k l,vI a,vI b] H=some (vTot (sumT l a b),none):=by
 rw [q002 _ _ _ _ _ _ (noP _) fn139]
 have hw:=fun H=>q0lm l a b H
 unfold sumT
 by_cases c:max a 0<min b l.length
 ·have ha:(preL totP l (l.length+1))[(max a 0).toNat]? =some (totP (l.take (max a 0).toNat)):=q04p _ _ _ _ (by omega)
  have hb:(preL totP l (l.length+1))[(min b l.length).toNat]? =some (totP (l.take (min b l.length).toNat)):=q04p _ _ _ _ (by omega)
  have ia:=fun H k=>q02t H q01p (k:=k) (s:=6) (i:=max a 0) (by omega) ha rfl
  have ib:=fun H k=>q02t H q01p (k:=k) (s:=6) (i:=min b l.length) (by omega) hb rfl
  have i1:=q0hp l hl hf (min b l.length).toNat
  have i2:=q0hp l hl hf (max a 0).toNat
  have hs:=fun H=>q0ol _ _ (q03h i1 (by omega)) (q03h i2 (by omega)) (q0v9 i1 i2 (by omega) (by omega)) H
  rw [if_pos c]
  generalize totP (l.take (min b l.length).toNat)=t1 at*
  generalize totP (l.take (max a 0).toNat)=t2 at*
  generalize subT t1 t2=t3 at*
  generalize max a 0=a' at*
  generalize min b l.length=b' at*
  simp only [q01p] at ia ib
  simp only [q00k] at hw⊢
  simp [St.enter,q000,subs,q001,hw,c,ia,ib,hs]
 ·rw [if_neg c]
  simp [St.enter,q000,subs,q001,hw,c,zeroT]
structure Setg where
 how:Int
 ord:Int
 by_:Int
 of_:Int
 left:Int
 deriving Inhabited,DecidableEq
def zeroG:Setg:=⟨0,0,0,0,0⟩
abbrev vSet (s:Setg):V:= .agg [vI s.how,vI s.ord,vI s.by_,vI s.of_,vI s.left]
def fairL (n:Int):Bool:=decide (0≤n)&&decide (n≤1125899906842624)
def q02u (t:Tot):Bool:=fairL t.s0&&fairL t.s1&&fairL t.s2&&fairL t.s3&&fairL t.nat&&fairL t.shr
def q03s (t:Tot) (h:Int):Bool:=q02u t&&decide (-1125899906842624≤h)&&decide (h≤1125899906842624)
def ordT (t:Tot):Int:=if t.s3≠0 then 3 else if t.s2≠0 then 2 else if t.s1≠0 then 1 else 0
def strT (t:Tot) (o:Int):Int:=if o=3 then t.s3 else if o=2 then t.s2 else if o=1 then t.s1 else t.s0
def q04h (t:Tot) (h:Int) (last:Bool):Setg:=
 if q03s t h=true then
  if h-t.nat=0 then zeroG
  else if 0<h-t.nat∧0<strT t (ordT t)∧ ¬(last=true∧ordT t=0) then ⟨1,ordT t,h-t.nat,strT t (ordT t),0⟩
  else if 0<h-t.nat then ⟨0,0,0,0,h-t.nat⟩
  else if 0≤t.shr+(h-t.nat) then ⟨2,0,-(h-t.nat),t.shr,0⟩
  else ⟨3,0,t.shr,t.shr,t.shr+(h-t.nat)⟩
 else zeroG
theorem q0rz (n:Int) (H:Heap):clD EE (.p (.fn 231)) [vI n] H=some (vB (fairL n),none):=by
 rw [q002 _ _ _ _ _ _ (noP _) fn231]
 unfold fairL
 by_cases h:0≤n<;>simp [St.enter,q000,h]
theorem q0ln (t:Tot) (H:Heap):clD EE (.p (.fn 232)) [vTot t] H=some (vB (q02u t),none):=by
 rw [q002 _ _ _ _ _ _ (noP _) fn232]
 have f:=fun n H=>q0rz n H
 have w1:IntKind.i64.wrap 1=1:=by decide
 have w2:IntKind.i64.wrap 2=2:=by decide
 have w3:IntKind.i64.wrap 3=3:=by decide
 have w4:IntKind.i64.wrap 4=4:=by decide
 unfold q02u
 cases c0:fairL t.s0 with
 |false=>simp [St.enter,q000,subs,q001,f,q05d,q008,ixvV,ixaV,q00b,w1,w2,w3,w4,c0]
 |true=>
  cases c1:fairL t.s1 with
  |false=>simp [St.enter,q000,subs,q001,f,q05d,q008,ixvV,ixaV,q00b,w1,w2,w3,w4,c0,c1]
  |true=>
   cases c2:fairL t.s2 with
   |false=>simp [St.enter,q000,subs,q001,f,q05d,q008,ixvV,ixaV,q00b,w1,w2,w3,w4,c0,c1,c2]
   |true=>
    cases c3:fairL t.s3 with
    |false=>simp [St.enter,q000,subs,q001,f,q05d,q008,ixvV,ixaV,q00b,w1,w2,w3,w4,c0,c1,c2,c3]
    |true=>
     cases c4:fairL t.nat<;>simp [St.enter,q000,subs,q001,f,q05d,q008,ixvV,ixaV,q00b,w1,w2,w3,w4,c0,c1,c2,c3,c4]
theorem q0on (t:Tot) (h:Int) (H:Heap):clD EE (.p (.fn 288)) [vTot t,vI h] H=some (vB (q03s t h),none):=by
 rw [q002 _ _ _ _ _ _ (noP _) fn288]
 have f:=fun H=>q0ln t H
 unfold q03s
 cases c:q02u t with
 |false=>simp [St.enter,q000,subs,q001,f,c]
 |true=>by_cases d: -1125899906842624≤h<;>simp [St.enter,q000,subs,q001,f,c,d]
theorem q0va (t:Tot) (H:Heap):clD EE (.p (.fn 289)) [vTot t] H=some (vI (ordT t),none):=by
 rw [q002 _ _ _ _ _ _ (noP _) fn289]
 have w0:IntKind.i64.wrap 0=0:=by decide
 have w1:IntKind.i64.wrap 1=1:=by decide
 have w2:IntKind.i64.wrap 2=2:=by decide
 unfold ordT
 by_cases c3:t.s3=0
 ·by_cases c2:t.s2=0
  ·by_cases c1:t.s1=0
   ·simp [St.enter,q000,subs,q001,q06t,q008,ixaV,q00b,w0,w1,w2,c3,c2,c1]
   ·simp [St.enter,q000,subs,q001,q06t,q008,ixaV,q00b,w0,w1,w2,c3,c2,c1]
  ·simp [St.enter,q000,subs,q001,q06t,q008,ixaV,q00b,w0,w1,w2,c3,c2]
 ·simp [St.enter,q000,subs,q001,q06t,q008,ixaV,q00b,w0,w1,w2,c3]
theorem q0ej {t:Tot} {h:Int} (r:q03s t h=true):(0≤t.nat∧t.nat≤1125899906842624)∧(0≤t.shr∧t.shr≤1125899906842624)∧ -1125899906842624≤h∧h≤1125899906842624:=by
 unfold q03s q02u fairL at r
 simp at r
 omega
theorem q0oo (t:Tot) (h:Int) (last:Bool) (H:Heap):clD EE (.p (.fn 138)) [vTot t,vI h,vB last] H=some (vSet (q04h t h last),none):=by
 rw [q002 _ _ _ _ _ _ (noP _) fn138]
 have r:=fun H=>q0on t h H
 have o:=fun H=>q0va t H
 unfold q04h
 cases c:q03s t h with
 |false=>simp [St.enter,q000,subs,q001,r,c,zeroG]
 |true=>
  have bd:=q0ej c
  obtain ⟨need,hneed⟩: ∃n,h-t.nat=n:=⟨_,rfl⟩
  have w1:IntKind.i64.wrap (h-t.nat)=need:=by rw [hneed];exact w64 (by omega) (by omega)
  have w2:IntKind.i64.wrap (t.shr+need)=t.shr+need:=w64 (by omega) (by omega)
  have w3:IntKind.i64.wrap (-need)= -need:=w64 (by omega) (by omega)
  have ho:(ordT t=0∧strT t (ordT t)=t.s0)∨(ordT t=1∧strT t (ordT t)=t.s1)∨(ordT t=2∧strT t (ordT t)=t.s2)∨(ordT t=3∧strT t (ordT t)=t.s3):=by
   unfold ordT
   (repeat' split)<;>simp [strT]
  simp only [hneed]
  clear hneed bd
  generalize strT t (ordT t)=str at*
  generalize ordT t=od at*
  simp only [if_true]
  by_cases n0:need=0
  ·subst n0
   simp [St.enter,q000,subs,q001,r,c,o,w1,zeroG]
  ·by_cases n1:0<need
   ·rcases ho with ⟨rfl,rfl⟩|⟨rfl,rfl⟩|⟨rfl,rfl⟩|⟨rfl,rfl⟩
    ·by_cases s:0<t.s0
     ·cases last<;>simp [St.enter,q000,subs,q001,ixaV,q00b,r,c,o,w1,w2,n0,n1,s]
     ·simp [St.enter,q000,subs,q001,ixaV,q00b,r,c,o,w1,w2,n0,n1,s]
    ·by_cases s:0<t.s1
     ·cases last<;>simp [St.enter,q000,subs,q001,ixaV,q00b,r,c,o,w1,w2,n0,n1,s]
     ·simp [St.enter,q000,subs,q001,ixaV,q00b,r,c,o,w1,w2,n0,n1,s]
    ·by_cases s:0<t.s2
     ·cases last<;>simp [St.enter,q000,subs,q001,ixaV,q00b,r,c,o,w1,w2,n0,n1,s]
     ·simp [St.enter,q000,subs,q001,ixaV,q00b,r,c,o,w1,w2,n0,n1,s]
    ·by_cases s:0<t.s3
     ·cases last<;>simp [St.enter,q000,subs,q001,ixaV,q00b,r,c,o,w1,w2,n0,n1,s]
     ·simp [St.enter,q000,subs,q001,ixaV,q00b,r,c,o,w1,w2,n0,n1,s]
   ·by_cases n2:0≤t.shr+need
    ·simp [St.enter,q000,subs,q001,r,c,o,w1,w2,w3,n0,n1,n2]
    ·simp [St.enter,q000,subs,q001,r,c,o,w1,w2,n0,n1,n2]
def forbX (x:Item):Bool:=decide (x.k=3)&&decide (10000≤x.n)
theorem q0vb (x:Item) (H:Heap):clD EE (.p (.fn 385)) [vItem x] H=some (vB (forbX x),none):=by
 rw [q002 _ _ _ _ _ _ (noP _) fn385]
 unfold forbX
 by_cases h:x.k=3<;>simp [St.enter,q000,subs,q001,h]
def mayV (l:List Item) (n:Int):Bool:=
 if n<1∨(l.length:Int)<n then false else match q01c l n with
  |none=>true
  |some x=>if x.k=2 then !q0cf (rd l (n-1)) else if x.k=3 then !forbX x else false
theorem q0k6 (l:List Item) (hl:l.length≤1000000) (n:Int) (H:Heap):clD EE (.p (.fn 316)) [q006 l,vI n] H=some (vB (mayV l n),none):=by
 rw [q002 _ _ _ _ _ _ (noP _) fn316]
 have l2:=fun H=>q01h l H
 have l3:=fun H=>q03f l n H
 have f:=fun x H=>q0vb x H
 have lo:=fun x H=>q0rx x H
 unfold mayV
 by_cases c1:n<1
 ·cases h:q01c l n with
  |none=>rw [h] at l3;simp [St.enter,q000,subs,q001,l2,l3,c1]
  |some x=>rw [h] at l3;simp [St.enter,q000,subs,q001,l2,l3,c1]
 ·by_cases c2:(l.length:Int)<n
  ·cases h:q01c l n with
   |none=>rw [h] at l3;simp [St.enter,q000,subs,q001,l2,l3,c1,c2]
   |some x=>rw [h] at l3;simp [St.enter,q000,subs,q001,l2,l3,c1,c2]
  ·cases h:q01c l n with
   |none=>rw [h] at l3;simp [St.enter,q000,subs,q001,l2,l3,c1,c2]
   |some x=>
    rw [h] at l3
    have w:IntKind.i64.wrap (n-1)=n-1:=w64 (by omega) (by omega)
    have hx:=q028 l (n-1) (by omega) (by omega)
    have hix:=fun H k=>q02t H q003 (k:=k) (s:=7) (by omega) hx rfl
    simp only [q003] at hix
    by_cases k2:x.k=2
    ·simp only [q006] at l2 l3⊢
     simp [St.enter,q000,subs,q001,l2,l3,c1,c2,k2,w,hix,lo]
    ·by_cases k3:x.k=3
     ·have f1:=fun H=>f x H
      simp only [vItem,k3] at f1
      simp [St.enter,q000,subs,q001,l2,l3,c1,c2,k3,f1]
     ·simp [St.enter,q000,subs,q001,l2,l3,c1,c2,k2,k3]
def fwdB:List Item→Nat→Int
 |[],_=> -1
 |x::r,i=>if x.k=1 then i else fwdB r (i+1)
def bwdB (l:List Item):Nat→Int
 |0=> -1
 |n+1=>if (rd l (n:Int)).k=1 then n else bwdB l n
theorem q0hq (l:List Item) (hl:l.length≤1000000) (H:Heap) (B:Nat): ∀(n i:Nat),l.length-i=n→
  ∃env,evD EE q03m ⟨[(0,q006 l),(2,vI 1),(7,vI (-1)),(8,vI i)],[],H,B,[]⟩=some (.exit 0,⟨env,[],H,B,[]⟩)∧getE env 7=vI (fwdB (l.drop i) i)
 |0,i,hn=>by
  have l2:=fun H=>q01h l H
  have c: ¬i<l.length:=by omega
  refine ⟨[(0,q006 l),(2,vI 1),(7,vI (-1)),(8,vI i),(19,vB false)],?_,?_⟩
  ·unfold q03m
   rw [q008]
   simp [l2,c]
  ·rw [List.drop_eq_nil_of_le (by omega)];simp [fwdB]
 |n+1,i,hn=>by
  have l2:=fun H=>q01h l H
  have c:i<l.length:=by omega
  have l3:=fun H=>q03f l i H
  have hx:l[i]? =some l[i]:=List.getElem?_eq_getElem c
  rw [q04f,hx] at l3
  rw [List.drop_eq_getElem_cons c,fwdB]
  generalize l[i]=x at*
  have w:IntKind.i64.wrap ((i:Int)+1)=((i+1:Nat):Int):=w64 (by omega) (by omega)
  by_cases k:x.k=1
  ·refine ⟨[(7,vI i)],?_,by rw [if_pos k];simp⟩
   unfold q03m
   rw [q008]
   simp [l2,l3,c,k,subs,q001]
  ·obtain ⟨env,h1,h2⟩:=q0hq l hl H B n (i+1) (by omega)
   refine ⟨env,?_,by rw [if_neg k];exact h2⟩
   rw [←h1]
   conv=>lhs;unfold q03m
   rw [q008]
   simp [l2,l3,c,k,subs,q001,w]
   rfl
theorem q0hr (l:List Item) (hl:l.length≤1000000) (H:Heap) (B:Nat): ∀(n:Nat),n≤l.length→
  ∃env,evD EE q03m ⟨[(0,q006 l),(2,vI (-1)),(7,vI (-1)),(8,vI ((n:Int)-1))],[],H,B,[]⟩=some (.exit 0,⟨env,[],H,B,[]⟩)∧getE env 7=vI (bwdB l n)
 |0,hn=>by
  refine ⟨[(0,q006 l),(2,vI (-1)),(7,vI (-1)),(8,vI (-1)),(19,vB false)],?_,by simp [bwdB]⟩
  unfold q03m
  rw [q008]
  simp
 |n+1,hn=>by
  have l2:=fun H=>q01h l H
  have l3:=fun H=>q03f l n H
  have c:n<l.length:=by omega
  have hx:l[n]? =some l[n]:=List.getElem?_eq_getElem c
  have hr:rd l (n:Int)=l[n]:=by
   have:=q028 l (n:Int) (by omega) (by omega)
   simp at this
   rw [hx] at this;simpa using this.symm
  rw [q04f,hx] at l3
  rw [bwdB,hr]
  generalize l[n]=x at*
  have e:((n+1:Nat):Int)-1=n:=by omega
  rw [e]
  have w:IntKind.i64.wrap ((n:Int)+ -1)=(n:Int)-1:=w64 (by omega) (by omega)
  by_cases k:x.k=1
  ·refine ⟨[(7,vI n)],?_,by rw [if_pos k];simp⟩
   unfold q03m
   rw [q008]
   simp [l2,l3,c,k,subs,q001]
  ·obtain ⟨env,h1,h2⟩:=q0hr l hl H B n (by omega)
   refine ⟨env,?_,by rw [if_neg k];exact h2⟩
   rw [←h1]
   conv=>lhs;unfold q03m
   rw [q008]
   simp [l2,l3,c,k,subs,q001,w]
   rfl
def behL (l:List Item) (b:Int):Int:=fwdB (l.drop (max b 0).toNat) (max b 0).toNat
def ahL (l:List Item) (b:Int):Int:=if b<1 then-1 else bwdB l (min b l.length).toNat
theorem q0vc (l:List Item) (hl:l.length≤1000000) (b:Int) (H:Heap):clD EE (.p (.fn 388)) [q006 l,vI b] H=some (vI (behL l b),none):=by
 rw [q002 _ _ _ _ _ _ (noP _) fn388]
 have s: ∀H,clD EE (.p (.fn 435)) [q006 l,vI (max b 0),vI 1] H=some (vI (behL l b),none):=by
  intro H
  rw [q002 _ _ _ _ _ _ (noP _) fn435]
  obtain ⟨env,h1,h2⟩:=q0hq l hl H H.length _ (max b 0).toNat rfl
  have e:((max b 0).toNat:Int)=max b 0:=by omega
  rw [e] at h1
  simp [St.enter,q000,h1,h2,behL]
 simp [St.enter,q000,s]
theorem q0xf (l:List Item) (hl:l.length≤1000000) (b:Int) (H:Heap):clD EE (.p (.fn 387)) [q006 l,vI b] H=some (vI (ahL l b),none):=by
 rw [q002 _ _ _ _ _ _ (noP _) fn387]
 have l2:=fun H=>q01h l H
 unfold ahL
 by_cases c:b<1
 ·simp [St.enter,q000,c]
 ·have w:IntKind.i64.wrap (min b l.length-1)=min b l.length-1:=w64 (by omega) (by omega)
  have s: ∀H,clD EE (.p (.fn 435)) [q006 l,vI (min b l.length-1),vI (-1)] H=some (vI (bwdB l (min b l.length).toNat),none):=by
   intro H
   rw [q002 _ _ _ _ _ _ (noP _) fn435]
   obtain ⟨env,h1,h2⟩:=q0hr l hl H H.length (min b l.length).toNat (by omega)
   have e:((min b l.length).toNat:Int)=min b l.length:=by omega
   rw [e] at h1
   simp [St.enter,q000,h1,h2]
  simp [St.enter,q000,c,l2,w,s]
def isAt (l:List Item) (f:Int) (t:Int):Bool:=match q01c l t with|some x=>decide (x.f=f)|none=>false
theorem q0k7 (l:List Item) (f t:Int) (p q:Nat) (H:Heap) (h1:Eng.boxAt H p=some [q006 l]) (h2:Eng.boxAt H q=some [vI f]):clD EE (.fn (.func 434) [] [.ptr p 0,.ptr q 0]) [vI t] H=some (vB (isAt l f t),none):=by
 rw [q020,q002 _ _ _ _ _ _ (noP _) fn434]
 have l3:=fun H=>q03f l t H
 have e1:subs [q006 l] 0 1=some [q006 l]:=rfl
 unfold isAt
 cases h:q01c l t with
 |none=>rw [h] at l3;simp [St.enter,q000,subs,q001,h1,h2,l3]
 |some x=>rw [h] at l3;simp [St.enter,q000,subs,q001,h1,h2,l3]
theorem q0op (l:List Item) (f:Int) (H:Heap):clD EE (.p (.fn 386)) [q006 l,vI f] H=some (.fn (.func 434) [] [.ptr H.length 0,.ptr (H.length+1) 0],some (H++[.box [q006 l],.box [vI f]],[])):=by
 rw [q002 _ _ _ _ _ _ (noP _) fn386]
 simp [St.enter,q000,subs,q001]
theorem q0vd (l:List Item) (hl:l.length≤1000000) (b:Int) (H:Heap):clD EE (.p (.fn 317)) [q006 l,vI b] H=some (vB (isAt l 1 (ahL l b)),none):=by
 rw [q002 _ _ _ _ _ _ (noP _) fn317]
 have a:=fun H=>q0xf l hl b H
 have i:=fun H=>q0op l 1 H
 have k:=fun t=>q0k7 l 1 t H.length (H.length+1) (H++[.box [q006 l],.box [vI 1]]) (by simp) (by simp)
 simp [St.enter,q000,a,i,k]
theorem q0s0 (l:List Item) (hl:l.length≤1000000) (b:Int) (H:Heap):clD EE (.p (.fn 318)) [q006 l,vI b] H=some (vB (isAt l 2 (behL l b)),none):=by
 rw [q002 _ _ _ _ _ _ (noP _) fn318]
 have a:=fun H=>q0vc l hl b H
 have i:=fun H=>q0op l 2 H
 have k:=fun t=>q0k7 l 2 t H.length (H.length+1) (H++[.box [q006 l],.box [vI 2]]) (by simp) (by simp)
 simp [St.enter,q000,a,i,k]
def paraF (g:Geom) (l:List Item) (b:Int):Int:=
 match q01c l b with
 |none=>0
 |some x=>if mayV l b=false∨q03q x=true then 0 else
   let n:=if x.k=3 then max x.n 0 else 0
   let n:=if isAt l 1 (ahL l b)=true then IntKind.i64.wrap (n+max g.club 0) else n
   if isAt l 2 (behL l b)=true then IntKind.i64.wrap (n+max g.widow 0) else n
theorem q0s1 (g:Geom) (l:List Item) (hl:l.length≤1000000) (b:Int) (H:Heap):clD EE (.p (.fn 180)) [vGeom g,q006 l,vI b] H=some (vI (paraF g l b),none):=by
 rw [q002 _ _ _ _ _ _ (noP _) fn180]
 have l3:=fun H=>q03f l b H
 have m:=fun H=>q0k6 l hl b H
 have f:=fun x H=>q0ei x H
 have cl:=fun H=>q0vd l hl b H
 have wi:=fun H=>q0s0 l hl b H
 unfold paraF
 generalize isAt l 1 (ahL l b)=C at*
 generalize isAt l 2 (behL l b)=Wd at*
 cases h:q01c l b with
 |none=>rw [h] at l3;simp [St.enter,q000,subs,q001,l3]
 |some x=>
  rw [h] at l3
  cases q:mayV l b with
  |false=>rw [q] at m;simp [St.enter,q000,subs,q001,l3,m]
  |true=>
   rw [q] at m
   cases u:q03q x with
   |true=>
    have f1:=fun H=>f x H
    rw [u] at f1
    simp [St.enter,q000,subs,q001,l3,m,f1,u]
   |false=>
    have f1:=fun H=>f x H
    rw [u] at f1
    by_cases k3:x.k=3
    ·simp only [vItem,k3] at f1
     cases C<;>cases Wd<;>simp [St.enter,q000,subs,q001,l3,m,f1,k3,cl,wi,u]
    ·cases C<;>cases Wd<;>simp [St.enter,q000,subs,q001,l3,m,f1,k3,cl,wi,u]
def heldN (n:Int):Int:=min (max n 0) 1125899906842624
def addM (a b:Int):Int:=heldN (heldN a+heldN b)
theorem q03i (n:Int):0≤heldN n∧heldN n≤1125899906842624:=by unfold heldN;omega
theorem q0s2 (n:Int) (H:Heap):clD EE (.p (.fn 345)) [vI n] H=some (vI (heldN n),none):=by
 rw [q002 _ _ _ _ _ _ (noP _) fn345]
 unfold heldN
 simp [St.enter,q000]
theorem q0s3 (n:Int) (H:Heap):clD EE (.p (.fn 346)) [vI n] H=some (vI (heldN n),none):=by
 rw [q002 _ _ _ _ _ _ (noP _) fn346]
 unfold heldN
 simp [St.enter,q000]
theorem q0s4 (a b:Int) (H:Heap):clD EE (.p (.fn 215)) [vI a,vI b] H=some (vI (addM a b),none):=by
 rw [q002 _ _ _ _ _ _ (noP _) fn215]
 have h:=fun n H=>q0s2 n H
 have b1:=q03i a
 have b2:=q03i b
 have w:IntKind.i64.wrap (heldN a+heldN b)=heldN a+heldN b:=w64 (by omega) (by omega)
 unfold addM
 simp [St.enter,q000,h,w]
theorem q0s5 (a b:Int) (H:Heap):clD EE (.p (.fn 216)) [vI a,vI b] H=some (vI (addM a b),none):=by
 rw [q002 _ _ _ _ _ _ (noP _) fn216]
 have h:=fun n H=>q0s3 n H
 have b1:=q03i a
 have b2:=q03i b
 have w:IntKind.i64.wrap (heldN a+heldN b)=heldN a+heldN b:=w64 (by omega) (by omega)
 unfold addM
 simp [St.enter,q000,h,w]
abbrev vCost (o s:Int):V:= .agg [vI o,vI s]
theorem q0cg (a b c d:Int) (H:Heap):clD EE (.p (.fn 86)) [vCost a b,vCost c d] H=some (vCost (addM a c) (addM b d),none):=by
 rw [q002 _ _ _ _ _ _ (noP _) fn86]
 have h1:=fun H=>q0s4 a c H
 have h2:=fun H=>q0s5 b d H
 simp [St.enter,q000,subs,q001,h1,h2]
theorem q0oq (p:Nat) (o s a b:Int) (H:Heap) (h:Eng.boxAt H p=some [vI o,vI s]):clD EE (.p (.fn 175)) [.ptr p 0,vCost a b] H=some (.tup [],some (H.set p (.box [vI (addM o a),vI (addM s b)]),[p])):=by
 rw [q002 _ _ _ _ _ _ (noP _) fn175]
 have hlt:=q0hn h
 have k:=fun H=>q0cg o s a b H
 simp [St.enter,q000,subs,q001,h,k,hlt]
theorem q0lo (p:Nat) (o s:Int) (H:Heap) (h:Eng.boxAt H p=some [vI o,vI s]):clD EE (.p (.fn 177)) [.ptr p 0] H=some (vCost o s,none):=by
 rw [q002 _ _ _ _ _ _ (noP _) fn177]
 simp [St.enter,q000,subs,q001,h]
def coS (st:Int×Int) (_:Nat) (n:Int):Int×Int:=(addM st.1 0,addM st.2 n)
def q05z (over:Bool) (l:List Int):Int×Int:=fold coS (if over=true then (1,0) else (0,0)) 0 l
def coFn (H:Heap):V:= .fn (.func 175) [.ptr H.length 0] []
@[simp] theorem q0C4 (H:Heap) (k:Nat):q00p (coFn H) k=true:=rfl
theorem q0hs (K:Heap) (v:V) (H:Heap):clD EE (coFn K) [v] H=clD EE (.p (.fn 175)) [.ptr K.length 0,v] H:=by unfold coFn;rw [q020];rfl
def coE (H:Heap) (v:V) (n:Nat) (st:Int×Int) (i:Nat):St:=⟨[(4,.lptr 4 0),(5,.ptr H.length 0),(6,coFn H),(14,v),(15,vI n),(16,vI i)],[(4,[vI 0,vI 0])],H++[.box [vI st.1,vI st.2]],H.length,[]⟩
def coX (H:Heap) (v:V) (n:Nat) (st:Int×Int):Ex×St:=(.exit 0,⟨[(4,.lptr 4 0),(5,.ptr H.length 0),(6,coFn H),(14,v),(15,vI n),(16,vI n),(17,vB false)],[(4,[vI 0,vI 0])],H++[.box [vI st.1,vI st.2]],H.length,[]⟩)
end Go.EnvOf
namespace Go.EnvOf
open Go Go.Eng
set_option maxRecDepth 100000
def encC (x:C3):List PV:=[.int .i64 x.a,.int .i64 x.b,.int .i64 x.c]
@[simp] theorem q0Js (x:C3):(encC x).length=3:=rfl
def place (m s:C3):Int:=if s.c<m.c then 2 else if s.b<m.b then 1 else if s.a<m.a then 0 else-1
def left (m s:C3):Int:=1600*(m.a-s.a)+40*(m.b-s.b)+(m.c-s.c)
end Go.EnvOf
namespace Go.EnvOf
open Go Go.Eng
set_option maxRecDepth 100000
theorem q0ek (x:Item) (H:Heap):clD EE (.p (.fn 222)) [vItem x] H=some (vB (q033 x),none):=by
 rw [q002 _ _ _ _ _ _ (noP _) fn222]
 unfold q033
 by_cases h:x.k=2<;>simp [St.enter,q000,subs,q001,h]
theorem q0s6 (l:List Item) (hl:l.length≤1000000) (H:Heap) (B:Nat): ∀(k a:Nat),a≤l.length→l.length-a=k→
  evD EE q08s ⟨[(0,q004 l),(5,vI a)],[],H,B,[]⟩=some (.exit 0,⟨[(0,q004 l),(5,vI (trimN l a)),(21,vB false)],[],H,B,[]⟩):=by
 intro k
 induction k with
 |zero=>
  intro a h1 h2
  have e:a=l.length:=by omega
  subst e
  have ht:trimN l l.length=l.length:=q07p (by unfold stayB;rw [List.getElem?_eq_none (Nat.le_refl _)])
  unfold q08s
  rw [q008]
  simp [ht]
 |succ k ih=>
  intro a h1 h2
  have hlt:a<l.length:=by omega
  have hx:l[a]? =some l[a]:=List.getElem?_eq_getElem hlt
  have hix:=fun H k=>q00o H q003 (k:=k) (s:=7) hx rfl
  have w:IntKind.i64.wrap ((a:Int)+1)=((a+1:Nat):Int):=w64 (by omega) (by omega)
  have lo:=fun H=>q0ek l[a] H
  generalize l[a]=x at*
  by_cases hb:q033 x=true
  ·have ht:=q0ah hx hb
   have key:=ih (a+1) (by omega) (by omega)
   rw [ht,←key]
   conv=>lhs;unfold q08s
   rw [q008]
   simp [hlt,hix,q003,subs,lo,hb,w]
   rfl
  ·have ht:trimN l a=a:=q07p (by unfold stayB;rw [hx];simpa using hb)
   have hb':q033 x=false:=by simpa using hb
   rw [ht]
   unfold q08s
   rw [q008]
   simp [hlt,hix,q003,subs,lo,hb']
theorem q0b6 (l:List Item) (n:Int) (hl:l.length≤1000000) (H:Heap):clD EE (.p (.fn 90)) [q004 l,vI n] H=some (vI (trimF l n),none):=by
 rw [q002 _ _ _ _ _ _ (noP _) fn90]
 have hk:max 0 (min n (l.length:Int))=(putN l n:Int):=by unfold putN;omega
 have k:=q0s6 l hl H H.length _ (putN l n) (q09s l n) rfl
 unfold trimF
 simp [St.enter,q000,hk,k]
section
variable (j:Job) (w:okW j)
include w in
end
end Go.EnvOf
