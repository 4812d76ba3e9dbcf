/- The program's functions and the document's, evaluated. -/
import Derived.Test.YthghkndmgdiaoaaGreatText3
import Derived.Test.YthghkndmgdiaoaaGreatText4
import Derived.Test.YthghkndmgdiaoaaGreatText5
import Derived.Test.YthghkndmgdiaoaaGreatText2
set_option linter.unusedSimpArgs false
set_option linter.unusedVariables false
namespace Go.EnvOf
open Go Go.Eng
set_option maxRecDepth 100000
theorem q09l {n s:Int} (h0:0<=n) (h1:n<=1073741823) (hs:1<=s) (h2:s<=1073741823):0<=upG n s/\upG n s<=4294967296:=by
 have a:=Int.emod_nonneg n (show s≠0 by omega)
 have b:=Int.emod_lt_of_pos n (show 0<s by omega)
 unfold upG upF
 rw [if_neg (by omega)]
 split
 ·simp only [orN];omega
 ·unfold addF
  split<;>simp only [orN]<;>omega
theorem q09m {n s:Int} (h0:0<=n) (h1:n<=1073741823) (hs:1<=s) (h2:s<=1073741823):0<=downG n s/\downG n s<=4294967296:=by
 have a:=Int.emod_nonneg n (show s≠0 by omega)
 have b:=Int.emod_lt_of_pos n (show 0<s by omega)
 have c1:0<=s*(n/s):=Int.mul_nonneg (by omega) (Int.ediv_nonneg h0 (by omega))
 have c2:=Int.emod_add_mul_ediv n s
 unfold downG downF
 rw [if_neg (by omega)]
 unfold subF
 split<;>simp only [orN]<;>omega
theorem q04b {lo hi:Int} {l:List Int} (h: ¬inR lo hi l=false): ∀x∈l,lo<=x/\x<=hi:=by
 intro x hx
 have h1:inR lo hi l=true:=by simpa using h
 unfold inR at h1
 have h2:(l.any fun x=>decide (x<lo)||decide (hi<x))=false:=by simpa using h1
 have:=List.any_eq_false.1 h2 x hx
 simp at this
 omega
structure Tot where
 nat:Int
 s0:Int
 s1:Int
 s2:Int
 s3:Int
 shr:Int
 deriving Inhabited,DecidableEq
def q020 (t:Tot):List PV:=[.int .i64 t.nat,.int .i64 t.s0,.int .i64 t.s1,.int .i64 t.s2,.int .i64 t.s3,.int .i64 t.shr]
@[simp] theorem q0Iv (t:Tot):(q020 t).length=6:=rfl
abbrev vTot (t:Tot):V:= .agg [vI t.nat,vI t.s0,vI t.s1,vI t.s2,vI t.s3,vI t.shr]
def zeroT:Tot:=⟨0,0,0,0,0,0⟩
def addT (a b:Tot):Tot:=⟨a.nat+b.nat,a.s0+b.s0,a.s1+b.s1,a.s2+b.s2,a.s3+b.s3,a.shr+b.shr⟩
def subT (a b:Tot):Tot:=⟨a.nat-b.nat,a.s0-b.s0,a.s1-b.s1,a.s2-b.s2,a.s3-b.s3,a.shr-b.shr⟩
def glueT (h str ord shr:Int):Tot:=⟨h,if ord=0 then str else 0,if ord=1 then str else 0,if ord=2 then str else 0,if ord=3 then str else 0,shr⟩
def totI (x:Item):Tot:=if x.k=1 then ⟨x.h,0,0,0,0,0⟩ else if x.k=2 then glueT x.h x.str x.ord x.shr else zeroT
def totP (l:List Item):Tot:=l.foldl (fun t x=>addT t (totI x)) zeroT
theorem q0iy (l:List Item) (x:Item):totP (l++[x])=addT (totP l) (totI x):=by simp [totP]
def boxI1 (x:Item):Int:=if x.k=1 then x.h else 0
def boxP (l:List Item):Int:=l.foldl (fun t x=>t+boxI1 x) 0
theorem q0v2 (l:List Item) (x:Item):boxP (l++[x])=boxP l+boxI1 x:=by simp [boxP]
structure inT (m:Int) (t:Tot):Prop where
 nat:0<=t.nat/\t.nat<=m
 s0:0<=t.s0/\t.s0<=m
 s1:0<=t.s1/\t.s1<=m
 s2:0<=t.s2/\t.s2<=m
 s3:0<=t.s3/\t.s3<=m
 shr:0<=t.shr/\t.shr<=m
theorem q0mw:inT 0 zeroT:=by constructor<;>simp [zeroT]
theorem q0po {m k:Int} {a b:Tot} (ha:inT m a) (hb:inT k b):inT (m+k) (addT a b):=by
 obtain ⟨⟨a1,a2⟩,⟨a3,a4⟩,⟨a5,a6⟩,⟨a7,a8⟩,⟨a9,b1⟩,⟨b2,b3⟩⟩:=ha
 obtain ⟨⟨c1,c2⟩,⟨c3,c4⟩,⟨c5,c6⟩,⟨c7,c8⟩,⟨c9,d1⟩,⟨d2,d3⟩⟩:=hb
 constructor<;>simp only [addT]<;>omega
structure fairI (x:Item):Prop where
 h:0<=x.h/\x.h<=4294967296
 str:0<=x.str/\x.str<=4294967296
 shr:0<=x.shr/\x.shr<=4294967296
theorem q0ch {x:Item} (f:fairI x):inT 4294967296 (totI x):=by
 have a:=f.h
 have b:=f.str
 have c:=f.shr
 unfold totI
 split
 ·constructor<;>simp only<;>omega
 ·split
  ·unfold glueT;constructor<;>simp only<;>first|omega|(split<;>omega)
  ·constructor<;>simp [zeroT]
theorem q0hb: ∀(l:List Item),(∀x∈l,fairI x)->inT (4294967296*l.length) (totP l):=by
 have key: ∀(l:List Item) (t:Tot) (m:Int),inT m t->(∀x∈l,fairI x)->inT (m+4294967296*l.length) (l.foldl (fun t x=>addT t (totI x)) t):=by
  intro l
  induction l with
  |nil=>intro t m h _;simpa using h
  |cons x r ih=>
   intro t m h hf
   have h1:=ih _ _ (q0po h (q0ch (hf x ZE))) fun y hy=>hf y (Zv _ hy)
   simp only [ZT,Zg]
   have e:m+4294967296*((r.length+1:Nat):Int)=m+4294967296+4294967296*r.length:=by simp only [Int.natCast_add,Int.natCast_one];omega
   rw [e];exact h1
 intro l hf
 have:=key l zeroT 0 q0mw hf
 simpa [totP] using this
theorem q0yt {x:Item} (f:fairI x):0<=boxI1 x/\boxI1 x<=4294967296:=by
 have:=f.h
 unfold boxI1;split<;>omega
theorem q0pp: ∀(l:List Item),(∀x∈l,fairI x)->0<=boxP l/\boxP l<=4294967296*l.length:=by
 have key: ∀(l:List Item) (t m:Int),0<=t->t<=m->(∀x∈l,fairI x)->0<=l.foldl (fun t x=>t+boxI1 x) t/\l.foldl (fun t x=>t+boxI1 x) t<=m+4294967296*l.length:=by
  intro l
  induction l with
  |nil=>intro t m h h2 _;simp;omega
  |cons x r ih=>
   intro t m h h2 hf
   have hx:=q0yt (hf x ZE)
   have h1:=ih (t+boxI1 x) (m+4294967296) (by omega) (by omega) fun y hy=>hf y (Zv _ hy)
   simp only [ZT,Zg]
   have e:m+4294967296*((r.length+1:Nat):Int)=m+4294967296+4294967296*r.length:=by simp only [Int.natCast_add,Int.natCast_one];omega
   rw [e];exact h1
 intro l hf
 have:=key l 0 0 (by omega) (by omega) hf
 simpa [boxP] using this
theorem q0rd {n s:Int} (h0:0<=n) (h1:n<=1073741823) (h2:s<=1073741823):0<=nearG n s/\nearG n s<=4294967296:=by
 unfold nearG
 split
 ·omega
 ·split
  ·exact q09m h0 h1 (by omega) h2
  ·exact q09l h0 h1 (by omega) h2
theorem q0fi {x:Item} (h:q016 x=true):fairI x:=by
 simp [q016,Zb,lenOK,decide_eq_true_eq] at h
 constructor<;>omega
theorem q0re {x:Item} {s:Int} (h:q016 x=true) (h1:1<=s) (h2:s<=1073741823):fairI (itemG s x):=by
 have f:=q0fi h
 simp [q016,Zb,lenOK,decide_eq_true_eq] at h
 unfold itemG
 split
 ·exact ⟨q09l (by omega) (by omega) h1 h2,f.str,f.shr⟩
 ·split
  ·exact ⟨q0rd (by omega) (by omega) h2,by simp,by simp⟩
  ·exact f
theorem q0bp {g:Geom} (h:geomF g=0):0<=g.grid/\g.grid<=536870912/\1<=g.cols/\g.cols<=8/\1<=g.high/\g.high<=1073741823/\0<=g.rule/\g.rule<=536870912/\0<=g.sep/\g.sep<=536870912:=by
 unfold geomF at h
 by_cases q1:inR 1 8 [g.cols]=false
 ·rw [if_pos q1] at h;omega
 rw [if_neg q1] at h
 by_cases q2:inR 1 1073741823 [g.wide,g.high]=false
 ·rw [if_pos q2] at h;omega
 rw [if_neg q2] at h
 by_cases q3:inR 0 1073741823 [g.gap,g.noteMost,g.topMost,g.botMost]=false
 ·rw [if_pos q3] at h;omega
 rw [if_neg q3] at h
 by_cases q4:inR 0 536870912 [g.rule,g.sep,g.grid]=false
 ·rw [if_pos q4] at h;omega
 have a1:=q04b q1 g.cols (by simp)
 have a2:=q04b q2 g.high (by simp)
 have a3:=q04b q4 g.grid (by simp)
 have a4:=q04b q4 g.rule (by simp)
 have a5:=q04b q4 g.sep (by simp)
 omega
theorem q0iz {j:Job} (r:Right j): ∀x∈(snapG j).items,fairI x:=by
 have hg:=q0bp r.g
 unfold snapG
 split
 ·exact fun x hx=>q0fi (r.items x hx)
 ·intro x hx
  obtain ⟨y,hy,rfl⟩:=ZJ.1 hx
  exact q0re (r.items y hy) (by omega) (by omega)
structure Colm where
 k:Int
 frm:Int
 to:Int
 notes:List Piece
 top:List Int
 bot:List Int
 deriving Inhabited,DecidableEq
abbrev vColm (c:Colm):V:= .agg [vI c.k,vI c.frm,vI c.to,q00v c.notes,sli c.top,sli c.bot]
def zeroS:Stt:=⟨0,0,0,0,⟨0,0,0⟩⟩
def nextS (j:Job) (s:Stt) (c:Colm):Stt:=
 if q01g j s=true then ⟨if c.k=1 then trimF j.items c.to else s.at_,min (s.col+1) j.g.cols,(nextF j.notes (spotS j s c.to) c.notes).1,(nextF j.notes (spotS j s c.to) c.notes).2,addC (addC s.h (ofL j.floats c.top)) (ofL j.floats c.bot)⟩ else zeroS
theorem q0yu (s:Int) (x:Item):(itemG s x).k=x.k:=by unfold itemG;(repeat' split)<;>rfl
theorem q0Cg (s:Int) (x:Item):(itemG s x).n=x.n:=by unfold itemG;(repeat' split)<;>rfl
theorem q0fj (j:Job): ∃f:Item->Item,(snapG j).items=j.items.map f/\ ∀x,(f x).k=x.k/\(f x).n=x.n:=by
 unfold snapG
 split
 ·exact ⟨fun x=>x,by simp,fun x=>⟨rfl,rfl⟩⟩
 ·exact ⟨itemG j.g.grid,rfl,fun x=>⟨q0yu _ x,q0Cg _ x⟩⟩
theorem q0j0 (j:Job):(snapG j).notes.length=j.notes.length:=by unfold snapG;split<;>simp
theorem q0v3 (j:Job):(snapG j).floats.length=j.floats.length:=by unfold snapG;split<;>simp
theorem q0v4 (j:Job):(snapG j).items.length=j.items.length:=by unfold snapG;split<;>simp
theorem q0j1 (j:Job):(snapG j).g.cols=j.g.cols:=by unfold snapG;split<;>rfl
theorem q10x {k:Int} {l:List Item} (h: ∀x∈l,x.k≠k):cnt k l=0:=by
 unfold cnt
 rw [ZU,List.filter_eq_nil_iff]
 intro x hx;simpa using h x hx
theorem q0pq (k:Int) (f:Item->Item) (hf: ∀x,(f x).k=x.k) (l:List Item):cnt k (l.map f)=cnt k l:=by
 unfold cnt
 induction l with
 |nil=>rfl
 |cons x r ih=>simp only [Zo,List.filter_cons,hf];split<;>simp [ih]
theorem q0Yv {α:Type} (p:α->Bool) (l:List α):l.take (l.takeWhile p).length=l.takeWhile p:=(List.prefix_iff_eq_take.1 (List.takeWhile_prefix p)).symm
theorem q0Y4 {α:Type} {p:α->Bool}: ∀ {l:List α} {x:α},x∈l.takeWhile p->p x=true
 |y::r,x,h=>by
  rw [List.takeWhile_cons] at h
  split at h
  ·rename_i hy
   rcases ZI.1 h with rfl|h
   ·exact hy
   ·exact q0Y4 h
  ·cases h
def hpOf (H:Heap):Option (Heap×List Nat)->Heap
 |none=>H
 |some x=>x.1
def dsOf:Option (Heap×List Nat)->List Nat
 |none=>[]
 |some x=>x.2
theorem q121 (env:List (Nat×V)) (loc:List (Nat×List V)) (hp:Heap) (base:Nat) (dirty:List Nat) (d:Option Nat) (v:V) (r:Option (Heap×List Nat)) (hv:v.notL=true):callR ⟨env,loc,hp,base,dirty⟩ false d (some (v,r))=some (St.put ⟨env,loc,hpOf hp r,base,(dsOf r).foldr (addD base) dirty⟩ d v):=by
 cases r with
 |none=>simp only [callR,hpOf,dsOf,hv];simp
 |some x=>obtain ⟨H,ds⟩:=x;simp only [callR,hpOf,dsOf,hv];simp
theorem q02y {H:Heap} {q:Nat} {cs:List V} (h:Eng.boxAt H q=some cs):q<H.length:=by
 unfold Eng.boxAt at h
 rcases Z2 q H.length with g|g
 ·exact g
 ·rw [ZF g] at h;cases h
theorem q0yv {B i x:Nat} {d:List Nat} (h:x∈d):x∈addD B i d:=by
 unfold addD
 split
 ·exact Zv _ h
 ·exact h
theorem q0v5 {B x:Nat} {d:List Nat} (h:x<B):x∈addD B x d:=by
 unfold addD
 rw [if_pos h]
 exact ZE
theorem q09u {B x:Nat}: ∀ {ds d:List Nat},x∈ds->x<B->x∈ds.foldr (addD B) d
 |y::ds,d,h,hx=>by
  rcases ZI.1 h with rfl|h
  ·exact q0v5 hx
  ·exact q0yv (q09u h hx)
theorem q06d {B x:Nat}: ∀ {ds d:List Nat},x∈ds.foldr (addD B) d->x∈ds\/x∈d
 |[],_,h=> .inr h
 |y::ds,d,h=>by
  simp only [List.foldr_cons,addD] at h
  split at h
  ·rcases ZI.1 h with rfl|h
   ·exact .inl ZE
   ·rcases q06d h with h|h
    ·exact .inl (Zv _ h)
    ·exact .inr h
  ·rcases q06d h with h|h
   ·exact .inl (Zv _ h)
   ·exact .inr h
theorem q0j2 {α:Type} {E:Env} {ks kl:List Nat} {c:IC} (L:List α) (R:Nat->St->Prop) (F:Ex×St->Prop)
  (hk: ∀i S,R i S->S.keep ks kl=S)
  (hstep: ∀i x S,R i S->L[i]? =some x-> ∃S',evD E c S=some (.normal,S')/\R (i+1) S')
  (hend: ∀S,R L.length S-> ∃r,evD E c S=some r/\r.1≠ .normal/\F r):
  ∀(n i:Nat) S,L.length-i=n->R i S->i<=L.length-> ∃r,evD E (.loop ks kl c) S=some r/\F r
 |0,i,S,hn,hR,hi=>by
  have e:i=L.length:=by omega
  subst e
  obtain ⟨⟨x,S'⟩,h1,h2,h3⟩:=hend S hR
  refine ⟨(x,S'),?_,h3⟩
  rw [q003,hk _ _ hR,h1]
  cases x with
  |normal=>exact absurd rfl h2
  |_=>rfl
 |n+1,i,S,hn,hR,hi=>by
  have hlt:i<L.length:=by omega
  obtain ⟨S',h1,h2⟩:=hstep i _ S hR (Zl hlt)
  rw [q003,hk _ _ hR,h1,q061]
  exact q0j2 L R F hk hstep hend n (i+1) S' (by omega) h2 hlt
theorem rd_of {α:Type} [Inhabited α] {l:List α} {i:Nat} {x:α} (h:l[i]? =some x):rd l i=x:=by
 unfold rd
 simp [List.getD,h]
def encC3 (c:C3):List PV:=[.int .i64 c.a,.int .i64 c.b,.int .i64 c.c]
@[simp] theorem q0Nh (c:C3):(encC3 c).length=3:=rfl
def q00d (l:List Item):V:= .eptr [q006 l] 0
def q00r (l:List Item):V:= .eptr [q006 l,.p (.sl ((preL totP l (l.length+1)).map q020)),sli (preL boxP l (l.length+1))] 0
def vMapW (l:List Item) (fs:List Float):V:= .eptr [q006 l,sli (preL q01a l (l.length+1)),.p (.sl ((preL (q00n fs) l (l.length+1)).map encC3)),.p (.sl ((preL (dueP fs) l (l.length+1)).map encC3))] 0
def q00o (j:Job):V:= .eptr [q00d j.items,q00r j.items,vMapW j.items j.floats] 0
def preN (l:List Note):List Int:=(List.range (l.length+1)).map fun k=>lineN (l.take k)
abbrev cJobW (j:Job):List V:=cGeom j.g++[q006 j.items,q00b j.notes,q005 j.floats]
def vW (j:Job):V:= .eptr (q00o j::(cJobW j++[sli (preN j.notes),vI (allS j).a,vI (allS j).b,vI (allS j).c])) 0
section
variable (l:List Item)
@[simp] theorem q0E8 (k:Nat):q00s (q00d l) k=true:=_root_.id rfl
@[simp] theorem q0Iw (k i:Nat):escV k i (q00d l)=(q00d l):=_root_.id rfl
@[simp] theorem q0G6:outL (q00d l)=(q00d l):=_root_.id rfl
@[simp] theorem q0G7:V.notL (q00d l)=true:=_root_.id rfl
@[simp] theorem q0G8:V.outB (q00d l)=true:=_root_.id rfl
@[simp] theorem q0G9:V.oneB (q00d l)=true:=_root_.id rfl
@[simp] theorem q0E9:V.cells (q00d l)=[(q00d l)] :=_root_.id rfl
@[simp] theorem q0Ea:normA (q00d l)=(q00d l):=_root_.id rfl
@[simp] theorem q0Eb:normC (q00d l)=(q00d l):=_root_.id rfl
@[simp] theorem q0Ec:V.isNil .ptr (q00d l)=some false:=_root_.id rfl
@[simp] theorem q0D0:V.plainR (q00d l)=true:=_root_.id rfl
@[simp] theorem q0D1:V.plainB (q00d l)=true:=_root_.id rfl
@[simp] theorem q0Ix:solN sd (q00d l)=true:=_root_.id rfl
@[simp] theorem q0rf (b d:Nat) (H:Heap):q00w b H d (q00d l)=[] :=by cases d<;>rfl
@[simp] theorem q0Ga (S:St):q01d S (q00d l)=[] :=q0rf _ _ _ _
@[simp] theorem q0Ni (S:St):Eng.freeze S (q00d l)=some (q00d l):=_root_.id rfl
@[simp] theorem q0Iy (S:St):Eng.freezeR S (q00d l)=some (q00d l):=_root_.id rfl
end
section
variable (l:List Item)
@[simp] theorem q0Ed (k:Nat):q00s (q00r l) k=true:=_root_.id rfl
@[simp] theorem q0Iz (k i:Nat):escV k i (q00r l)=(q00r l):=_root_.id rfl
@[simp] theorem q0Gb:outL (q00r l)=(q00r l):=_root_.id rfl
@[simp] theorem q0Gc:V.notL (q00r l)=true:=_root_.id rfl
@[simp] theorem q0Gd:V.outB (q00r l)=true:=_root_.id rfl
@[simp] theorem q0Ge:V.oneB (q00r l)=true:=_root_.id rfl
@[simp] theorem q0Ee:V.cells (q00r l)=[(q00r l)] :=_root_.id rfl
@[simp] theorem q0Ef:normA (q00r l)=(q00r l):=_root_.id rfl
@[simp] theorem q0Eg:normC (q00r l)=(q00r l):=_root_.id rfl
@[simp] theorem q0Eh:V.isNil .ptr (q00r l)=some false:=_root_.id rfl
@[simp] theorem q0D2:V.plainR (q00r l)=true:=_root_.id rfl
@[simp] theorem q0D3:V.plainB (q00r l)=true:=_root_.id rfl
@[simp] theorem q0J0:solN sd (q00r l)=true:=_root_.id rfl
@[simp] theorem q0rg (b d:Nat) (H:Heap):q00w b H d (q00r l)=[] :=by cases d<;>rfl
@[simp] theorem q0Gf (S:St):q01d S (q00r l)=[] :=q0rg _ _ _ _
@[simp] theorem q0Nj (S:St):Eng.freeze S (q00r l)=some (q00r l):=_root_.id rfl
@[simp] theorem q0J1 (S:St):Eng.freezeR S (q00r l)=some (q00r l):=_root_.id rfl
end
section
variable (l:List Item) (fs:List Float)
@[simp] theorem q0Gg (k:Nat):q00s (vMapW l fs) k=true:=_root_.id rfl
@[simp] theorem q0Nk (k i:Nat):escV k i (vMapW l fs)=(vMapW l fs):=_root_.id rfl
@[simp] theorem q0J2:outL (vMapW l fs)=(vMapW l fs):=_root_.id rfl
@[simp] theorem q0J3:V.notL (vMapW l fs)=true:=_root_.id rfl
@[simp] theorem q0J4:V.outB (vMapW l fs)=true:=_root_.id rfl
@[simp] theorem q0J5:V.oneB (vMapW l fs)=true:=_root_.id rfl
@[simp] theorem q0Gh:V.cells (vMapW l fs)=[(vMapW l fs)] :=_root_.id rfl
@[simp] theorem q0Gi:normA (vMapW l fs)=(vMapW l fs):=_root_.id rfl
@[simp] theorem q0Gj:normC (vMapW l fs)=(vMapW l fs):=_root_.id rfl
@[simp] theorem q0Gk:V.isNil .ptr (vMapW l fs)=some false:=_root_.id rfl
@[simp] theorem q0Ei:V.plainR (vMapW l fs)=true:=_root_.id rfl
@[simp] theorem q0Ej:V.plainB (vMapW l fs)=true:=_root_.id rfl
@[simp] theorem q0Nl:solN sd (vMapW l fs)=true:=_root_.id rfl
@[simp] theorem q0v6 (b d:Nat) (H:Heap):q00w b H d (vMapW l fs)=[] :=by cases d<;>rfl
@[simp] theorem q0J6 (S:St):q01d S (vMapW l fs)=[] :=q0v6 _ _ _ _ _
@[simp] theorem q0R2 (S:St):Eng.freeze S (vMapW l fs)=some (vMapW l fs):=_root_.id rfl
@[simp] theorem q0Nm (S:St):Eng.freezeR S (vMapW l fs)=some (vMapW l fs):=_root_.id rfl
end
section
variable (j:Job)
@[simp] theorem q0Ek (k:Nat):q00s (q00o j) k=true:=_root_.id rfl
@[simp] theorem q0J7 (k i:Nat):escV k i (q00o j)=(q00o j):=_root_.id rfl
@[simp] theorem q0Gl:outL (q00o j)=(q00o j):=_root_.id rfl
@[simp] theorem q0Gm:V.notL (q00o j)=true:=_root_.id rfl
@[simp] theorem q0Gn:V.outB (q00o j)=true:=_root_.id rfl
@[simp] theorem q0Go:V.oneB (q00o j)=true:=_root_.id rfl
@[simp] theorem q0El:V.cells (q00o j)=[(q00o j)] :=_root_.id rfl
@[simp] theorem q0Em:normA (q00o j)=(q00o j):=_root_.id rfl
@[simp] theorem q0En:normC (q00o j)=(q00o j):=_root_.id rfl
@[simp] theorem q0Eo:V.isNil .ptr (q00o j)=some false:=_root_.id rfl
@[simp] theorem q0D4:V.plainR (q00o j)=true:=_root_.id rfl
@[simp] theorem q0D5:V.plainB (q00o j)=true:=_root_.id rfl
@[simp] theorem q0J8:solN sd (q00o j)=true:=_root_.id rfl
@[simp] theorem q0rh (b d:Nat) (H:Heap):q00w b H d (q00o j)=[] :=by cases d<;>rfl
@[simp] theorem q0Gp (S:St):q01d S (q00o j)=[] :=q0rh _ _ _ _
@[simp] theorem q0Nn (S:St):Eng.freeze S (q00o j)=some (q00o j):=_root_.id rfl
@[simp] theorem q0J9 (S:St):Eng.freezeR S (q00o j)=some (q00o j):=_root_.id rfl
end
section
variable (j:Job)
@[simp] theorem q0R3 (k:Nat):q00s (vW j) k=true:=_root_.id rfl
@[simp] theorem q0Ti (k i:Nat):escV k i (vW j)=(vW j):=_root_.id rfl
@[simp] theorem q0Sv:outL (vW j)=(vW j):=_root_.id rfl
@[simp] theorem q0Sw:V.notL (vW j)=true:=_root_.id rfl
@[simp] theorem q0Sx:V.outB (vW j)=true:=_root_.id rfl
@[simp] theorem q0Sy:V.oneB (vW j)=true:=_root_.id rfl
@[simp] theorem q0R4:V.cells (vW j)=[(vW j)] :=_root_.id rfl
@[simp] theorem q0R5:normA (vW j)=(vW j):=_root_.id rfl
@[simp] theorem q0R6:normC (vW j)=(vW j):=_root_.id rfl
@[simp] theorem q0R7:V.isNil .ptr (vW j)=some false:=_root_.id rfl
@[simp] theorem q0No:V.plainR (vW j)=true:=_root_.id rfl
@[simp] theorem q0Np:V.plainB (vW j)=true:=_root_.id rfl
@[simp] theorem q0Tj:solN sd (vW j)=true:=_root_.id rfl
@[simp] theorem q0Ep (b d:Nat) (H:Heap):q00w b H d (vW j)=[] :=by cases d<;>rfl
@[simp] theorem q0Sz (S:St):q01d S (vW j)=[] :=q0Ep _ _ _ _
@[simp] theorem vW_fz (S:St):Eng.freeze S (vW j)=some (vW j):=_root_.id rfl
@[simp] theorem q0Tk (S:St):Eng.freezeR S (vW j)=some (vW j):=_root_.id rfl
end
def q02g (l:List Item) (n:Int):Option Item:=if 0<=n/\n<l.length then some (rd l n) else none
theorem q06n (l:List Item) (n:Nat):q02g l n=l[n]? :=by
 unfold q02g
 by_cases h:n<l.length
 ·rw [if_pos ⟨by omega,by omega⟩,Zl h,rd_of (Zl h)]
 ·rw [if_neg (by omega),ZF (by omega)]
theorem q0v7 (x:Item) (H:Heap):clD EE (.p (.fn 292)) [vItem x] H=some (vB (q04c x),none):=by
 rw [q002 _ _ _ _ _ _ (noP _) fn292]
 unfold q04c
 by_cases h:x.k=2<;>simp [zEc,h]
theorem q021 (l:List Item) (H:Heap):clD EE (.p (.fn 75)) [q00d l] H=some (vI l.length,none):=by
 rw [q002 _ _ _ _ _ _ (noP _) fn75]
 simp [q00d,zEc]
theorem q07s (l:List Item) (n:Int) (H:Heap):clD EE (.p (.fn 200)) [q00d l,vI n] H=some (.tup [match q02g l n with|some x=>vItem x|none=> .agg [vI 0,vI 0,vI 0,vI 0,vI 0,vI 0,vI 0],vB (q02g l n).isSome],none):=by
 rw [q002 _ _ _ _ _ _ (noP _) fn200]
 have hl:=fun H=>q021 l H
 unfold q02g
 simp only [q00d] at hl⊢
 by_cases h1:n<0
 ·simp [zEc,h1,show¬0<=n by omega]
 ·by_cases h2:(l.length:Int)<=n
  ·simp [zEc,h1,h2,hl,show¬n<l.length by omega]
  ·have hx:=q026 l n (by omega) (by omega)
   have hix:=fun H k=>q024 H q004 (k:=k) (s:=7) (by omega) hx rfl
   simp [zEc,h1,h2,hl,show 0<=n/\n<l.length by omega,hix,q004]
theorem q0yw (l:List Item) (n:Nat) (H:Heap):clD EE (.p (.fn 179)) [q00d l,vI n] H=some (vB (stayB l n),none):=by
 rw [q002 _ _ _ _ _ _ (noP _) fn179]
 have h:=fun H=>q07s l n H
 rw [q06n] at h
 unfold stayB
 cases hx:l[n]? with
 |none=>
  simp only [hx] at h
  simp only [q00d] at h⊢
  simp [zEc,h]
 |some x=>
  simp only [hx] at h
  have lo:=fun H=>q0v7 x H
  simp only [q00d] at h⊢
  simp [zEc,h,lo]
theorem q0Ch (l:List Item) (hv:V) (p:Nat->Bool) (hl:l.length<=1000000) (H:Heap) (hH: ∀n:Nat,n<=l.length->clD EE hv [vI n] H=some (vB (p n),none)): ∀(k n:Nat),n<=l.length+1->l.length+1-n=k->
  evD EE q17q ⟨[(0,q00d l),(2,hv),(7,vI n)],[],H,H.length,[]⟩=some (if seekP p k n= -1 then (.exit 0,⟨[(0,q00d l),(2,hv),(7,vI (l.length+1)),(12,vB false)],[],H,H.length,[]⟩) else (.ret,⟨[(6,vI (seekP p k n))],[],H,H.length,[]⟩)):=by
 intro k
 induction k with
 |zero=>
  intro n h1 h2
  have e:n=l.length+1:=by omega
  subst e
  have hle:=fun H=>q021 l H
  unfold q17q
  rw [q003]
  simp only [q00d] at hle⊢
  simp [seekP,hle,show¬(l.length:Int)+1<=l.length by omega]
 |succ k ih=>
  intro n h1 h2
  have hle:=fun H=>q021 l H
  have c:(n:Int)<=l.length:=by omega
  have w:IntKind.i64.wrap ((n:Int)+1)=((n+1:Nat):Int):=w64 (by omega) (by omega)
  have hp:=hH n (by omega)
  simp only [seekP]
  by_cases hb:p n=true
  ·rw [hb] at hp
   have hne: ¬(n:Int)= -1:=by omega
   simp only [if_pos hb,if_neg hne]
   unfold q17q
   rw [q003]
   simp only [q00d] at hle⊢
   simp [hle,c,hp]
  ·have hb':p n=false:=by simpa using hb
   rw [hb'] at hp
   have key:=ih (n+1) (by omega) (by omega)
   simp only [if_neg hb]
   rw [<-key]
   conv=>lhs;unfold q17q
   rw [q003]
   simp only [q00d] at hle⊢
   simp [hle,c,hp,w]
   rfl
theorem q0hc (l:List Item) (n:Nat) (hv:V) (p:Nat->Bool) (hl:l.length<=1000000) (H:Heap) (hH: ∀n:Nat,n<=l.length->clD EE hv [vI n] H=some (vB (p n),none)) (h1:n<=l.length+1) (ho:hv.outB=true) (hn:normA hv=hv):
  clD EE (.p (.fn 178)) [q00d l,vI n,hv] H=some (vI (seekP p (l.length+1-n) n),none):=by
 rw [q002 _ _ _ _ _ _ (noP _) fn178]
 have k:=q0Ch l hv p hl H hH _ n h1 rfl
 by_cases h:seekP p (l.length+1-n) n= -1
 ·rw [if_pos h] at k
  simp only [q00d] at k⊢
  simp [zEa,k,h]
 ·rw [if_neg h] at k
  simp only [q00d] at k⊢
  simp [zEa,k]
theorem q0Ci (l:List Item) (n:Int) (hl:l.length<=1000000) (H:Heap):clD EE (.p (.fn 76)) [q00d l,vI n] H=some (vI (trimF l n),none):=by
 rw [q002 _ _ _ _ _ _ (noP _) fn76]
 have hle:=fun H=>q021 l H
 have hk:min (max n 0) (l.length:Int)=(putN l n:Int):=by unfold putN;omega
 have hp:=q08v l n
 have s:=fun H=>q0hc l (putN l n) (.fn (.func 179) [q00d l] []) (stayB l) hl H (fun m _=>by rw [q02m];exact q0yw l m H) (by omega) rfl rfl
 have e:=q0iv l _ (putN l n) hp rfl
 rw [e] at s
 unfold trimF
 simp only [q00d] at hle s⊢
 simp [zEa,hle,hk,s]
section
variable (l:List Item) (fs:List Float) (hl:l.length<=1000000)
theorem q0e3 (n:Int) (H:Heap):clD EE (.p (.fn 137)) [vMapW l fs,vI n] H=some (.tup [vI (putN l n),vB true],none):=by
 rw [q002 _ _ _ _ _ _ (noP _) fn137]
 have hk:min (max n 0) (l.length:Int)=(putN l n:Int):=by unfold putN;omega
 simp only [vMapW]
 simp [zEc,hk]
theorem q0e4 (n:Int) (H:Heap):clD EE (.p (.fn 180)) [vMapW l fs,vI n] H=some (vI (q01a (l.take (putN l n))),none):=by
 rw [q002 _ _ _ _ _ _ (noP _) fn180]
 have hp:=fun H=>q0e3 l fs n H
 have hn:=q08v l n
 have hx:=q04e q01a l (l.length+1) (putN l n) (by omega)
 have hix:=fun H k=>q00c H encI (k:=k) (s:=1) hx rfl
 simp only [vMapW] at hp⊢
 simp [zEc,hp,hix,encI]
theorem q09v (n:Int) (H:Heap):clD EE (.p (.fn 52)) [vMapW l fs,vI n] H=some (vC (q00n fs (l.take (putN l n))),none):=by
 rw [q002 _ _ _ _ _ _ (noP _) fn52]
 have hp:=fun H=>q0e3 l fs n H
 have hn:=q08v l n
 have hx:=q04e (q00n fs) l (l.length+1) (putN l n) (by omega)
 have hix:=fun H k=>q00c H encC3 (k:=k) (s:=3) hx rfl
 simp only [vMapW] at hp⊢
 simp [zEc,hp,hix,encC3]
theorem q0v8 (n:Int) (H:Heap):clD EE (.p (.fn 267)) [vMapW l fs,vI n] H=some (vC (dueP fs (l.take (putN l n))),none):=by
 rw [q002 _ _ _ _ _ _ (noP _) fn267]
 have hp:=fun H=>q0e3 l fs n H
 have hn:=q08v l n
 have hx:=q04e (dueP fs) l (l.length+1) (putN l n) (by omega)
 have hix:=fun H k=>q00c H encC3 (k:=k) (s:=3) hx rfl
 simp only [vMapW] at hp⊢
 simp [zEc,hp,hix,encC3]
end
structure okW (j:Job):Prop where
 n1:j.items.length<=1000000
 n2:j.notes.length<=1000000
 n3:j.floats.length<=100000
 lines: ∀n∈j.notes,n.lines.length<=1000000
 cols:I64 j.g.cols/\j.g.cols<=1000
 refs:q01a j.items<=j.notes.length
theorem q03o {j:Job} (w:okW j) (n:Int):q00z j n<=j.notes.length:=by
 have h:=w.refs
 unfold q00z q01a at*
 have:=q0d8 5 j.items (putN j.items n)
 omega
theorem q0bq (j:Job) (n:Int):0<=q00z j n:=(q0iw _).1
section
variable (j:Job) (w:okW j)
theorem q07d (H:Heap):clD EE (.p (.fn 68)) [vW j] H=some (vJob j,none):=by
 rw [q002 _ _ _ _ _ _ (noP _) fn68]
 simp only [vW,cJobW,cGeom,Zd,Zf]
 simp [zEc]
include w in
theorem q0ri (s:Stt) (H:Heap):clD EE (.p (.fn 77)) [vW j,vStt s] H=some (vB (q03q j s),none):=by
 rw [q002 _ _ _ _ _ _ (noP _) fn77]
 have hb:=fun H=>q0e4 j.items j.floats s.at_ H
 have hle:=q03o w s.at_
 have hge:=q0bq j s.at_
 change∀H,clD EE _ _ H=some (vI (q00z j s.at_),none) at hb
 have w1:IntKind.i64.wrap (q00z j s.at_-1)=q00z j s.at_-1:=w64 (by have:=w.n2;omega) (by have:=w.n2;omega)
 unfold q03q
 generalize q00z j s.at_=b at*
 simp only [vW,q00o,cJobW,cGeom,Zd,Zf]
 by_cases h0:s.line=0
 ·simp [zEc,hb,h0]
 ·by_cases h1:s.note=b-1
  ·by_cases h2:s.note<0
   ·simp [zEc,hb,h0,w1,h1,show b-1<0 by omega]
   ·by_cases h3:s.line<1
    ·simp [zEc,hb,h0,w1,h1,show¬b-1<0 by omega,h3]
    ·have hx:=q026 j.notes s.note (by omega) (by omega)
     have hix:=fun H k=>q024 H q00e (k:=k) (s:=2) (by omega) hx rfl
     have hl:=w.lines _ (Zp hx)
     have hm:=fun H=>q0E3 (rd j.notes s.note).lines (rd j.notes s.note).pens s.line H (by omega)
     rw [h1] at hix hm hl⊢
     simp only [q00e] at hix
     simp only [note,sli] at hm
     by_cases h4:s.line<((rd j.notes (b-1)).lines.length:Int)
     ·simp [zEc,hb,h0,w1,h1,show¬b-1<0 by omega,h3,hix,h4,hm]
     ·simp [zEc,hb,h0,w1,h1,show¬b-1<0 by omega,h3,hix,h4]
  ·simp [zEc,hb,h0,w1,h1]
include w in
theorem q03r (s:Stt) (H:Heap):clD EE (.p (.fn 20)) [vW j,vStt s] H=some (vB (q01g j s),none):=by
 rw [q002 _ _ _ _ _ _ (noP _) fn20]
 have hl:=fun H=>q021 j.items H
 have ht:=fun H=>q0Ci j.items s.at_ w.n1 H
 have hc:=fun H=>q0ri j w s H
 have ha:=fun H=>q09v j.items j.floats s.at_ H
 change∀H,clD EE _ _ H=some (vC (q01i j s.at_),none) at ha
 have i1:=fun H=>in_ev zeroC s.h H
 have i2:=fun H=>in_ev s.h (q01i j s.at_) H
 unfold q01g
 simp only [vW,q00o,cJobW,cGeom,Zd,Zf,zeroC] at hc i1⊢
 by_cases h1:s.at_<0
 ·simp [zEc,h1]
 ·by_cases h2:(j.items.length:Int)<s.at_
  ·simp [zEc,h1,hl,h2]
  ·by_cases h3:(trimF j.items s.at_:Int)=s.at_
   ·by_cases h4:s.col<0
    ·simp [zEc,h1,hl,h2,ht,h3,h4]
    ·by_cases h5:j.g.cols<s.col
     ·simp [zEc,h1,hl,h2,ht,h3,h4,h5]
     ·cases c1:q03q j s with
      |false=>simp [zEc,h1,hl,h2,ht,h3,h4,h5,hc,c1]
      |true=>
       cases c2:inC ⟨0,0,0⟩ s.h with
       |false=>simp [zEc,h1,hl,h2,ht,h3,h4,h5,hc,c1,i1,c2]
       |true=>simp [zEc,h1,hl,h2,ht,h3,h4,h5,hc,c1,i1,c2,ha,i2]
   ·simp [zEc,h1,hl,h2,ht,h3]
end
section
variable (j:Job) (w:okW j)
include w in
theorem q07t (s:Stt) (to:Int) (H:Heap):clD EE (.p (.fn 102)) [vW j,vStt s,vI to] H=some (vSpot (spotS j s to),none):=by
 rw [q002 _ _ _ _ _ _ (noP _) fn102]
 have hr:=fun H=>q03r j w s H
 have b1:=fun H=>q0e4 j.items j.floats to H
 have b2:=fun H=>q0e4 j.items j.floats s.at_ H
 change∀H,clD EE _ _ H=some (vI (q00z j to),none) at b1
 change∀H,clD EE _ _ H=some (vI (q00z j s.at_),none) at b2
 unfold spotS
 cases c:q01g j s with
 |false=>
  rw [c] at hr
  simp [zEc,hr]
 |true=>
  rw [c] at hr
  simp only [vW,q00o,cJobW,cGeom,Zd,Zf] at hr⊢
  simp [zEc,hr,b1,b2]
include w in
theorem q0v9 (s:Stt) (H:Heap):clD EE (.p (.fn 172)) [vW j,vStt s] H=some (vI (highS j s),none):=by
 rw [q002 _ _ _ _ _ _ (noP _) fn172]
 have hr:=fun H=>q03r j w s H
 unfold highS
 cases c:q01g j s with
 |false=>
  rw [c] at hr
  simp [zEc,hr]
 |true=>
  rw [c] at hr
  simp only [vW,q00o,cJobW,cGeom,Zd,Zf] at hr⊢
  by_cases h:s.col<j.g.cols
  ·simp [zEc,hr,h]
  ·simp [zEc,hr,h]
include w in
theorem q12j (s:Stt) (H:Heap):clD EE (.p (.fn 98)) [vW j,vStt s] H=some (vC (q120 j s),none):=by
 rw [q002 _ _ _ _ _ _ (noP _) fn98]
 have hr:=fun H=>q03r j w s H
 have ha:=fun H=>q09v j.items j.floats s.at_ H
 change∀H,clD EE _ _ H=some (vC (q01i j s.at_),none) at ha
 have re:=fun H=>q12s s.h (q01i j s.at_) H
 unfold q120
 cases c:q01g j s with
 |false=>
  rw [c] at hr
  simp [zEc,hr,zeroC]
 |true=>
  rw [c] at hr
  simp only [vW,q00o,cJobW,cGeom,Zd,Zf] at hr⊢
  simp [zEc,hr,ha,re]
include w in
theorem q0j3 (s:Stt) (H:Heap):clD EE (.p (.fn 21)) [vW j,vStt s] H=some (vB (doneS j s),none):=by
 rw [q002 _ _ _ _ _ _ (noP _) fn21]
 have hr:=fun H=>q03r j w s H
 have hl:=fun H=>q021 j.items H
 obtain ⟨sa,sc,sn,sl,⟨x,y,z⟩⟩:=s
 have e:(decide (x=(allS j).a)&&(decide (y=(allS j).b)&&decide (z=(allS j).c)))=decide (C3.mk x y z=allS j):=by
  generalize allS j=q
  obtain ⟨a,b,c⟩:=q
  simp [Bool.decide_and]
 unfold doneS
 simp only [vW,q00o,cJobW,cGeom,Zd,Zf] at hr⊢
 cases c:q01g j ⟨sa,sc,sn,sl,⟨x,y,z⟩⟩ with
 |false=>
  rw [c] at hr
  simp [zEc,hr]
 |true=>
  rw [c] at hr
  by_cases h1:sa=j.items.length
  ·subst h1
   by_cases h2:sl=0
   ·subst h2
    by_cases h3:sn=j.notes.length
    ·subst h3
     simp [zEc,hr,hl,e]
    ·simp [zEc,hr,hl,h3]
   ·simp [zEc,hr,hl,h2]
  ·simp [zEc,hr,hl,h1]
include w in
theorem q100 (s:Stt) (c:Colm) (c1:c.notes.length<=1000000) (c2:c.top.length<=9223372036854775807) (c3:c.bot.length<=9223372036854775807) (H:Heap):clD EE (.p (.fn 29)) [vW j,vStt s,vColm c] H=some (vStt (nextS j s c),none):=by
 rw [q002 _ _ _ _ _ _ (noP _) fn29]
 have hr:=fun H=>q03r j w s H
 have hs:=fun H=>q07t j w s c.to H
 have ht:=fun H=>q0Ci j.items c.to w.n1 H
 have hn:=fun H=>q0Zh j.notes (spotS j s c.to) c.notes w.n2 c1 H
 have o1:=fun H=>q0Xn j.floats c.top H w.n3 c2
 have o2:=fun H=>q0Xn j.floats c.bot H w.n3 c3
 have a1:=fun x y H=>q0Bm x y H
 have k1:IntKind.i64.wrap 1=1:=by decide
 have k2:IntKind.i64.wrap 2=2:=by decide
 unfold nextS
 cases cr:q01g j s with
 |false=>
  rw [cr] at hr
  simp [zEc,hr,zeroS]
 |true=>
  rw [cr] at hr
  have hcol:0<=s.col/\s.col<=j.g.cols:=by
   unfold q01g at cr
   split at cr
   ·cases cr
   ·rename_i h;omega
  have hw:=w.cols
  have w1:IntKind.i64.wrap (s.col+1)=s.col+1:=w64 (by omega) (by omega)
  generalize spotS j s c.to=sp at*
  generalize nextF j.notes sp c.notes=nx at*
  simp only [vW,q00o,cJobW,cGeom,Zd,Zf] at hr hs⊢
  by_cases h1:c.k=1
  ·simp [zEc,hr,hs,ht,hn,w1,h1,q199,q003,ixsI,ixsV,k1,k2,o1,o2,a1]
  ·simp [zEc,hr,hs,ht,hn,w1,h1,q199,q003,ixsI,ixsV,k1,k2,o1,o2,a1]
include w in
theorem q0Z3 (s:Stt) (c:Colm) (c1:c.notes.length<=1000000) (c2:c.top.length<=1000000) (c3:c.bot.length<=1000000) (H:Heap):clD EE (.p (.fn 29)) [vW j,vStt s,vColm c] H=some (vStt (nextS j s c),none):=q100 j w s c c1 (by omega) (by omega) H
end
end Go.EnvOf
namespace Go.Eng
open Go
@[simp] theorem q0T0 (v:V):zR (some (v,none))=zV [] v:=rfl
@[simp] theorem q0T1 (v:V) (H:Heap):zR (some (v,some (H,[])))=zV H v:=rfl
@[simp] theorem q0Ja:zR none=none:=rfl
@[simp] theorem q0Tl (H:Heap) (vs:List V):zV H (.tup vs)=(allO (solV H sd) vs).map .tup:=rfl
@[simp] theorem zV_p (H:Heap) (x:PV):zV H (.p x)=some (.p x):=rfl
@[simp] theorem q0T2 (H:Heap):zV H .nils=some (.p (.sl [])):=rfl
@[simp] theorem q0Eq (H:Heap) (a b c d:Nat):zV H (.row a b c d)=(frz 0 H deep (.row a b c d)).map .p:=rfl
@[simp] theorem q0Tm (H:Heap) (id off:Nat):zV H (.ptr id off)=(Eng.boxAt H id).bind fun cs=>(allO (solV H 5) cs).map fun cs'=> .eptr cs' off:=rfl
@[simp] theorem q0Tn (H:Heap) (d:Nat) (x:PV):solV H d (.p x)=some (.p x):=by cases d<;>rfl
@[simp] theorem q0Nq (H:Heap) (d:Nat):solV H d .nils=some (.p (.sl [])):=by cases d<;>rfl
@[simp] theorem q0R8 (H:Heap) (d a b c e:Nat):solV H d (.row a b c e)=(frz 0 H deep (.row a b c e)).map .p:=by cases d<;>rfl
@[simp] theorem q0Nr (H:Heap) (id off:Nat):solV H sd (.ptr id off)=(Eng.boxAt H id).bind fun cs=>(allO (solV H 5) cs).map fun cs'=> .eptr cs' off:=rfl
@[simp] theorem q0Jb (H:Heap) (id off:Nat):solV H 6 (.ptr id off)=(Eng.boxAt H id).bind fun cs=>(allO (solV H 5) cs).map fun cs'=> .eptr cs' off:=rfl
@[simp] theorem q0Ns (H:Heap) (id off:Nat):solV H 5 (.ptr id off)=(Eng.boxAt H id).bind fun cs=>(allO (solV H 4) cs).map fun cs'=> .eptr cs' off:=rfl
@[simp] theorem q0Jc (a b:Nat):V.plainB (.ptr a b)=false:=rfl
@[simp] theorem q0Jd (a b:Nat):q06z (.ptr a b)=false:=rfl
theorem q04f {H:Heap} {id n s:Nat} {es:List (List PV)} (h:Eng.rowAt H id=some (s,upV es)) (hn:es.length=n):frz 0 H deep (.row id n 0 n)=some (.sl es):=by
 unfold deep
 rw [q056,if_pos (Zj _),h,q09c,if_pos hn]
 simp [<-hn]
end Go.Eng
namespace Go.EnvOf
open Go Go.Eng
set_option maxRecDepth 100000
@[simp] theorem q0D6 (l:List Item):q06z (q00r l)=true:=rfl
@[simp] theorem q0Nt (j:Job):q06z (vW j)=true:=rfl
@[simp] theorem q0Gq (H:Heap) (l:List Item):solV H 5 (q00d l)=some (q00d l):=rfl
@[simp] theorem q0Gr (H:Heap) (j:Job):solV H 5 (q00o j)=some (q00o j):=rfl
@[simp] theorem q0Er (H:Heap) (l:List Item):solV H 4 (q00d l)=some (q00d l):=rfl
@[simp] theorem q0Es (H:Heap) (l:List Item):solV H 4 (q00r l)=some (q00r l):=rfl
@[simp] theorem q0Gs (H:Heap) (l:List Item) (fs:List Float):solV H 4 (vMapW l fs)=some (vMapW l fs):=rfl
theorem q0fk {α:Type} (f:FuncId) (s:Nat) (z:List V) (enc:α->List PV) (hs: ∀x,(enc x).length=s) (hf:EE.fns f=some (q05m s z)) (l:List α) (hm:l.length<most) (hp:EE.prims f=none:=by exact noP _):
  zR (clD EE (.p (.fn f)) [.p (.sl (l.map enc))] [])=some (.p (.sl (l.map enc))):=by
 rw [q05n f s z [] enc hs hf l hm hp]
 cases l with
 |nil=>rfl
 |cons x r=>
  have h:Eng.rowAt ([]++[DObj.row s (upV ((x::r).map enc))]) 0=some (s,upV ((x::r).map enc)):=rfl
  show zV _ (.row 0 (x::r).length 0 (x::r).length)=_
  rw [q0Eq,q04f h (by simp)]
  rfl
theorem q05o (l:List Item) (h:l.length<=1000000):zR (clD EE (.p (.fn 124)) [q006 l] [])=some (q006 l):=q0fk _ 7 _ q004 (fun _=>rfl) fn124 l (by unfold most;omega)
theorem q0jx (l:List Float) (h:l.length<=1000000):zR (clD EE (.p (.fn 125)) [q005 l] [])=some (q005 l):=q0fk _ 3 _ q009 (fun _=>rfl) fn125 l (by unfold most;omega)
theorem q0rj (l:List Int) (h:l.length<=1000000):zR (clD EE (.p (.fn 126)) [sli l] [])=some (sli l):=q0fk _ 1 _ encI (fun _=>rfl) fn126 l (by unfold most;omega)
theorem q0ob (l:List Int) (h:l.length<=1000000):zR (clD EE (.p (.fn 127)) [sli l] [])=some (sli l):=q0fk _ 1 _ encI (fun _=>rfl) fn127 l (by unfold most;omega)
theorem q0rk (l:List Item) (h:l.length<=1000000):zR (clD EE (.p (.fn 50)) [q006 l] [])=some (q00d l):=by
 rw [q002 _ _ _ _ _ _ (noP _) fn50]
 have c:=q05o l h
 simp [zEc,solN,sd,c,allO,q00d]
theorem q0yx (f:FuncId) (x y z:Int) (p q:Nat) (H:Heap) (hf:clD EE (.p (.fn f)) [vI x,vI y] H=some (resT (some z),none)) (h1:Eng.boxAt H p=some [.p (.fn f)]) (h2:Eng.boxAt H q=some [vB true]):
  clD EE (.p (.fn 350)) [vI x,vI y,.ptr p 0,.ptr q 0] H=some (vI z,some (H,[q])):=by
 rw [q002 _ _ _ _ _ _ (noP _) fn350]
 have hlt:=q02y h2
 have e:H.set q (.box [vB true])=H:=by
  unfold Eng.boxAt at h2
  split at h2
  ·rename_i cs h3
   cases h2
   obtain ⟨h4,h5⟩:=Za.1 h3
   rw [<-h5];exact List.set_getElem_self h4
  ·cases h2
 have a1:subs [V.p (PV.fn f)] 0 1=some [V.p (PV.fn f)]:=rfl
 have a2:subs [vB true] 0 1=some [vB true]:=rfl
 have a3:q001 [vB true] 0 [vB true]=some [vB true]:=rfl
 simp only [resT] at hf
 simp [zEa,h1,h2,a1,a2,a3,hf,e,hlt]
theorem q0pr (f:FuncId) (a b c:Tot) (H:Heap) (hf: ∀(x y z:Int) (H:Heap),(x,y,z)∈[(a.nat,b.nat,c.nat),(a.s0,b.s0,c.s0),(a.s1,b.s1,c.s1),(a.s2,b.s2,c.s2),(a.s3,b.s3,c.s3),(a.shr,b.shr,c.shr)]->clD EE (.p (.fn f)) [vI x,vI y] H=some (resT (some z),none)):
  clD EE (.p (.fn 239)) [vTot a,vTot b,.p (.fn f)] H=some (.tup [vTot c,vB true],none):=by
 rw [q002 _ _ _ _ _ _ (noP _) fn239]
 have k: ∀x y z,(x,y,z)∈[(a.nat,b.nat,c.nat),(a.s0,b.s0,c.s0),(a.s1,b.s1,c.s1),(a.s2,b.s2,c.s2),(a.s3,b.s3,c.s3),(a.shr,b.shr,c.shr)]->clD EE (.fn (.func 350) [] [.ptr H.length 0,.ptr (H.length+1) 0]) [vI x,vI y] (H++[.box [.p (.fn f)],.box [vB true]])=some (vI z,some (H++[.box [.p (.fn f)],.box [vB true]],[H.length+1])):=by
  intro x y z hm
  rw [q02m]
  exact q0yx f x y z H.length (H.length+1) _ (hf x y z _ hm) (by simp) (by simp)
 have k0:=k a.nat b.nat c.nat (by simp)
 have k1:=k a.s0 b.s0 c.s0 (by simp)
 have k2:=k a.s1 b.s1 c.s1 (by simp)
 have k3:=k a.s2 b.s2 c.s2 (by simp)
 have k4:=k a.s3 b.s3 c.s3 (by simp)
 have k5:=k a.shr b.shr c.shr (by simp)
 have w1:IntKind.i64.wrap 1=1:=by decide
 have w2:IntKind.i64.wrap 2=2:=by decide
 have w3:IntKind.i64.wrap 3=3:=by decide
 have w4:IntKind.i64.wrap 4=4:=by decide
 have ad:addD H.length (H.length+1) []=[]:=by unfold addD;rw [if_neg (by omega)]
 simp [zEc,k0,k1,k2,k3,k4,k5,q1a0,q003,ixaV,q007,w1,w2,w3,w4,ad]
structure inT64 (t:Tot):Prop where
 nat:I64 t.nat
 s0:I64 t.s0
 s1:I64 t.s1
 s2:I64 t.s2
 s3:I64 t.s3
 shr:I64 t.shr
theorem q04g {m:Int} {t:Tot} (h:inT m t) (hm:m<=9223372036854775807):inT64 t:=by
 obtain ⟨⟨a1,a2⟩,⟨a3,a4⟩,⟨a5,a6⟩,⟨a7,a8⟩,⟨a9,b1⟩,⟨b2,b3⟩⟩:=h
 constructor<;>constructor<;>omega
theorem q0Cj {a b:Int} (h:I64 (a+b)):addF a b=some (a+b):=by unfold addF;rw [if_pos h]
theorem q0Ck {a b:Int} (h:I64 (a-b)):subF a b=some (a-b):=by unfold subF;rw [if_pos h]
theorem q0va (a b:Tot) (ha:inT64 a) (hb:inT64 b) (hc:inT64 (addT a b)) (H:Heap):clD EE (.p (.fn 135)) [vTot a,vTot b] H=some (.tup [vTot (addT a b),vB true],none):=by
 rw [q002 _ _ _ _ _ _ (noP _) fn135]
 have one: ∀(x y:Int) (H:Heap),I64 x->I64 y->I64 (x+y)->clD EE (.p (.fn 240)) [vI x,vI y] H=some (resT (some (x+y)),none):=by
  intro x y H hx hy hz
  rw [q0u8 x y H hx hy,q0Cj hz]
 have h:=fun H=>q0pr 240 a b (addT a b) H (fun x y z H hm=>by
  simp only [ZI,Prod.mk.injEq,List.not_mem_nil,or_false] at hm
  rcases hm with ⟨rfl,rfl,rfl⟩|⟨rfl,rfl,rfl⟩|⟨rfl,rfl,rfl⟩|⟨rfl,rfl,rfl⟩|⟨rfl,rfl,rfl⟩|⟨rfl,rfl,rfl⟩
  ·exact one _ _ _ ha.nat hb.nat hc.nat
  ·exact one _ _ _ ha.s0 hb.s0 hc.s0
  ·exact one _ _ _ ha.s1 hb.s1 hc.s1
  ·exact one _ _ _ ha.s2 hb.s2 hc.s2
  ·exact one _ _ _ ha.s3 hb.s3 hc.s3
  ·exact one _ _ _ ha.shr hb.shr hc.shr)
 generalize addT a b=c at*
 simp [zEc,h]
theorem q0vb (h:Int) (H:Heap):clD EE (.p (.fn 236)) [vI h] H=some (vTot ⟨h,0,0,0,0,0⟩,none):=by
 rw [q002 _ _ _ _ _ _ (noP _) fn236]
 simp [zEc]
theorem q0rl (h str ord shr:Int) (H:Heap):clD EE (.p (.fn 237)) [vI h,vI str,vI ord,vI shr] H=some (vTot (glueT h str ord shr),none):=by
 rw [q002 _ _ _ _ _ _ (noP _) fn237]
 unfold glueT
 by_cases c0:ord=0
 ·simp [zEc,c0,ixaV,q007]
 ·by_cases c1:ord=1
  ·simp [zEc,c1,ixaV,q007]
  ·by_cases c2:ord=2
   ·simp [zEc,c2,ixaV,q007]
   ·by_cases c3:ord=3
    ·simp [zEc,c3,ixaV,q007]
    ·by_cases c4:ord<0
     ·simp [zEc,c0,c1,c2,c3,show¬0<=ord by omega]
     ·simp [zEc,c0,c1,c2,c3,show 0<=ord by omega,show¬ord<4 by omega]
theorem q0mx (x:Item) (H:Heap):clD EE (.p (.fn 133)) [vItem x] H=some (vTot (totI x),none):=by
 rw [q002 _ _ _ _ _ _ (noP _) fn133]
 have b:=fun H=>q0vb x.h H
 have g:=fun H=>q0rl x.h x.str x.ord x.shr H
 unfold totI
 by_cases k1:x.k=1
 ·simp [zEc,k1,b]
 ·by_cases k2:x.k=2
  ·simp only [k2,if_neg (show¬(2:Int)=1 by decide),if_true]
   generalize glueT x.h x.str x.ord x.shr=t at*
   simp [zEc,k2,g]
  ·simp [zEc,k1,k2,zeroT]
theorem q05y (n:Int) (H:Heap) (h:0<=n/\n<=4294967296):clD EE (.p (.fn 238)) [vI n] H=some (vB true,none):=by
 rw [q002 _ _ _ _ _ _ (noP _) fn238]
 simp [zEa,h.1,h.2]
theorem q0yy (t:Tot) (h:inT 4294967296 t) (H:Heap):clD EE (.p (.fn 134)) [vTot t] H=some (vB true,none):=by
 rw [q002 _ _ _ _ _ _ (noP _) fn134]
 have k0:=fun H=>q05y t.nat H h.nat
 have k1:=fun H=>q05y t.s0 H h.s0
 have k2:=fun H=>q05y t.s1 H h.s1
 have k3:=fun H=>q05y t.s2 H h.s2
 have k4:=fun H=>q05y t.s3 H h.s3
 have k5:=fun H=>q05y t.shr H h.shr
 have w1:IntKind.i64.wrap 1=1:=by decide
 have w2:IntKind.i64.wrap 2=2:=by decide
 have w3:IntKind.i64.wrap 3=3:=by decide
 have w4:IntKind.i64.wrap 4=4:=by decide
 simp [zEc,k0,k1,k2,k3,k4,k5,q0g2,q003,ixaV,q007,w1,w2,w3,w4]
def q0fl (x:Item):Bool:=decide (x.k=2)||decide (x.k=3)
def q05z (x:Item):Bool:=decide (x.k=3)&&decide (x.n<= -10000)
theorem q0yz (x:Item) (H:Heap):clD EE (.p (.fn 292)) [vItem x] H=some (vB (q0fl x),none):=by
 rw [q002 _ _ _ _ _ _ (noP _) fn292]
 unfold q0fl
 by_cases h:x.k=2<;>simp [zEc,h]
theorem q0j4 (x:Item) (H:Heap):clD EE (.p (.fn 202)) [vItem x] H=some (vB (q05z x),none):=by
 rw [q002 _ _ _ _ _ _ (noP _) fn202]
 unfold q05z
 by_cases h:x.k=3<;>simp [zEc,h]
theorem q07e (j:Job) (H:Heap):clD EE (.p (.fn 82)) [vW j] H=some (q00d j.items,none):=by
 rw [q002 _ _ _ _ _ _ (noP _) fn82]
 have p: ∀H,clD EE (.p (.fn 184)) [vW j] H=some (q00o j,none):=by
  intro H
  rw [q002 _ _ _ _ _ _ (noP _) fn184]
  simp [vW,zEc]
 have q: ∀H,clD EE (.p (.fn 185)) [q00o j] H=some (q00d j.items,none):=by
  intro H
  rw [q002 _ _ _ _ _ _ (noP _) fn185]
  simp [q00o,zEc]
 simp [zEa,p,q]
theorem q0z0 (j:Job) (H:Heap):clD EE (.p (.fn 189)) [vW j] H=some (q00r j.items,none):=by
 rw [q002 _ _ _ _ _ _ (noP _) fn189]
 have p: ∀H,clD EE (.p (.fn 184)) [vW j] H=some (q00o j,none):=by
  intro H
  rw [q002 _ _ _ _ _ _ (noP _) fn184]
  simp [vW,zEc]
 have q: ∀H,clD EE (.p (.fn 299)) [q00o j] H=some (q00r j.items,none):=by
  intro H
  rw [q002 _ _ _ _ _ _ (noP _) fn299]
  simp [q00o,zEc]
 simp [zEa,p,q]
def sumT (l:List Item) (a b:Int):Tot:=if max a 0<min b l.length then subT (totP (l.take (min b l.length).toNat)) (totP (l.take (max a 0).toNat)) else zeroT
theorem q0rm (l:List Item) (H:Heap):clD EE (.p (.fn 373)) [q00r l] H=some (vI l.length,none):=by
 rw [q002 _ _ _ _ _ _ (noP _) fn373]
 simp [q00r,zEc]
theorem q0rn (l:List Item) (a b:Int) (H:Heap):clD EE (.p (.fn 300)) [q00r l,vI a,vI b] H=some (.tup [vI (max a 0),vI (min b l.length),vB (decide (max a 0<min b l.length))],none):=by
 rw [q002 _ _ _ _ _ _ (noP _) fn300]
 have h:=fun H=>q0rm l H
 simp [zEc,h]
theorem q0vc (a b:Tot) (ha:inT64 a) (hb:inT64 b) (hc:inT64 (subT a b)) (H:Heap):clD EE (.p (.fn 301)) [vTot a,vTot b] H=some (.tup [vTot (subT a b),vB true],none):=by
 rw [q002 _ _ _ _ _ _ (noP _) fn301]
 have one: ∀(x y:Int) (H:Heap),I64 x->I64 y->I64 (x-y)->clD EE (.p (.fn 348)) [vI x,vI y] H=some (resT (some (x-y)),none):=by
  intro x y H hx hy hz
  rw [q0u9 x y H hx hy,q0Ck hz]
 have h:=fun H=>q0pr 348 a b (subT a b) H (fun x y z H hm=>by
  simp only [ZI,Prod.mk.injEq,List.not_mem_nil,or_false] at hm
  rcases hm with ⟨rfl,rfl,rfl⟩|⟨rfl,rfl,rfl⟩|⟨rfl,rfl,rfl⟩|⟨rfl,rfl,rfl⟩|⟨rfl,rfl,rfl⟩|⟨rfl,rfl,rfl⟩
  ·exact one _ _ _ ha.nat hb.nat hc.nat
  ·exact one _ _ _ ha.s0 hb.s0 hc.s0
  ·exact one _ _ _ ha.s1 hb.s1 hc.s1
  ·exact one _ _ _ ha.s2 hb.s2 hc.s2
  ·exact one _ _ _ ha.s3 hb.s3 hc.s3
  ·exact one _ _ _ ha.shr hb.shr hc.shr)
 generalize subT a b=c at*
 simp [zEc,h]
theorem q0Cl {m k:Int} {a b:Tot} (ha:inT m a) (hb:inT k b) (hm:m<=9223372036854775807) (hk:k<=9223372036854775807):inT64 (subT a b):=by
 obtain ⟨⟨a1,a2⟩,⟨a3,a4⟩,⟨a5,a6⟩,⟨a7,a8⟩,⟨a9,b1⟩,⟨b2,b3⟩⟩:=ha
 obtain ⟨⟨c1,c2⟩,⟨c3,c4⟩,⟨c5,c6⟩,⟨c7,c8⟩,⟨c9,d1⟩,⟨d2,d3⟩⟩:=hb
 constructor<;>constructor<;>simp only [subT]<;>omega
theorem q0my (l:List Item) (hl:l.length<=1000000) (hf: ∀x∈l,fairI x) (n:Nat):inT 4294967296000000 (totP (l.take n)):=by
 have h:=q0hb (l.take n) (fun x hx=>hf x (Z6 hx))
 have hn:(l.take n).length<=1000000:=by rw [ZC];omega
 have hm:4294967296*((l.take n).length:Int)<=4294967296000000:=by omega
 obtain ⟨⟨a1,a2⟩,⟨a3,a4⟩,⟨a5,a6⟩,⟨a7,a8⟩,⟨a9,b1⟩,⟨b2,b3⟩⟩:=h
 constructor<;>constructor<;>omega
theorem q0vd (l:List Item) (hl:l.length<=1000000) (hf: ∀x∈l,fairI x) (a b:Int) (H:Heap):clD EE (.p (.fn 190)) [q00r l,vI a,vI b] H=some (vTot (sumT l a b),none):=by
 rw [q002 _ _ _ _ _ _ (noP _) fn190]
 have hw:=fun H=>q0rn l a b H
 unfold sumT
 by_cases c:max a 0<min b l.length
 ·have ha:(preL totP l (l.length+1))[(max a 0).toNat]? =some (totP (l.take (max a 0).toNat)):=q04e _ _ _ _ (by omega)
  have hb:(preL totP l (l.length+1))[(min b l.length).toNat]? =some (totP (l.take (min b l.length).toNat)):=q04e _ _ _ _ (by omega)
  have ia:=fun H k=>q024 H q020 (k:=k) (s:=6) (i:=max a 0) (by omega) ha rfl
  have ib:=fun H k=>q024 H q020 (k:=k) (s:=6) (i:=min b l.length) (by omega) hb rfl
  have i1:=q0my l hl hf (min b l.length).toNat
  have i2:=q0my l hl hf (max a 0).toNat
  have hs:=fun H=>q0vc _ _ (q04g i1 (by omega)) (q04g i2 (by omega)) (q0Cl i1 i2 (by omega) (by omega)) H
  rw [if_pos c]
  generalize totP (l.take (min b l.length).toNat)=t1 at*
  generalize totP (l.take (max a 0).toNat)=t2 at*
  generalize subT t1 t2=t3 at*
  generalize max a 0=a' at*
  generalize min b l.length=b' at*
  simp only [q020] at ia ib
  simp only [q00r] at hw⊢
  simp [zEc,hw,c,ia,ib,hs]
 ·rw [if_neg c]
  simp [zEc,hw,c,zeroT]
structure Setg where
 how:Int
 ord:Int
 by_:Int
 of_:Int
 left:Int
 deriving Inhabited,DecidableEq
def zeroG:Setg:=⟨0,0,0,0,0⟩
abbrev vSet (s:Setg):V:= .agg [vI s.how,vI s.ord,vI s.by_,vI s.of_,vI s.left]
def fairL (n:Int):Bool:=decide (0<=n)&&decide (n<=1125899906842624)
def q03k (t:Tot):Bool:=fairL t.s0&&fairL t.s1&&fairL t.s2&&fairL t.s3&&fairL t.nat&&fairL t.shr
def q04u (t:Tot) (h:Int):Bool:=q03k t&&decide (-1125899906842624<=h)&&decide (h<=1125899906842624)
def ordT (t:Tot):Int:=if t.s3≠0 then 3 else if t.s2≠0 then 2 else if t.s1≠0 then 1 else 0
def strT (t:Tot) (o:Int):Int:=if o=3 then t.s3 else if o=2 then t.s2 else if o=1 then t.s1 else t.s0
def q07f (t:Tot) (h:Int) (last:Bool):Setg:=
 if q04u t h=true then
  if h-t.nat=0 then zeroG
  else if 0<h-t.nat/\0<strT t (ordT t)/\ ¬(last=true/\ordT t=0) then ⟨1,ordT t,h-t.nat,strT t (ordT t),0⟩
  else if 0<h-t.nat then ⟨0,0,0,0,h-t.nat⟩
  else if 0<=t.shr+(h-t.nat) then ⟨2,0,-(h-t.nat),t.shr,0⟩
  else ⟨3,0,t.shr,t.shr,t.shr+(h-t.nat)⟩
 else zeroG
theorem q0z1 (n:Int) (H:Heap):clD EE (.p (.fn 409)) [vI n] H=some (vB (fairL n),none):=by
 rw [q002 _ _ _ _ _ _ (noP _) fn409]
 unfold fairL
 by_cases h:0<=n<;>simp [zEa,h]
theorem q0ro (t:Tot) (H:Heap):clD EE (.p (.fn 372)) [vTot t] H=some (vB (q03k t),none):=by
 rw [q002 _ _ _ _ _ _ (noP _) fn372]
 have f:=fun n H=>q0z1 n H
 have w1:IntKind.i64.wrap 1=1:=by decide
 have w2:IntKind.i64.wrap 2=2:=by decide
 have w3:IntKind.i64.wrap 3=3:=by decide
 have w4:IntKind.i64.wrap 4=4:=by decide
 unfold q03k
 cases c0:fairL t.s0 with
 |false=>simp [zEc,f,q0B3,q003,ixvV,ixaV,q007,w1,w2,w3,w4,c0]
 |true=>
  cases c1:fairL t.s1 with
  |false=>simp [zEc,f,q0B3,q003,ixvV,ixaV,q007,w1,w2,w3,w4,c0,c1]
  |true=>
   cases c2:fairL t.s2 with
   |false=>simp [zEc,f,q0B3,q003,ixvV,ixaV,q007,w1,w2,w3,w4,c0,c1,c2]
   |true=>
    cases c3:fairL t.s3 with
    |false=>simp [zEc,f,q0B3,q003,ixvV,ixaV,q007,w1,w2,w3,w4,c0,c1,c2,c3]
    |true=>
     cases c4:fairL t.nat<;>simp [zEc,f,q0B3,q003,ixvV,ixaV,q007,w1,w2,w3,w4,c0,c1,c2,c3,c4]
theorem q0ve (t:Tot) (h:Int) (H:Heap):clD EE (.p (.fn 297)) [vTot t,vI h] H=some (vB (q04u t h),none):=by
 rw [q002 _ _ _ _ _ _ (noP _) fn297]
 have f:=fun H=>q0ro t H
 unfold q04u
 cases c:q03k t with
 |false=>simp [zEc,f,c]
 |true=>by_cases d: -1125899906842624<=h<;>simp [zEc,f,c,d]
theorem q0Cm (t:Tot) (H:Heap):clD EE (.p (.fn 298)) [vTot t] H=some (vI (ordT t),none):=by
 rw [q002 _ _ _ _ _ _ (noP _) fn298]
 have w0:IntKind.i64.wrap 0=0:=by decide
 have w1:IntKind.i64.wrap 1=1:=by decide
 have w2:IntKind.i64.wrap 2=2:=by decide
 unfold ordT
 by_cases c3:t.s3=0
 ·by_cases c2:t.s2=0
  ·by_cases c1:t.s1=0
   ·simp [zEc,q17r,q003,ixaV,q007,w0,w1,w2,c3,c2,c1]
   ·simp [zEc,q17r,q003,ixaV,q007,w0,w1,w2,c3,c2,c1]
  ·simp [zEc,q17r,q003,ixaV,q007,w0,w1,w2,c3,c2]
 ·simp [zEc,q17r,q003,ixaV,q007,w0,w1,w2,c3]
theorem q0j5 {t:Tot} {h:Int} (r:q04u t h=true):(0<=t.nat/\t.nat<=1125899906842624)/\(0<=t.shr/\t.shr<=1125899906842624)/\ -1125899906842624<=h/\h<=1125899906842624:=by
 unfold q04u q03k fairL at r
 simp at r
 omega
theorem q0vf (t:Tot) (h:Int) (last:Bool) (H:Heap):clD EE (.p (.fn 188)) [vTot t,vI h,vB last] H=some (vSet (q07f t h last),none):=by
 rw [q002 _ _ _ _ _ _ (noP _) fn188]
 have r:=fun H=>q0ve t h H
 have o:=fun H=>q0Cm t H
 unfold q07f
 cases c:q04u t h with
 |false=>simp [zEc,r,c,zeroG]
 |true=>
  have bd:=q0j5 c
  obtain ⟨need,hneed⟩: ∃n,h-t.nat=n:=⟨_,rfl⟩
  have w1:IntKind.i64.wrap (h-t.nat)=need:=by rw [hneed];exact w64 (by omega) (by omega)
  have w2:IntKind.i64.wrap (t.shr+need)=t.shr+need:=w64 (by omega) (by omega)
  have w3:IntKind.i64.wrap (-need)= -need:=w64 (by omega) (by omega)
  have ho:(ordT t=0/\strT t (ordT t)=t.s0)\/(ordT t=1/\strT t (ordT t)=t.s1)\/(ordT t=2/\strT t (ordT t)=t.s2)\/(ordT t=3/\strT t (ordT t)=t.s3):=by
   unfold ordT
   (repeat' split)<;>simp [strT]
  simp only [hneed]
  clear hneed bd
  generalize strT t (ordT t)=str at*
  generalize ordT t=od at*
  simp only [if_true]
  by_cases n0:need=0
  ·subst n0
   simp [zEc,r,c,o,w1,zeroG]
  ·by_cases n1:0<need
   ·rcases ho with ⟨rfl,rfl⟩|⟨rfl,rfl⟩|⟨rfl,rfl⟩|⟨rfl,rfl⟩
    ·by_cases s:0<t.s0
     ·cases last<;>simp [zEc,ixaV,q007,r,c,o,w1,w2,n0,n1,s]
     ·simp [zEc,ixaV,q007,r,c,o,w1,w2,n0,n1,s]
    ·by_cases s:0<t.s1
     ·cases last<;>simp [zEc,ixaV,q007,r,c,o,w1,w2,n0,n1,s]
     ·simp [zEc,ixaV,q007,r,c,o,w1,w2,n0,n1,s]
    ·by_cases s:0<t.s2
     ·cases last<;>simp [zEc,ixaV,q007,r,c,o,w1,w2,n0,n1,s]
     ·simp [zEc,ixaV,q007,r,c,o,w1,w2,n0,n1,s]
    ·by_cases s:0<t.s3
     ·cases last<;>simp [zEc,ixaV,q007,r,c,o,w1,w2,n0,n1,s]
     ·simp [zEc,ixaV,q007,r,c,o,w1,w2,n0,n1,s]
   ·by_cases n2:0<=t.shr+need
    ·simp [zEc,r,c,o,w1,w2,w3,n0,n1,n2]
    ·simp [zEc,r,c,o,w1,w2,n0,n1,n2]
def highA (g:Geom) (fs:List Float) (a b:List Int):Int:=IntKind.i64.wrap (highQ fs a g.sep+highQ fs b g.sep)
def q05p (g:Geom) (fs:List Float) (a:List Int):Int:=if highQ fs a g.sep=0 then 0 else IntKind.i64.wrap (highQ fs a g.sep-min (max g.sep 0) 1125899906842624)
theorem q0oc (g:Geom) (fs:List Float) (a b:List Int) (ha:a.length<=9223372036854775807) (hb:b.length<=9223372036854775807) (H:Heap):clD EE (.p (.fn 196)) [vGeom g,q005 fs,.agg [sli a,sli b]] H=some (vI (highA g fs a b),none):=by
 rw [q002 _ _ _ _ _ _ (noP _) fn196]
 have h1:=fun H=>q0Vw fs a g.sep H ha
 have h2:=fun H=>q0Vw fs b g.sep H hb
 unfold highA
 simp [zEc,h1,h2]
theorem q0mz (g:Geom) (fs:List Float) (a:List Int) (ha:a.length<=9223372036854775807) (H:Heap):clD EE (.p (.fn 197)) [vGeom g,q005 fs,sli a] H=some (vI (q05p g fs a),none):=by
 rw [q002 _ _ _ _ _ _ (noP _) fn197]
 have h1:=fun H=>q0Vw fs a g.sep H ha
 unfold q05p
 by_cases c:highQ fs a g.sep=0<;>simp [zEc,h1,c]
def lastC (l:List Item) (c:Colm):Bool:=decide (c.k=1)&&(decide (c.to=l.length)||match q02g l c.to with|some x=>decide (0<c.to)&&q05z x|none=>false)
theorem q0z2 (j:Job) (c:Colm) (H:Heap):clD EE (.p (.fn 198)) [vW j,vColm c] H=some (vB (lastC j.items c),none):=by
 rw [q002 _ _ _ _ _ _ (noP _) fn198]
 have l1:=fun H=>q07e j H
 have l2:=fun H=>q021 j.items H
 have l3:=fun H=>q07s j.items c.to H
 have f:=fun x H=>q0j4 x H
 unfold lastC
 by_cases k:c.k=1
 ·by_cases e:c.to=j.items.length
  ·cases h:q02g j.items c.to with
   |none=>rw [h] at l3;simp [zEc,l1,l2,l3,k,<-e]
   |some x=>rw [h] at l3;simp [zEc,l1,l2,l3,k,<-e]
  ·cases h:q02g j.items c.to with
   |none=>rw [h] at l3;simp [zEc,l1,l2,l3,k,e]
   |some x=>
    rw [h] at l3
    by_cases p:0<c.to<;>simp [zEc,l1,l2,l3,k,e,p,f]
 ·simp [zEc,k]
structure Fcts where
 notes:Int
 floats:Int
 room:Int
 last:Bool
 over:Bool
 set_:Setg
def zeroF:Fcts:=⟨0,0,0,false,false,zeroG⟩
abbrev vFcts (f:Fcts):V:= .agg [vI f.notes,vI f.floats,vI f.room,vB f.last,vB f.over,vI f.set_.how,vI f.set_.ord,vI f.set_.by_,vI f.set_.of_,vI f.set_.left]
def q05b (j:Job) (c:Colm):Int:=if c.k=1 then highA j.g j.floats c.top c.bot else if c.k=2 then q05p j.g j.floats c.top else 0
def roomC (j:Job) (s:Stt) (c:Colm):Int:=IntKind.i64.wrap (IntKind.i64.wrap (highS j s-highP j.notes c.notes j.g.rule)-q05b j c)
def fullC (j:Job) (c:Colm):Bool:=decide (0<c.notes.length)&&decide (j.g.noteMost<highP j.notes c.notes j.g.rule)
def setC (j:Job) (s:Stt) (c:Colm):Setg:=q07f (sumT j.items s.at_ c.to) (roomC j s c) (lastC j.items c)
def q02r (j:Job) (s:Stt) (c:Colm):Fcts:=
 if q01g j s=true then
  ⟨highP j.notes c.notes j.g.rule,q05b j c,roomC j s c,lastC j.items c,
   if c.k=1 then fullC j c||decide ((setC j s c).how=3) else fullC j c||decide (roomC j s c<0),
   if c.k=1 then setC j s c else zeroG⟩
 else zeroF
theorem q0Xp (j:Job) (w:okW j) (hf: ∀x∈j.items,fairI x) (s:Stt) (c:Colm) (c1:c.notes.length<=1000000) (c2:c.top.length<=9223372036854775807) (c3:c.bot.length<=9223372036854775807) (H:Heap):
  clD EE (.p (.fn 89)) [vW j,vStt s,vColm c] H=some (vFcts (q02r j s c),none):=by
 rw [q002 _ _ _ _ _ _ (noP _) fn89]
 have r:=fun H=>q03r j w s H
 have pl:=fun H=>q07d j H
 have sh:=fun H=>q0mv j.notes c.notes j.g.rule w.lines c1 H
 have ah:=fun H=>q0oc j.g j.floats c.top c.bot c2 c3 H
 have as:=fun H=>q0mz j.g j.floats c.top c2 H
 have hi:=fun H=>q0v9 j w s H
 have la:=fun H=>q0z2 j c H
 have su:=fun H=>q0z0 j H
 have so:=fun H=>q0vd j.items w.n1 hf s.at_ c.to H
 have gs:=fun H=>q0vf (sumT j.items s.at_ c.to) (roomC j s c) (lastC j.items c) H
 unfold q02r
 cases b:q01g j s with
 |false=>
  rw [b] at r
  simp [zEc,r,zeroF,zeroG]
 |true=>
  rw [b] at r
  have e:setC j s c=q07f (sumT j.items s.at_ c.to) (roomC j s c) (lastC j.items c):=rfl
  rw [<-e] at gs
  have hr:roomC j s c=IntKind.i64.wrap (IntKind.i64.wrap (highS j s-highP j.notes c.notes j.g.rule)-q05b j c):=rfl
  generalize setC j s c=G at*
  have hfu:fullC j c=(decide (0<c.notes.length)&&decide (j.g.noteMost<highP j.notes c.notes j.g.rule)):=rfl
  have hfl:q05b j c=if c.k=1 then highA j.g j.floats c.top c.bot else if c.k=2 then q05p j.g j.floats c.top else 0:=rfl
  generalize lastC j.items c=L at*
  generalize highA j.g j.floats c.top c.bot=A1 at*
  generalize q05p j.g j.floats c.top=A2 at*
  generalize sumT j.items s.at_ c.to=T at*
  generalize roomC j s c=R at*
  generalize highP j.notes c.notes j.g.rule=hp at*
  generalize highS j s=hs at*
  generalize q05b j c=F at*
  generalize fullC j c=U at*
  simp only [vJob,vGeom,cGeom,Zd,Zf] at pl ah as
  have hn:(0:Int)<c.notes.length↔0<c.notes.length:=by omega
  by_cases k1:c.k=1
  ·rw [if_pos k1] at hfl
   subst hfl
   simp only [vColm,k1] at la
   by_cases n0:0<c.notes.length
   ·simp only [n0,decide_true,ZV] at hfu
    by_cases q:j.g.noteMost<hp<;>simp only [q,decide_true,decide_false] at hfu<;>subst hfu<;>
     simp [zEc,fldvV,r,pl,sh,ah,hi,la,su,so,gs,k1,hn,n0,<-hr,q]
   ·simp only [n0,decide_false,Bool.false_and] at hfu
    subst hfu
    simp [zEc,fldvV,r,pl,sh,ah,hi,la,su,so,gs,k1,hn,n0,<-hr]
  ·rw [if_neg k1] at hfl
   by_cases k2:c.k=2
   ·rw [if_pos k2] at hfl
    subst hfl
    simp only [vColm,k2] at la
    by_cases n0:0<c.notes.length
    ·simp only [n0,decide_true,ZV] at hfu
     by_cases q:j.g.noteMost<hp<;>simp only [q,decide_true,decide_false] at hfu<;>subst hfu<;>
      simp [zEc,fldvV,r,pl,sh,as,hi,la,k1,k2,hn,n0,<-hr,q,zeroG]
    ·simp only [n0,decide_false,Bool.false_and] at hfu
     subst hfu
     simp [zEc,fldvV,r,pl,sh,as,hi,la,k1,k2,hn,n0,<-hr,zeroG]
   ·rw [if_neg k2] at hfl
    subst hfl
    rw [Int.sub_zero] at hr
    by_cases n0:0<c.notes.length
    ·simp only [n0,decide_true,ZV] at hfu
     by_cases q:j.g.noteMost<hp<;>simp only [q,decide_true,decide_false] at hfu<;>subst hfu<;>
      simp [zEc,fldvV,r,pl,sh,hi,la,k1,k2,hn,n0,<-hr,q,zeroG]
    ·simp only [n0,decide_false,Bool.false_and] at hfu
     subst hfu
     simp [zEc,fldvV,r,pl,sh,hi,la,k1,k2,hn,n0,<-hr,zeroG]
theorem q0z3 (j:Job) (w:okW j) (hf: ∀x∈j.items,fairI x) (s:Stt) (c:Colm) (c1:c.notes.length<=1000000) (c2:c.top.length<=1000000) (c3:c.bot.length<=1000000) (H:Heap):
  clD EE (.p (.fn 89)) [vW j,vStt s,vColm c] H=some (vFcts (q02r j s c),none):=q0Xp j w hf s c c1 (by omega) (by omega) H
def forbX (x:Item):Bool:=decide (x.k=3)&&decide (10000<=x.n)
theorem q0Cn (x:Item) (H:Heap):clD EE (.p (.fn 311)) [vItem x] H=some (vB (forbX x),none):=by
 rw [q002 _ _ _ _ _ _ (noP _) fn311]
 unfold forbX
 by_cases h:x.k=3<;>simp [zEc,h]
def mayV (l:List Item) (n:Int):Bool:=
 if n<1\/(l.length:Int)<n then false else match q02g l n with
  |none=>true
  |some x=>if x.k=2 then !q0fl (rd l (n-1)) else if x.k=3 then !forbX x else false
theorem q0Co (l:List Item) (hl:l.length<=1000000) (n:Int) (H:Heap):clD EE (.p (.fn 201)) [q00d l,vI n] H=some (vB (mayV l n),none):=by
 rw [q002 _ _ _ _ _ _ (noP _) fn201]
 have l2:=fun H=>q021 l H
 have l3:=fun H=>q07s l n H
 have f:=fun x H=>q0Cn x H
 have lo:=fun x H=>q0yz x H
 unfold mayV
 by_cases c1:n<1
 ·cases h:q02g l n with
  |none=>rw [h] at l3;simp [zEc,l2,l3,c1]
  |some x=>rw [h] at l3;simp [zEc,l2,l3,c1]
 ·by_cases c2:(l.length:Int)<n
  ·cases h:q02g l n with
   |none=>rw [h] at l3;simp [zEc,l2,l3,c1,c2]
   |some x=>rw [h] at l3;simp [zEc,l2,l3,c1,c2]
  ·cases h:q02g l n with
   |none=>rw [h] at l3;simp [zEc,l2,l3,c1,c2]
   |some x=>
    rw [h] at l3
    have w:IntKind.i64.wrap (n-1)=n-1:=w64 (by omega) (by omega)
    have hx:=q026 l (n-1) (by omega) (by omega)
    have hix:=fun H k=>q024 H q004 (k:=k) (s:=7) (by omega) hx rfl
    simp only [q004] at hix
    by_cases k2:x.k=2
    ·simp only [q00d] at l2 l3⊢
     simp [zEc,l2,l3,c1,c2,k2,w,hix,lo]
    ·by_cases k3:x.k=3
     ·have f1:=fun H=>f x H
      simp only [vItem,k3] at f1
      simp [zEc,l2,l3,c1,c2,k3,f1]
     ·simp [zEc,l2,l3,c1,c2,k2,k3]
def fwdB:List Item->Nat->Int
 |[],_=> -1
 |x::r,i=>if x.k=1 then i else fwdB r (i+1)
def bwdB (l:List Item):Nat->Int
 |0=> -1
 |n+1=>if (rd l (n:Int)).k=1 then n else bwdB l n
theorem q12a (l:List Item) (hl:l.length<=1000000) (H:Heap) (B:Nat): ∀(n i:Nat),l.length-i=n->
  ∃env,evD EE q16x ⟨[(0,q00d l),(2,vI 1),(7,vI (-1)),(8,vI i)],[],H,B,[]⟩=some (.exit 0,⟨env,[],H,B,[]⟩)/\getE env 7=vI (fwdB (l.drop i) i)
 |0,i,hn=>by
  have l2:=fun H=>q021 l H
  have c: ¬i<l.length:=by omega
  refine ⟨[(0,q00d l),(2,vI 1),(7,vI (-1)),(8,vI i),(19,vB false)],?_,?_⟩
  ·unfold q16x
   rw [q003]
   simp [l2,c]
  ·rw [List.drop_eq_nil_of_le (by omega)];simp [fwdB]
 |n+1,i,hn=>by
  have l2:=fun H=>q021 l H
  have c:i<l.length:=by omega
  have l3:=fun H=>q07s l i H
  have hx:l[i]? =some l[i]:=Zl c
  rw [q06n,hx] at l3
  rw [ZA c,fwdB]
  generalize l[i]=x at*
  have w:IntKind.i64.wrap ((i:Int)+1)=((i+1:Nat):Int):=w64 (by omega) (by omega)
  by_cases k:x.k=1
  ·refine ⟨[(7,vI i)],?_,by rw [if_pos k];simp⟩
   unfold q16x
   rw [q003]
   simp [l2,l3,c,k,subs,q001]
  ·obtain ⟨env,h1,h2⟩:=q12a l hl H B n (i+1) (by omega)
   refine ⟨env,?_,by rw [if_neg k];exact h2⟩
   rw [<-h1]
   conv=>lhs;unfold q16x
   rw [q003]
   simp [l2,l3,c,k,subs,q001,w]
   rfl
theorem q12b (l:List Item) (hl:l.length<=1000000) (H:Heap) (B:Nat): ∀(n:Nat),n<=l.length->
  ∃env,evD EE q16x ⟨[(0,q00d l),(2,vI (-1)),(7,vI (-1)),(8,vI ((n:Int)-1))],[],H,B,[]⟩=some (.exit 0,⟨env,[],H,B,[]⟩)/\getE env 7=vI (bwdB l n)
 |0,hn=>by
  refine ⟨[(0,q00d l),(2,vI (-1)),(7,vI (-1)),(8,vI (-1)),(19,vB false)],?_,by simp [bwdB]⟩
  unfold q16x
  rw [q003]
  simp
 |n+1,hn=>by
  have l2:=fun H=>q021 l H
  have l3:=fun H=>q07s l n H
  have c:n<l.length:=by omega
  have hx:l[n]? =some l[n]:=Zl c
  have hr:rd l (n:Int)=l[n]:=by
   have:=q026 l (n:Int) (by omega) (by omega)
   simp at this
   rw [hx] at this;simpa using this.symm
  rw [q06n,hx] at l3
  rw [bwdB,hr]
  generalize l[n]=x at*
  have e:((n+1:Nat):Int)-1=n:=by omega
  rw [e]
  have w:IntKind.i64.wrap ((n:Int)+ -1)=(n:Int)-1:=w64 (by omega) (by omega)
  by_cases k:x.k=1
  ·refine ⟨[(7,vI n)],?_,by rw [if_pos k];simp⟩
   unfold q16x
   rw [q003]
   simp [l2,l3,c,k,subs,q001]
  ·obtain ⟨env,h1,h2⟩:=q12b l hl H B n (by omega)
   refine ⟨env,?_,by rw [if_neg k];exact h2⟩
   rw [<-h1]
   conv=>lhs;unfold q16x
   rw [q003]
   simp [l2,l3,c,k,subs,q001,w]
   rfl
end Go.EnvOf
