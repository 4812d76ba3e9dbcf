/- The program's functions and the document's, evaluated. -/
import Derived.Test.YtpibjnnbploadaaGreatText5
import Derived.Test.YtpibjnnbploadaaGreatText2
import Derived.Test.YtpibjnnbploadaaGreatText3
set_option linter.unusedSimpArgs false
set_option linter.unusedVariables false
namespace Go.EnvOf
open Go Go.Eng
set_option maxRecDepth 100000
structure Colm where
 k:Int
 frm:Int
 to:Int
 notes:List Piece
 top:List Int
 bot:List Int
 deriving Inhabited,DecidableEq
abbrev vColm (c:Colm):V:= .agg [vI c.k,vI c.frm,vI c.to,q07r c.notes,sli c.top,sli c.bot]
def zeroS:Stt:=⟨0,0,0,0,⟨0,0,0⟩⟩
def nextS (j:Job) (s:Stt) (c:Colm):Stt:=
 if q01j j s=true then ⟨if c.k=1 then trimF j.items c.to else s.at_,min (s.col+1) j.g.cols,(nextF j.notes (spotS j s c.to) c.notes).1,(nextF j.notes (spotS j s c.to) c.notes).2,addC (addC s.h (ofL j.floats c.top)) (ofL j.floats c.bot)⟩ else zeroS
theorem q0si (s:Int) (x:Item):(itemG s x).k=x.k:=by unfold itemG;(repeat' split)<;>rfl
theorem q0vp (s:Int) (x:Item):(itemG s x).n=x.n:=by unfold itemG;(repeat' split)<;>rfl
theorem q0d7 (j:Job): ∃f:Item→Item,(snapG j).items=j.items.map f∧ ∀x,(f x).k=x.k∧(f x).n=x.n:=by
 unfold snapG
 split
 ·exact ⟨fun x=>x,by simp,fun x=>⟨rfl,rfl⟩⟩
 ·exact ⟨itemG j.g.grid,rfl,fun x=>⟨q0si _ x,q0vp _ x⟩⟩
theorem q09y (j:Job):(snapG j).notes.length=j.notes.length:=by unfold snapG;split<;>simp
theorem q0f8 (j:Job):(snapG j).floats.length=j.floats.length:=by unfold snapG;split<;>simp
theorem q0f9 (j:Job):(snapG j).items.length=j.items.length:=by unfold snapG;split<;>simp
theorem q0fa (j:Job):(snapG j).g.cols=j.g.cols:=by unfold snapG;split<;>rfl
theorem q0ij {k:Int} {l:List Item} (h: ∀x∈l,x.k≠k):cnt k l=0:=by
 unfold cnt
 rw [List.length_eq_zero_iff,List.filter_eq_nil_iff]
 intro x hx;simpa using h x hx
theorem q0lb (k:Int) (f:Item→Item) (hf: ∀x,(f x).k=x.k) (l:List Item):cnt k (l.map f)=cnt k l:=by
 unfold cnt
 induction l with
 |nil=>rfl
 |cons x r ih=>simp only [List.map_cons,List.filter_cons,hf];split<;>simp [ih]
theorem q07t {α:Type} (p:α→Bool) (l:List α):l.take (l.takeWhile p).length=l.takeWhile p:=(List.prefix_iff_eq_take.1 (List.takeWhile_prefix p)).symm
theorem q044 {α:Type} {p:α→Bool}: ∀ {l:List α} {x:α},x∈l.takeWhile p→p x=true
 |y::r,x,h=>by
  rw [List.takeWhile_cons] at h
  split at h
  ·rename_i hy
   rcases List.mem_cons.1 h with rfl|h
   ·exact hy
   ·exact q044 h
  ·cases h
theorem q0pb (l:List Item):putN l 0=0:=by unfold putN;omega
theorem q0mk (l:List Item):trimF l 0=(l.takeWhile q031).length:=by unfold trimF;rw [q0pb];simp [trimN]
theorem q0pc {l:List Item} {n:Nat} (h:n≤l.length):trimF l n=trimN l n:=by unfold trimF;rw [q0ak h]
theorem q0sj {c:C3} (h:0≤c.a∧0≤c.b∧0≤c.c):inC zeroC c=true:=by simp [inC,zeroC,h]
theorem q0pd {l:List Item} {x:Item} (h:x∈l.take (l.takeWhile q031).length):x.k=2∨x.k=3:=by
 rw [q07t] at h
 simpa [q031] using q044 h
theorem q0jz {J:Job} (hc:1≤J.g.cols):q01j J (q05m J)=true:=by
 have hle:=q0bs J.items 0
 have h1:trimF J.items (trimF J.items 0:Int)=trimF J.items 0:=by
  rw [q0pc hle];exact q0d4 _ _
 have hz:=q0mk J.items
 have hb:q00c J (trimF J.items 0:Int)=0:=by
  unfold q00c q00o
  rw [q0ak hle,q0ij];rfl
  intro x hx
  rw [hz] at hx
  have:=q0pd hx;omega
 have ha:=q09w J.floats (J.items.take (putN J.items (trimF J.items 0)))
 have hin:inC zeroC (q00s J (trimF J.items 0:Int))=true:=q0sj ⟨ha.1,ha.2.1,ha.2.2.1⟩
 have hin2:inC zeroC zeroC=true:=rfl
 unfold q01j q05m
 rw [if_neg (by simp only [h1];omega)]
 simp [q03s,hb,hin,hin2]
def hpOf (H:Heap):Option (Heap×List Nat)→Heap
 |none=>H
 |some x=>x.1
def dsOf:Option (Heap×List Nat)→List Nat
 |none=>[]
 |some x=>x.2
theorem q03t {H:Heap} {q:Nat} {cs:List V} (h:Eng.boxAt H q=some cs):q<H.length:=by
 unfold Eng.boxAt at h
 rcases Nat.lt_or_ge q H.length with g|g
 ·exact g
 ·rw [List.getElem?_eq_none g] at h;cases h
theorem q0sk {B i x:Nat} {d:List Nat} (h:x∈d):x∈addD B i d:=by
 unfold addD
 split
 ·exact List.mem_cons_of_mem _ h
 ·exact h
theorem q0pe {B x:Nat} {d:List Nat} (h:x<B):x∈addD B x d:=by
 unfold addD
 rw [if_pos h]
 exact List.mem_cons_self
theorem q08k {B x:Nat}: ∀ {ds d:List Nat},x∈ds→x<B→x∈ds.foldr (addD B) d
 |y::ds,d,h,hx=>by
  rcases List.mem_cons.1 h with rfl|h
  ·exact q0pe hx
  ·exact q0sk (q08k h hx)
theorem q05n {B x:Nat}: ∀ {ds d:List Nat},x∈ds.foldr (addD B) d→x∈ds∨x∈d
 |[],_,h=> .inr h
 |y::ds,d,h=>by
  simp only [List.foldr_cons,addD] at h
  split at h
  ·rcases List.mem_cons.1 h with rfl|h
   ·exact .inl List.mem_cons_self
   ·rcases q05n h with h|h
    ·exact .inl (List.mem_cons_of_mem _ h)
    ·exact .inr h
  ·rcases q05n h with h|h
   ·exact .inl (List.mem_cons_of_mem _ h)
   ·exact .inr h
theorem rd_of {α:Type} [Inhabited α] {l:List α} {i:Nat} {x:α} (h:l[i]? =some x):rd l i=x:=by
 unfold rd
 simp [List.getD,h]
def encC3 (c:C3):List PV:=[.int .i64 c.a,.int .i64 c.b,.int .i64 c.c]
@[simp] theorem q0Gq (c:C3):(encC3 c).length=3:=rfl
def q007 (l:List Item):V:= .eptr [q00d l] 0
def q00w (l:List Item):V:= .eptr [q00d l,.p (.sl ((preL totP l (l.length+1)).map q01v)),sli (preL boxP l (l.length+1))] 0
def vMapW (l:List Item) (fs:List Float):V:= .eptr [q00d l,sli (preL q00o l (l.length+1)),.p (.sl ((preL (q00e fs) l (l.length+1)).map encC3)),.p (.sl ((preL (dueP fs) l (l.length+1)).map encC3))] 0
def q00f (j:Job):V:= .eptr [q007 j.items,q00w j.items,vMapW j.items j.floats] 0
def preN (l:List Note):List Int:=(List.range (l.length+1)).map fun k=>lineN (l.take k)
abbrev cJobW (j:Job):List V:=cGeom j.g++[q00d j.items,q00v j.notes,q00q j.floats]
def vW (j:Job):V:= .eptr (q00f j::(cJobW j++[sli (preN j.notes),vI (allS j).a,vI (allS j).b,vI (allS j).c])) 0
section
variable (l:List Item)
@[simp] theorem q0xd (k:Nat):q00k (q007 l) k=true:=_root_.id rfl
@[simp] theorem q0C3 (k i:Nat):escV k i (q007 l)=(q007 l):=_root_.id rfl
@[simp] theorem q0zd:outL (q007 l)=(q007 l):=_root_.id rfl
@[simp] theorem q0ze:V.notL (q007 l)=true:=_root_.id rfl
@[simp] theorem q0zf:V.outB (q007 l)=true:=_root_.id rfl
@[simp] theorem q0zg:V.oneB (q007 l)=true:=_root_.id rfl
@[simp] theorem q0xe:V.cells (q007 l)=[(q007 l)] :=_root_.id rfl
@[simp] theorem q0xf:normA (q007 l)=(q007 l):=_root_.id rfl
@[simp] theorem q0xg:normC (q007 l)=(q007 l):=_root_.id rfl
@[simp] theorem q0xh:V.isNil .ptr (q007 l)=some false:=_root_.id rfl
@[simp] theorem q0w8:V.plainR (q007 l)=true:=_root_.id rfl
@[simp] theorem q0w9:V.plainB (q007 l)=true:=_root_.id rfl
@[simp] theorem q0C4:solN sd (q007 l)=true:=_root_.id rfl
@[simp] theorem q0ml (b d:Nat) (H:Heap):q00n b H d (q007 l)=[] :=by cases d<;>rfl
@[simp] theorem q0zh (S:St):q012 S (q007 l)=[] :=q0ml _ _ _ _
@[simp] theorem q0Gr (S:St):Eng.freeze S (q007 l)=some (q007 l):=_root_.id rfl
@[simp] theorem q0C5 (S:St):Eng.freezeR S (q007 l)=some (q007 l):=_root_.id rfl
end
section
variable (l:List Item)
@[simp] theorem q0xi (k:Nat):q00k (q00w l) k=true:=_root_.id rfl
@[simp] theorem q0C6 (k i:Nat):escV k i (q00w l)=(q00w l):=_root_.id rfl
@[simp] theorem q0zi:outL (q00w l)=(q00w l):=_root_.id rfl
@[simp] theorem q0zj:V.notL (q00w l)=true:=_root_.id rfl
@[simp] theorem q0zk:V.outB (q00w l)=true:=_root_.id rfl
@[simp] theorem q0zl:V.oneB (q00w l)=true:=_root_.id rfl
@[simp] theorem q0xj:V.cells (q00w l)=[(q00w l)] :=_root_.id rfl
@[simp] theorem q0xk:normA (q00w l)=(q00w l):=_root_.id rfl
@[simp] theorem q0xl:normC (q00w l)=(q00w l):=_root_.id rfl
@[simp] theorem q0xm:V.isNil .ptr (q00w l)=some false:=_root_.id rfl
@[simp] theorem q0wa:V.plainR (q00w l)=true:=_root_.id rfl
@[simp] theorem q0wb:V.plainB (q00w l)=true:=_root_.id rfl
@[simp] theorem q0C7:solN sd (q00w l)=true:=_root_.id rfl
@[simp] theorem q0mm (b d:Nat) (H:Heap):q00n b H d (q00w l)=[] :=by cases d<;>rfl
@[simp] theorem q0zm (S:St):q012 S (q00w l)=[] :=q0mm _ _ _ _
@[simp] theorem q0Gs (S:St):Eng.freeze S (q00w l)=some (q00w l):=_root_.id rfl
@[simp] theorem q0C8 (S:St):Eng.freezeR S (q00w l)=some (q00w l):=_root_.id rfl
end
section
variable (l:List Item) (fs:List Float)
@[simp] theorem q0zn (k:Nat):q00k (vMapW l fs) k=true:=_root_.id rfl
@[simp] theorem q0Gt (k i:Nat):escV k i (vMapW l fs)=(vMapW l fs):=_root_.id rfl
@[simp] theorem q0C9:outL (vMapW l fs)=(vMapW l fs):=_root_.id rfl
@[simp] theorem q0Ca:V.notL (vMapW l fs)=true:=_root_.id rfl
@[simp] theorem q0Cb:V.outB (vMapW l fs)=true:=_root_.id rfl
@[simp] theorem q0Cc:V.oneB (vMapW l fs)=true:=_root_.id rfl
@[simp] theorem q0zo:V.cells (vMapW l fs)=[(vMapW l fs)] :=_root_.id rfl
@[simp] theorem q0zp:normA (vMapW l fs)=(vMapW l fs):=_root_.id rfl
@[simp] theorem q0zq:normC (vMapW l fs)=(vMapW l fs):=_root_.id rfl
@[simp] theorem q0zr:V.isNil .ptr (vMapW l fs)=some false:=_root_.id rfl
@[simp] theorem q0xn:V.plainR (vMapW l fs)=true:=_root_.id rfl
@[simp] theorem q0xo:V.plainB (vMapW l fs)=true:=_root_.id rfl
@[simp] theorem q0Gu:solN sd (vMapW l fs)=true:=_root_.id rfl
@[simp] theorem q0pf (b d:Nat) (H:Heap):q00n b H d (vMapW l fs)=[] :=by cases d<;>rfl
@[simp] theorem q0Cd (S:St):q012 S (vMapW l fs)=[] :=q0pf _ _ _ _ _
@[simp] theorem q0Kb (S:St):Eng.freeze S (vMapW l fs)=some (vMapW l fs):=_root_.id rfl
@[simp] theorem q0Gv (S:St):Eng.freezeR S (vMapW l fs)=some (vMapW l fs):=_root_.id rfl
end
section
variable (j:Job)
@[simp] theorem q0xp (k:Nat):q00k (q00f j) k=true:=_root_.id rfl
@[simp] theorem q0Ce (k i:Nat):escV k i (q00f j)=(q00f j):=_root_.id rfl
@[simp] theorem q0zs:outL (q00f j)=(q00f j):=_root_.id rfl
@[simp] theorem q0zt:V.notL (q00f j)=true:=_root_.id rfl
@[simp] theorem q0zu:V.outB (q00f j)=true:=_root_.id rfl
@[simp] theorem q0zv:V.oneB (q00f j)=true:=_root_.id rfl
@[simp] theorem q0xq:V.cells (q00f j)=[(q00f j)] :=_root_.id rfl
@[simp] theorem q0xr:normA (q00f j)=(q00f j):=_root_.id rfl
@[simp] theorem q0xs:normC (q00f j)=(q00f j):=_root_.id rfl
@[simp] theorem q0xt:V.isNil .ptr (q00f j)=some false:=_root_.id rfl
@[simp] theorem q0wc:V.plainR (q00f j)=true:=_root_.id rfl
@[simp] theorem q0wd:V.plainB (q00f j)=true:=_root_.id rfl
@[simp] theorem q0Cf:solN sd (q00f j)=true:=_root_.id rfl
@[simp] theorem q0mn (b d:Nat) (H:Heap):q00n b H d (q00f j)=[] :=by cases d<;>rfl
@[simp] theorem q0zw (S:St):q012 S (q00f j)=[] :=q0mn _ _ _ _
@[simp] theorem q0Gw (S:St):Eng.freeze S (q00f j)=some (q00f j):=_root_.id rfl
@[simp] theorem q0Cg (S:St):Eng.freezeR S (q00f j)=some (q00f j):=_root_.id rfl
end
section
variable (j:Job)
@[simp] theorem q0Kc (k:Nat):q00k (vW j) k=true:=_root_.id rfl
@[simp] theorem q0Mu (k i:Nat):escV k i (vW j)=(vW j):=_root_.id rfl
@[simp] theorem q0M5:outL (vW j)=(vW j):=_root_.id rfl
@[simp] theorem q0M6:V.notL (vW j)=true:=_root_.id rfl
@[simp] theorem q0M7:V.outB (vW j)=true:=_root_.id rfl
@[simp] theorem q0M8:V.oneB (vW j)=true:=_root_.id rfl
@[simp] theorem q0Kd:V.cells (vW j)=[(vW j)] :=_root_.id rfl
@[simp] theorem q0Ke:normA (vW j)=(vW j):=_root_.id rfl
@[simp] theorem q0Kf:normC (vW j)=(vW j):=_root_.id rfl
@[simp] theorem q0Kg:V.isNil .ptr (vW j)=some false:=_root_.id rfl
@[simp] theorem q0Gx:V.plainR (vW j)=true:=_root_.id rfl
@[simp] theorem q0Gy:V.plainB (vW j)=true:=_root_.id rfl
@[simp] theorem q0Mv:solN sd (vW j)=true:=_root_.id rfl
@[simp] theorem q0xu (b d:Nat) (H:Heap):q00n b H d (vW j)=[] :=by cases d<;>rfl
@[simp] theorem q0M9 (S:St):q012 S (vW j)=[] :=q0xu _ _ _ _
@[simp] theorem vW_fz (S:St):Eng.freeze S (vW j)=some (vW j):=_root_.id rfl
@[simp] theorem q0Mw (S:St):Eng.freezeR S (vW j)=some (vW j):=_root_.id rfl
end
def q03c (l:List Item) (n:Int):Option Item:=if 0≤n∧n<l.length then some (rd l n) else none
theorem q0d8 (l:List Item) (n:Nat):q03c l n=l[n]? :=by
 unfold q03c
 by_cases h:n<l.length
 ·rw [if_pos ⟨by omega,by omega⟩,List.getElem?_eq_getElem h,rd_of (List.getElem?_eq_getElem h)]
 ·rw [if_neg (by omega),List.getElem?_eq_none (by omega)]
theorem q0pg (x:Item) (H:Heap):clD EE (.p (.fn 347)) [vItem x] H=some (vB (q031 x),none):=by
 rw [q002 _ _ _ _ _ _ (noP _) fn347]
 unfold q031
 by_cases h:x.k=2<;>simp [St.enter,q000,subs,q001,h]
theorem q027 (l:List Item) (H:Heap):clD EE (.p (.fn 82)) [q007 l] H=some (vI l.length,none):=by
 rw [q002 _ _ _ _ _ _ (noP _) fn82]
 simp [q007,St.enter,q000,subs,q001]
theorem q0fb (l:List Item) (n:Int) (H:Heap):clD EE (.p (.fn 286)) [q007 l,vI n] H=some (.tup [match q03c l n with|some x=>vItem x|none=> .agg [vI 0,vI 0,vI 0,vI 0,vI 0,vI 0,vI 0],vB (q03c l n).isSome],none):=by
 rw [q002 _ _ _ _ _ _ (noP _) fn286]
 have hl:=fun H=>q027 l H
 unfold q03c
 simp only [q007] at hl⊢
 by_cases h1:n<0
 ·simp [St.enter,q000,subs,q001,h1,show¬0≤n by omega]
 ·by_cases h2:(l.length:Int)≤n
  ·simp [St.enter,q000,subs,q001,h1,h2,hl,show¬n<l.length by omega]
  ·have hx:=q041 l n (by omega) (by omega)
   have hix:=fun H k=>q05y H q005 (k:=k) (s:=7) (by omega) hx rfl
   simp [St.enter,q000,subs,q001,h1,h2,hl,show 0≤n∧n<l.length by omega,hix,q005]
theorem q0sl (l:List Item) (n:Nat) (H:Heap):clD EE (.p (.fn 218)) [q007 l,vI n] H=some (vB (stayB l n),none):=by
 rw [q002 _ _ _ _ _ _ (noP _) fn218]
 have h:=fun H=>q0fb l n H
 rw [q0d8] at h
 unfold stayB
 cases hx:l[n]? with
 |none=>
  simp only [hx] at h
  simp only [q007] at h⊢
  simp [St.enter,q000,subs,q001,h]
 |some x=>
  simp only [hx] at h
  have lo:=fun H=>q0pg x H
  simp only [q007] at h⊢
  simp [St.enter,q000,subs,q001,h,lo]
theorem q0vq (l:List Item) (hv:V) (p:Nat→Bool) (hl:l.length≤1000000) (H:Heap) (hH: ∀n:Nat,n≤l.length→clD EE hv [vI n] H=some (vB (p n),none)): ∀(k n:Nat),n≤l.length+1→l.length+1-n=k→
  evD EE q07l ⟨[(0,q007 l),(2,hv),(7,vI n)],[],H,H.length,[]⟩=some (if seekP p k n= -1 then (.exit 0,⟨[(0,q007 l),(2,hv),(7,vI (l.length+1)),(12,vB false)],[],H,H.length,[]⟩) else (.ret,⟨[(6,vI (seekP p k n))],[],H,H.length,[]⟩)):=by
 intro k
 induction k with
 |zero=>
  intro n h1 h2
  have e:n=l.length+1:=by omega
  subst e
  have hle:=fun H=>q027 l H
  unfold q07l
  rw [q009]
  simp only [q007] at hle⊢
  simp [seekP,hle,show¬(l.length:Int)+1≤l.length by omega]
 |succ k ih=>
  intro n h1 h2
  have hle:=fun H=>q027 l H
  have c:(n:Int)≤l.length:=by omega
  have w:IntKind.i64.wrap ((n:Int)+1)=((n+1:Nat):Int):=w64 (by omega) (by omega)
  have hp:=hH n (by omega)
  simp only [seekP]
  by_cases hb:p n=true
  ·rw [hb] at hp
   have hne: ¬(n:Int)= -1:=by omega
   simp only [if_pos hb,if_neg hne]
   unfold q07l
   rw [q009]
   simp only [q007] at hle⊢
   simp [hle,c,hp]
  ·have hb':p n=false:=by simpa using hb
   rw [hb'] at hp
   have key:=ih (n+1) (by omega) (by omega)
   simp only [if_neg hb]
   rw [←key]
   conv=>lhs;unfold q07l
   rw [q009]
   simp only [q007] at hle⊢
   simp [hle,c,hp,w]
   rfl
theorem q0lc (l:List Item) (n:Nat) (hv:V) (p:Nat→Bool) (hl:l.length≤1000000) (H:Heap) (hH: ∀n:Nat,n≤l.length→clD EE hv [vI n] H=some (vB (p n),none)) (h1:n≤l.length+1) (ho:hv.outB=true) (hn:normA hv=hv):
  clD EE (.p (.fn 217)) [q007 l,vI n,hv] H=some (vI (seekP p (l.length+1-n) n),none):=by
 rw [q002 _ _ _ _ _ _ (noP _) fn217]
 have k:=q0vq l hv p hl H hH _ n h1 rfl
 by_cases h:seekP p (l.length+1-n) n= -1
 ·rw [if_pos h] at k
  simp only [q007] at k⊢
  simp [St.enter,q000,k,h]
 ·rw [if_neg h] at k
  simp only [q007] at k⊢
  simp [St.enter,q000,k]
theorem q0dz (l:List Item) (n:Int) (hl:l.length≤1000000) (H:Heap):clD EE (.p (.fn 87)) [q007 l,vI n] H=some (vI (trimF l n),none):=by
 rw [q002 _ _ _ _ _ _ (noP _) fn87]
 have hle:=fun H=>q027 l H
 have hk:min (max n 0) (l.length:Int)=(putN l n:Int):=by unfold putN;omega
 have hp:=q07s l n
 have s:=fun H=>q0lc l (putN l n) (.fn (.func 218) [q007 l] []) (stayB l) hl H (fun m _=>by rw [q029];exact q0sl l m H) (by omega) rfl rfl
 have e:=q0f5 l _ (putN l n) hp rfl
 rw [e] at s
 unfold trimF
 simp only [q007] at hle s⊢
 simp [St.enter,q000,hle,hk,s]
section
variable (l:List Item) (fs:List Float) (hl:l.length≤1000000)
theorem q0bt (n:Int) (H:Heap):clD EE (.p (.fn 202)) [vMapW l fs,vI n] H=some (.tup [vI (putN l n),vB true],none):=by
 rw [q002 _ _ _ _ _ _ (noP _) fn202]
 have hk:min (max n 0) (l.length:Int)=(putN l n:Int):=by unfold putN;omega
 simp only [vMapW]
 simp [St.enter,q000,subs,q001,hk]
theorem q0bu (n:Int) (H:Heap):clD EE (.p (.fn 254)) [vMapW l fs,vI n] H=some (vI (q00o (l.take (putN l n))),none):=by
 rw [q002 _ _ _ _ _ _ (noP _) fn254]
 have hp:=fun H=>q0bt l fs n H
 have hn:=q07s l n
 have hx:=q05a q00o l (l.length+1) (putN l n) (by omega)
 have hix:=fun H k=>q01q H encI (k:=k) (s:=1) hx rfl
 simp only [vMapW] at hp⊢
 simp [St.enter,q000,subs,q001,hp,hix,encI]
theorem q0bv (n:Int) (H:Heap):clD EE (.p (.fn 77)) [vMapW l fs,vI n] H=some (vC (q00e fs (l.take (putN l n))),none):=by
 rw [q002 _ _ _ _ _ _ (noP _) fn77]
 have hp:=fun H=>q0bt l fs n H
 have hn:=q07s l n
 have hx:=q05a (q00e fs) l (l.length+1) (putN l n) (by omega)
 have hix:=fun H k=>q01q H encC3 (k:=k) (s:=3) hx rfl
 simp only [vMapW] at hp⊢
 simp [St.enter,q000,subs,q001,hp,hix,encC3]
theorem q0ph (n:Int) (H:Heap):clD EE (.p (.fn 253)) [vMapW l fs,vI n] H=some (vC (dueP fs (l.take (putN l n))),none):=by
 rw [q002 _ _ _ _ _ _ (noP _) fn253]
 have hp:=fun H=>q0bt l fs n H
 have hn:=q07s l n
 have hx:=q05a (dueP fs) l (l.length+1) (putN l n) (by omega)
 have hix:=fun H k=>q01q H encC3 (k:=k) (s:=3) hx rfl
 simp only [vMapW] at hp⊢
 simp [St.enter,q000,subs,q001,hp,hix,encC3]
end
structure okW (j:Job):Prop where
 n1:j.items.length≤1000000
 n2:j.notes.length≤1000000
 n3:j.floats.length≤100000
 lines: ∀n∈j.notes,n.lines.length≤1000000
 cols:I64 j.g.cols∧j.g.cols≤1000
 refs:q00o j.items≤j.notes.length
theorem q034 {j:Job} (w:okW j) (n:Int):q00c j n≤j.notes.length:=by
 have h:=w.refs
 unfold q00c q00o at*
 have:=q078 5 j.items (putN j.items n)
 omega
theorem q0fc (j:Job) (n:Int):0≤q00c j n:=(q0f7 _).1
section
variable (j:Job) (w:okW j)
theorem q0bw (H:Heap):clD EE (.p (.fn 100)) [vW j] H=some (vJob j,none):=by
 rw [q002 _ _ _ _ _ _ (noP _) fn100]
 simp only [vW,cJobW,cGeom,List.cons_append,List.nil_append]
 simp [St.enter,q000,subs,q001]
include w in
theorem q0mo (s:Stt) (H:Heap):clD EE (.p (.fn 132)) [vW j,vStt s] H=some (vB (q03s j s),none):=by
 rw [q002 _ _ _ _ _ _ (noP _) fn132]
 have hb:=fun H=>q0bu j.items j.floats s.at_ H
 have hle:=q034 w s.at_
 have hge:=q0fc j s.at_
 change∀H,clD EE _ _ H=some (vI (q00c j s.at_),none) at hb
 have w1:IntKind.i64.wrap (q00c j s.at_-1)=q00c j s.at_-1:=w64 (by have:=w.n2;omega) (by have:=w.n2;omega)
 unfold q03s
 generalize q00c j s.at_=b at*
 simp only [vW,q00f,cJobW,cGeom,List.cons_append,List.nil_append]
 by_cases h0:s.line=0
 ·simp [St.enter,q000,subs,q001,hb,h0]
 ·by_cases h1:s.note=b-1
  ·by_cases h2:s.note<0
   ·simp [St.enter,q000,subs,q001,hb,h0,w1,h1,show b-1<0 by omega]
   ·by_cases h3:s.line<1
    ·simp [St.enter,q000,subs,q001,hb,h0,w1,h1,show¬b-1<0 by omega,h3]
    ·have hx:=q041 j.notes s.note (by omega) (by omega)
     have hix:=fun H k=>q05y H q00g (k:=k) (s:=2) (by omega) hx rfl
     have hl:=w.lines _ (List.mem_of_getElem? hx)
     have hm:=fun H=>q0x7 (rd j.notes s.note).lines (rd j.notes s.note).pens s.line H (by omega)
     rw [h1] at hix hm hl⊢
     simp only [q00g] at hix
     simp only [note,sli] at hm
     by_cases h4:s.line<((rd j.notes (b-1)).lines.length:Int)
     ·simp [St.enter,q000,subs,q001,hb,h0,w1,h1,show¬b-1<0 by omega,h3,hix,h4,hm]
     ·simp [St.enter,q000,subs,q001,hb,h0,w1,h1,show¬b-1<0 by omega,h3,hix,h4]
  ·simp [St.enter,q000,subs,q001,hb,h0,w1,h1]
include w in
theorem q04z (s:Stt) (H:Heap):clD EE (.p (.fn 38)) [vW j,vStt s] H=some (vB (q01j j s),none):=by
 rw [q002 _ _ _ _ _ _ (noP _) fn38]
 have hl:=fun H=>q027 j.items H
 have ht:=fun H=>q0dz j.items s.at_ w.n1 H
 have hc:=fun H=>q0mo j w s H
 have ha:=fun H=>q0bv j.items j.floats s.at_ H
 change∀H,clD EE _ _ H=some (vC (q00s j s.at_),none) at ha
 have i1:=fun H=>in_ev zeroC s.h H
 have i2:=fun H=>in_ev s.h (q00s j s.at_) H
 unfold q01j
 simp only [vW,q00f,cJobW,cGeom,List.cons_append,List.nil_append,zeroC] at hc i1⊢
 by_cases h1:s.at_<0
 ·simp [St.enter,q000,subs,q001,h1]
 ·by_cases h2:(j.items.length:Int)<s.at_
  ·simp [St.enter,q000,subs,q001,h1,hl,h2]
  ·by_cases h3:(trimF j.items s.at_:Int)=s.at_
   ·by_cases h4:s.col<0
    ·simp [St.enter,q000,subs,q001,h1,hl,h2,ht,h3,h4]
    ·by_cases h5:j.g.cols<s.col
     ·simp [St.enter,q000,subs,q001,h1,hl,h2,ht,h3,h4,h5]
     ·cases c1:q03s j s with
      |false=>simp [St.enter,q000,subs,q001,h1,hl,h2,ht,h3,h4,h5,hc,c1]
      |true=>
       cases c2:inC ⟨0,0,0⟩ s.h with
       |false=>simp [St.enter,q000,subs,q001,h1,hl,h2,ht,h3,h4,h5,hc,c1,i1,c2]
       |true=>simp [St.enter,q000,subs,q001,h1,hl,h2,ht,h3,h4,h5,hc,c1,i1,c2,ha,i2]
   ·simp [St.enter,q000,subs,q001,h1,hl,h2,ht,h3]
end
section
variable (j:Job) (w:okW j)
include w in
theorem q09z (s:Stt) (to:Int) (H:Heap):clD EE (.p (.fn 121)) [vW j,vStt s,vI to] H=some (vSpot (spotS j s to),none):=by
 rw [q002 _ _ _ _ _ _ (noP _) fn121]
 have hr:=fun H=>q04z j w s H
 have b1:=fun H=>q0bu j.items j.floats to H
 have b2:=fun H=>q0bu j.items j.floats s.at_ H
 change∀H,clD EE _ _ H=some (vI (q00c j to),none) at b1
 change∀H,clD EE _ _ H=some (vI (q00c j s.at_),none) at b2
 unfold spotS
 cases c:q01j j s with
 |false=>
  rw [c] at hr
  simp [St.enter,q000,subs,q001,hr]
 |true=>
  rw [c] at hr
  simp only [vW,q00f,cJobW,cGeom,List.cons_append,List.nil_append] at hr⊢
  simp [St.enter,q000,subs,q001,hr,b1,b2]
include w in
include w in
include w in
theorem q0mp (H:Heap):clD EE (.p (.fn 30)) [vW j] H=some (vStt (q05m j),none):=by
 rw [q002 _ _ _ _ _ _ (noP _) fn30]
 have ht:=fun H=>q0dz j.items 0 w.n1 H
 have hp: ∀H,clD EE (.p (.fn 211)) [vW j] H=some (q00f j,none):=by
  intro H
  rw [q002 _ _ _ _ _ _ (noP _) fn211]
  simp only [vW,cJobW,cGeom,List.cons_append,List.nil_append]
  simp [St.enter,q000,subs,q001]
 have hq: ∀H,clD EE (.p (.fn 212)) [q00f j] H=some (q007 j.items,none):=by
  intro H
  rw [q002 _ _ _ _ _ _ (noP _) fn212]
  simp only [q00f]
  simp [St.enter,q000,subs,q001]
 have hL: ∀H,clD EE (.p (.fn 81)) [vW j] H=some (q007 j.items,none):=by
  intro H
  rw [q002 _ _ _ _ _ _ (noP _) fn81]
  simp [St.enter,q000,subs,q001,hp,hq]
 unfold q05m
 simp [St.enter,q000,subs,q001,hL,ht,zeroC]
include w in
theorem q0a0 (s:Stt) (H:Heap):clD EE (.p (.fn 31)) [vW j,vStt s] H=some (vB (doneS j s),none):=by
 rw [q002 _ _ _ _ _ _ (noP _) fn31]
 have hr:=fun H=>q04z j w s H
 have hl:=fun H=>q027 j.items H
 obtain ⟨sa,sc,sn,sl,⟨x,y,z⟩⟩:=s
 have e:(decide (x=(allS j).a)&&(decide (y=(allS j).b)&&decide (z=(allS j).c)))=decide (C3.mk x y z=allS j):=by
  generalize allS j=q
  obtain ⟨a,b,c⟩:=q
  simp [Bool.decide_and]
 unfold doneS
 simp only [vW,q00f,cJobW,cGeom,List.cons_append,List.nil_append] at hr⊢
 cases c:q01j j ⟨sa,sc,sn,sl,⟨x,y,z⟩⟩ with
 |false=>
  rw [c] at hr
  simp [St.enter,q000,subs,q001,hr]
 |true=>
  rw [c] at hr
  by_cases h1:sa=j.items.length
  ·subst h1
   by_cases h2:sl=0
   ·subst h2
    by_cases h3:sn=j.notes.length
    ·subst h3
     simp [St.enter,q000,subs,q001,hr,hl,e]
    ·simp [St.enter,q000,subs,q001,hr,hl,h3]
   ·simp [St.enter,q000,subs,q001,hr,hl,h2]
  ·simp [St.enter,q000,subs,q001,hr,hl,h1]
include w in
theorem q0pi (s:Stt) (c:Colm) (c1:c.notes.length≤1000000) (c2:c.top.length≤1000000) (c3:c.bot.length≤1000000) (H:Heap):clD EE (.p (.fn 33)) [vW j,vStt s,vColm c] H=some (vStt (nextS j s c),none):=by
 rw [q002 _ _ _ _ _ _ (noP _) fn33]
 have hr:=fun H=>q04z j w s H
 have hs:=fun H=>q09z j w s c.to H
 have ht:=fun H=>q0dz j.items c.to w.n1 H
 have hn:=fun H=>q0ih j.notes (spotS j s c.to) c.notes w.n2 c1 H
 have o1:=fun H=>of_ev j.floats c.top H w.n3 c2
 have o2:=fun H=>of_ev j.floats c.bot H w.n3 c3
 have a1:=fun x y H=>q0v5 x y H
 have k1:IntKind.i64.wrap 1=1:=by decide
 have k2:IntKind.i64.wrap 2=2:=by decide
 unfold nextS
 cases cr:q01j j s with
 |false=>
  rw [cr] at hr
  simp [St.enter,q000,subs,q001,hr,zeroS]
 |true=>
  rw [cr] at hr
  have hcol:0≤s.col∧s.col≤j.g.cols:=by
   unfold q01j at cr
   split at cr
   ·cases cr
   ·rename_i h;omega
  have hw:=w.cols
  have w1:IntKind.i64.wrap (s.col+1)=s.col+1:=w64 (by omega) (by omega)
  generalize spotS j s c.to=sp at*
  generalize nextF j.notes sp c.notes=nx at*
  simp only [vW,q00f,cJobW,cGeom,List.cons_append,List.nil_append] at hr hs⊢
  by_cases h1:c.k=1
  ·simp [St.enter,q000,subs,q001,hr,hs,ht,hn,w1,h1,q0hc,q009,ixsI,ixsV,k1,k2,o1,o2,a1]
  ·simp [St.enter,q000,subs,q001,hr,hs,ht,hn,w1,h1,q0hc,q009,ixsI,ixsV,k1,k2,o1,o2,a1]
end
end Go.EnvOf
namespace Go.Eng
open Go
@[simp] theorem q0Ma (v:V):zR (some (v,none))=zV [] v:=rfl
@[simp] theorem q0Mb (v:V) (H:Heap):zR (some (v,some (H,[])))=zV H v:=rfl
@[simp] theorem q0Ch:zR none=none:=rfl
@[simp] theorem q0Mx (H:Heap) (vs:List V):zV H (.tup vs)=(allO (solV H sd) vs).map .tup:=rfl
@[simp] theorem zV_p (H:Heap) (x:PV):zV H (.p x)=some (.p x):=rfl
@[simp] theorem q0Mc (H:Heap):zV H .nils=some (.p (.sl [])):=rfl
@[simp] theorem q0xv (H:Heap) (a b c d:Nat):zV H (.row a b c d)=(frz 0 H deep (.row a b c d)).map .p:=rfl
@[simp] theorem q0My (H:Heap) (id off:Nat):zV H (.ptr id off)=(Eng.boxAt H id).bind fun cs=>(allO (solV H 5) cs).map fun cs'=> .eptr cs' off:=rfl
@[simp] theorem q0Mz (H:Heap) (d:Nat) (x:PV):solV H d (.p x)=some (.p x):=by cases d<;>rfl
@[simp] theorem q0Gz (H:Heap) (d:Nat):solV H d .nils=some (.p (.sl [])):=by cases d<;>rfl
@[simp] theorem q0Kh (H:Heap) (d a b c e:Nat):solV H d (.row a b c e)=(frz 0 H deep (.row a b c e)).map .p:=by cases d<;>rfl
@[simp] theorem q0H0 (H:Heap) (id off:Nat):solV H sd (.ptr id off)=(Eng.boxAt H id).bind fun cs=>(allO (solV H 5) cs).map fun cs'=> .eptr cs' off:=rfl
@[simp] theorem q0Ci (H:Heap) (id off:Nat):solV H 6 (.ptr id off)=(Eng.boxAt H id).bind fun cs=>(allO (solV H 5) cs).map fun cs'=> .eptr cs' off:=rfl
@[simp] theorem q0H1 (H:Heap) (id off:Nat):solV H 5 (.ptr id off)=(Eng.boxAt H id).bind fun cs=>(allO (solV H 4) cs).map fun cs'=> .eptr cs' off:=rfl
@[simp] theorem q0Cj (a b:Nat):V.plainB (.ptr a b)=false:=rfl
@[simp] theorem q0Ck (a b:Nat):q068 (.ptr a b)=false:=rfl
theorem q03u {H:Heap} {id n s:Nat} {es:List (List PV)} (h:Eng.rowAt H id=some (s,upV es)) (hn:es.length=n):frz 0 H deep (.row id n 0 n)=some (.sl es):=by
 unfold deep
 rw [q0dr,if_pos (Nat.zero_le _),h,q0hq,if_pos hn]
 simp [←hn]
end Go.Eng
namespace Go.EnvOf
open Go Go.Eng
set_option maxRecDepth 100000
@[simp] theorem q0we (l:List Item):q068 (q00w l)=true:=rfl
@[simp] theorem q0H2 (j:Job):q068 (vW j)=true:=rfl
@[simp] theorem q0zx (H:Heap) (l:List Item):solV H 5 (q007 l)=some (q007 l):=rfl
@[simp] theorem q0zy (H:Heap) (j:Job):solV H 5 (q00f j)=some (q00f j):=rfl
@[simp] theorem q0xw (H:Heap) (l:List Item):solV H 4 (q007 l)=some (q007 l):=rfl
@[simp] theorem q0xx (H:Heap) (l:List Item):solV H 4 (q00w l)=some (q00w l):=rfl
@[simp] theorem q0zz (H:Heap) (l:List Item) (fs:List Float):solV H 4 (vMapW l fs)=some (vMapW l fs):=rfl
theorem q0d9 {α:Type} (f:FuncId) (s:Nat) (z:List V) (enc:α→List PV) (hs: ∀x,(enc x).length=s) (hf:EE.fns f=some (q04x s z)) (l:List α) (hm:l.length<most) (hp:EE.prims f=none:=by exact noP _):
  zR (clD EE (.p (.fn f)) [.p (.sl (l.map enc))] [])=some (.p (.sl (l.map enc))):=by
 rw [q04y f s z [] enc hs hf l hm hp]
 cases l with
 |nil=>rfl
 |cons x r=>
  have h:Eng.rowAt ([]++[DObj.row s (upV ((x::r).map enc))]) 0=some (s,upV ((x::r).map enc)):=rfl
  show zV _ (.row 0 (x::r).length 0 (x::r).length)=_
  rw [q0xv,q03u h (by simp)]
  rfl
theorem q050 (l:List Item) (h:l.length≤1000000):zR (clD EE (.p (.fn 189)) [q00d l] [])=some (q00d l):=q0d9 _ 7 _ q005 (fun _=>rfl) fn189 l (by unfold most;omega)
theorem q0g5 (l:List Float) (h:l.length≤1000000):zR (clD EE (.p (.fn 190)) [q00q l] [])=some (q00q l):=q0d9 _ 3 _ q00i (fun _=>rfl) fn190 l (by unfold most;omega)
theorem q0mq (l:List Int) (h:l.length≤1000000):zR (clD EE (.p (.fn 191)) [sli l] [])=some (sli l):=q0d9 _ 1 _ encI (fun _=>rfl) fn191 l (by unfold most;omega)
theorem q0k0 (l:List Int) (h:l.length≤1000000):zR (clD EE (.p (.fn 192)) [sli l] [])=some (sli l):=q0d9 _ 1 _ encI (fun _=>rfl) fn192 l (by unfold most;omega)
theorem q0mr (l:List Item) (h:l.length≤1000000):zR (clD EE (.p (.fn 75)) [q00d l] [])=some (q007 l):=by
 rw [q002 _ _ _ _ _ _ (noP _) fn75]
 have c:=q050 l h
 simp [St.enter,q000,subs,q001,solN,sd,c,allO,q007]
theorem q0sm (f:FuncId) (x y z:Int) (p q:Nat) (H:Heap) (hf:clD EE (.p (.fn f)) [vI x,vI y] H=some (resT (some z),none)) (h1:Eng.boxAt H p=some [.p (.fn f)]) (h2:Eng.boxAt H q=some [vB true]):
  clD EE (.p (.fn 412)) [vI x,vI y,.ptr p 0,.ptr q 0] H=some (vI z,some (H,[q])):=by
 rw [q002 _ _ _ _ _ _ (noP _) fn412]
 have hlt:=q03t h2
 have e:H.set q (.box [vB true])=H:=by
  unfold Eng.boxAt at h2
  split at h2
  ·rename_i cs h3
   cases h2
   obtain ⟨h4,h5⟩:=List.getElem?_eq_some_iff.1 h3
   rw [←h5];exact List.set_getElem_self h4
  ·cases h2
 have a1:subs [V.p (PV.fn f)] 0 1=some [V.p (PV.fn f)]:=rfl
 have a2:subs [vB true] 0 1=some [vB true]:=rfl
 have a3:q001 [vB true] 0 [vB true]=some [vB true]:=rfl
 simp only [resT] at hf
 simp [St.enter,q000,h1,h2,a1,a2,a3,hf,e,hlt]
theorem q0vr (f:FuncId) (a b c:Tot) (H:Heap) (hf: ∀(x y z:Int) (H:Heap),(x,y,z)∈[(a.nat,b.nat,c.nat),(a.s0,b.s0,c.s0),(a.s1,b.s1,c.s1),(a.s2,b.s2,c.s2),(a.s3,b.s3,c.s3),(a.shr,b.shr,c.shr)]→clD EE (.p (.fn f)) [vI x,vI y] H=some (resT (some z),none)):
  clD EE (.p (.fn 337)) [vTot a,vTot b,.p (.fn f)] H=some (.tup [vTot c,vB true],none):=by
 rw [q002 _ _ _ _ _ _ (noP _) fn337]
 have k: ∀x y z,(x,y,z)∈[(a.nat,b.nat,c.nat),(a.s0,b.s0,c.s0),(a.s1,b.s1,c.s1),(a.s2,b.s2,c.s2),(a.s3,b.s3,c.s3),(a.shr,b.shr,c.shr)]→clD EE (.fn (.func 412) [] [.ptr H.length 0,.ptr (H.length+1) 0]) [vI x,vI y] (H++[.box [.p (.fn f)],.box [vB true]])=some (vI z,some (H++[.box [.p (.fn f)],.box [vB true]],[H.length+1])):=by
  intro x y z hm
  rw [q029]
  exact q0sm f x y z H.length (H.length+1) _ (hf x y z _ hm) (by simp) (by simp)
 have k0:=k a.nat b.nat c.nat (by simp)
 have k1:=k a.s0 b.s0 c.s0 (by simp)
 have k2:=k a.s1 b.s1 c.s1 (by simp)
 have k3:=k a.s2 b.s2 c.s2 (by simp)
 have k4:=k a.s3 b.s3 c.s3 (by simp)
 have k5:=k a.shr b.shr c.shr (by simp)
 have w1:IntKind.i64.wrap 1=1:=by decide
 have w2:IntKind.i64.wrap 2=2:=by decide
 have w3:IntKind.i64.wrap 3=3:=by decide
 have w4:IntKind.i64.wrap 4=4:=by decide
 have ad:addD H.length (H.length+1) []=[]:=by unfold addD;rw [if_neg (by omega)]
 simp [St.enter,q000,subs,q001,k0,k1,k2,k3,k4,k5,q0kp,q009,ixaV,q016,w1,w2,w3,w4,ad]
structure inT64 (t:Tot):Prop where
 nat:I64 t.nat
 s0:I64 t.s0
 s1:I64 t.s1
 s2:I64 t.s2
 s3:I64 t.s3
 shr:I64 t.shr
theorem q0bx {m:Int} {t:Tot} (h:inT m t) (hm:m≤9223372036854775807):inT64 t:=by
 obtain ⟨⟨a1,a2⟩,⟨a3,a4⟩,⟨a5,a6⟩,⟨a7,a8⟩,⟨a9,b1⟩,⟨b2,b3⟩⟩:=h
 constructor<;>constructor<;>omega
theorem q0vs {a b:Int} (h:I64 (a+b)):addF a b=some (a+b):=by unfold addF;rw [if_pos h]
theorem q0pj (a b:Tot) (ha:inT64 a) (hb:inT64 b) (hc:inT64 (addT a b)) (H:Heap):clD EE (.p (.fn 200)) [vTot a,vTot b] H=some (.tup [vTot (addT a b),vB true],none):=by
 rw [q002 _ _ _ _ _ _ (noP _) fn200]
 have one: ∀(x y:Int) (H:Heap),I64 x→I64 y→I64 (x+y)→clD EE (.p (.fn 338)) [vI x,vI y] H=some (resT (some (x+y)),none):=by
  intro x y H hx hy hz
  rw [q0or x y H hx hy,q0vs hz]
 have h:=fun H=>q0vr 338 a b (addT a b) H (fun x y z H hm=>by
  simp only [List.mem_cons,Prod.mk.injEq,List.not_mem_nil,or_false] at hm
  rcases hm with ⟨rfl,rfl,rfl⟩|⟨rfl,rfl,rfl⟩|⟨rfl,rfl,rfl⟩|⟨rfl,rfl,rfl⟩|⟨rfl,rfl,rfl⟩|⟨rfl,rfl,rfl⟩
  ·exact one _ _ _ ha.nat hb.nat hc.nat
  ·exact one _ _ _ ha.s0 hb.s0 hc.s0
  ·exact one _ _ _ ha.s1 hb.s1 hc.s1
  ·exact one _ _ _ ha.s2 hb.s2 hc.s2
  ·exact one _ _ _ ha.s3 hb.s3 hc.s3
  ·exact one _ _ _ ha.shr hb.shr hc.shr)
 generalize addT a b=c at*
 simp [St.enter,q000,subs,q001,h]
theorem q0pk (h:Int) (H:Heap):clD EE (.p (.fn 334)) [vI h] H=some (vTot ⟨h,0,0,0,0,0⟩,none):=by
 rw [q002 _ _ _ _ _ _ (noP _) fn334]
 simp [St.enter,q000,subs,q001]
theorem q0ms (h str ord shr:Int) (H:Heap):clD EE (.p (.fn 335)) [vI h,vI str,vI ord,vI shr] H=some (vTot (glueT h str ord shr),none):=by
 rw [q002 _ _ _ _ _ _ (noP _) fn335]
 unfold glueT
 by_cases c0:ord=0
 ·simp [St.enter,q000,subs,q001,c0,ixaV,q016]
 ·by_cases c1:ord=1
  ·simp [St.enter,q000,subs,q001,c1,ixaV,q016]
  ·by_cases c2:ord=2
   ·simp [St.enter,q000,subs,q001,c2,ixaV,q016]
   ·by_cases c3:ord=3
    ·simp [St.enter,q000,subs,q001,c3,ixaV,q016]
    ·by_cases c4:ord<0
     ·simp [St.enter,q000,subs,q001,c0,c1,c2,c3,show¬0≤ord by omega]
     ·simp [St.enter,q000,subs,q001,c0,c1,c2,c3,show 0≤ord by omega,show¬ord<4 by omega]
theorem q0ik (x:Item) (H:Heap):clD EE (.p (.fn 198)) [vItem x] H=some (vTot (totI x),none):=by
 rw [q002 _ _ _ _ _ _ (noP _) fn198]
 have b:=fun H=>q0pk x.h H
 have g:=fun H=>q0ms x.h x.str x.ord x.shr H
 unfold totI
 by_cases k1:x.k=1
 ·simp [St.enter,q000,subs,q001,k1,b]
 ·by_cases k2:x.k=2
  ·simp only [k2,if_neg (show¬(2:Int)=1 by decide),if_true]
   generalize glueT x.h x.str x.ord x.shr=t at*
   simp [St.enter,q000,subs,q001,k2,g]
  ·simp [St.enter,q000,subs,q001,k1,k2,zeroT]
theorem q05b (n:Int) (H:Heap) (h:0≤n∧n≤4294967296):clD EE (.p (.fn 336)) [vI n] H=some (vB true,none):=by
 rw [q002 _ _ _ _ _ _ (noP _) fn336]
 simp [St.enter,q000,h.1,h.2]
theorem q0sn (t:Tot) (h:inT 4294967296 t) (H:Heap):clD EE (.p (.fn 199)) [vTot t] H=some (vB true,none):=by
 rw [q002 _ _ _ _ _ _ (noP _) fn199]
 have k0:=fun H=>q05b t.nat H h.nat
 have k1:=fun H=>q05b t.s0 H h.s0
 have k2:=fun H=>q05b t.s1 H h.s1
 have k3:=fun H=>q05b t.s2 H h.s2
 have k4:=fun H=>q05b t.s3 H h.s3
 have k5:=fun H=>q05b t.shr H h.shr
 have w1:IntKind.i64.wrap 1=1:=by decide
 have w2:IntKind.i64.wrap 2=2:=by decide
 have w3:IntKind.i64.wrap 3=3:=by decide
 have w4:IntKind.i64.wrap 4=4:=by decide
 simp [St.enter,q000,subs,q001,k0,k1,k2,k3,k4,k5,q0kn,q009,ixaV,q016,w1,w2,w3,w4]
def q0il (x:Item):Bool:=decide (x.k=2)||decide (x.k=3)
def q0e0 (x:Item):Bool:=decide (x.k=3)&&decide (x.n≤ -10000)
theorem q0so (x:Item) (H:Heap):clD EE (.p (.fn 347)) [vItem x] H=some (vB (q0il x),none):=by
 rw [q002 _ _ _ _ _ _ (noP _) fn347]
 unfold q0il
 by_cases h:x.k=2<;>simp [St.enter,q000,subs,q001,h]
theorem q0im (j:Job) (H:Heap):clD EE (.p (.fn 81)) [vW j] H=some (q007 j.items,none):=by
 rw [q002 _ _ _ _ _ _ (noP _) fn81]
 have p: ∀H,clD EE (.p (.fn 211)) [vW j] H=some (q00f j,none):=by
  intro H
  rw [q002 _ _ _ _ _ _ (noP _) fn211]
  simp [vW,St.enter,q000,subs,q001]
 have q: ∀H,clD EE (.p (.fn 212)) [q00f j] H=some (q007 j.items,none):=by
  intro H
  rw [q002 _ _ _ _ _ _ (noP _) fn212]
  simp [q00f,St.enter,q000,subs,q001]
 simp [St.enter,q000,p,q]
def sumT (l:List Item) (a b:Int):Tot:=if max a 0<min b l.length then subT (totP (l.take (min b l.length).toNat)) (totP (l.take (max a 0).toNat)) else zeroT
structure Setg where
 how:Int
 ord:Int
 by_:Int
 of_:Int
 left:Int
 deriving Inhabited,DecidableEq
def zeroG:Setg:=⟨0,0,0,0,0⟩
def fairL (n:Int):Bool:=decide (0≤n)&&decide (n≤1125899906842624)
def q0vt (t:Tot):Bool:=fairL t.s0&&fairL t.s1&&fairL t.s2&&fairL t.s3&&fairL t.nat&&fairL t.shr
def q0xy (t:Tot) (h:Int):Bool:=q0vt t&&decide (-1125899906842624≤h)&&decide (h≤1125899906842624)
def ordT (t:Tot):Int:=if t.s3≠0 then 3 else if t.s2≠0 then 2 else if t.s1≠0 then 1 else 0
def strT (t:Tot) (o:Int):Int:=if o=3 then t.s3 else if o=2 then t.s2 else if o=1 then t.s1 else t.s0
def q0xz (t:Tot) (h:Int) (last:Bool):Setg:=
 if q0xy t h=true then
  if h-t.nat=0 then zeroG
  else if 0<h-t.nat∧0<strT t (ordT t)∧ ¬(last=true∧ordT t=0) then ⟨1,ordT t,h-t.nat,strT t (ordT t),0⟩
  else if 0<h-t.nat then ⟨0,0,0,0,h-t.nat⟩
  else if 0≤t.shr+(h-t.nat) then ⟨2,0,-(h-t.nat),t.shr,0⟩
  else ⟨3,0,t.shr,t.shr,t.shr+(h-t.nat)⟩
 else zeroG
def highA (g:Geom) (fs:List Float) (a b:List Int):Int:=IntKind.i64.wrap (highQ fs a g.sep+highQ fs b g.sep)
def q0pl (g:Geom) (fs:List Float) (a:List Int):Int:=if highQ fs a g.sep=0 then 0 else IntKind.i64.wrap (highQ fs a g.sep-min (max g.sep 0) 1125899906842624)
def lastC (l:List Item) (c:Colm):Bool:=decide (c.k=1)&&(decide (c.to=l.length)||match q03c l c.to with|some x=>decide (0<c.to)&&q0e0 x|none=>false)
structure Fcts where
 notes:Int
 floats:Int
 room:Int
 last:Bool
 over:Bool
 set_:Setg
def zeroF:Fcts:=⟨0,0,0,false,false,zeroG⟩
def q0e1 (j:Job) (c:Colm):Int:=if c.k=1 then highA j.g j.floats c.top c.bot else if c.k=2 then q0pl j.g j.floats c.top else 0
def roomC (j:Job) (s:Stt) (c:Colm):Int:=IntKind.i64.wrap (IntKind.i64.wrap (highS j s-highP j.notes c.notes j.g.rule)-q0e1 j c)
def fullC (j:Job) (c:Colm):Bool:=decide (0<c.notes.length)&&decide (j.g.noteMost<highP j.notes c.notes j.g.rule)
def setC (j:Job) (s:Stt) (c:Colm):Setg:=q0xz (sumT j.items s.at_ c.to) (roomC j s c) (lastC j.items c)
def q06l (j:Job) (s:Stt) (c:Colm):Fcts:=
 if q01j j s=true then
  ⟨highP j.notes c.notes j.g.rule,q0e1 j c,roomC j s c,lastC j.items c,
   if c.k=1 then fullC j c||decide ((setC j s c).how=3) else fullC j c||decide (roomC j s c<0),
   if c.k=1 then setC j s c else zeroG⟩
 else zeroF
def forbX (x:Item):Bool:=decide (x.k=3)&&decide (10000≤x.n)
theorem q0vu (x:Item) (H:Heap):clD EE (.p (.fn 385)) [vItem x] H=some (vB (forbX x),none):=by
 rw [q002 _ _ _ _ _ _ (noP _) fn385]
 unfold forbX
 by_cases h:x.k=3<;>simp [St.enter,q000,subs,q001,h]
def mayV (l:List Item) (n:Int):Bool:=
 if n<1∨(l.length:Int)<n then false else match q03c l n with
  |none=>true
  |some x=>if x.k=2 then !q0il (rd l (n-1)) else if x.k=3 then !forbX x else false
theorem q0vv (l:List Item) (hl:l.length≤1000000) (n:Int) (H:Heap):clD EE (.p (.fn 316)) [q007 l,vI n] H=some (vB (mayV l n),none):=by
 rw [q002 _ _ _ _ _ _ (noP _) fn316]
 have l2:=fun H=>q027 l H
 have l3:=fun H=>q0fb l n H
 have f:=fun x H=>q0vu x H
 have lo:=fun x H=>q0so x H
 unfold mayV
 by_cases c1:n<1
 ·cases h:q03c l n with
  |none=>rw [h] at l3;simp [St.enter,q000,subs,q001,l2,l3,c1]
  |some x=>rw [h] at l3;simp [St.enter,q000,subs,q001,l2,l3,c1]
 ·by_cases c2:(l.length:Int)<n
  ·cases h:q03c l n with
   |none=>rw [h] at l3;simp [St.enter,q000,subs,q001,l2,l3,c1,c2]
   |some x=>rw [h] at l3;simp [St.enter,q000,subs,q001,l2,l3,c1,c2]
  ·cases h:q03c l n with
   |none=>rw [h] at l3;simp [St.enter,q000,subs,q001,l2,l3,c1,c2]
   |some x=>
    rw [h] at l3
    have w:IntKind.i64.wrap (n-1)=n-1:=w64 (by omega) (by omega)
    have hx:=q041 l (n-1) (by omega) (by omega)
    have hix:=fun H k=>q05y H q005 (k:=k) (s:=7) (by omega) hx rfl
    simp only [q005] at hix
    by_cases k2:x.k=2
    ·simp only [q007] at l2 l3⊢
     simp [St.enter,q000,subs,q001,l2,l3,c1,c2,k2,w,hix,lo]
    ·by_cases k3:x.k=3
     ·have f1:=fun H=>f x H
      simp only [vItem,k3] at f1
      simp [St.enter,q000,subs,q001,l2,l3,c1,c2,k3,f1]
     ·simp [St.enter,q000,subs,q001,l2,l3,c1,c2,k2,k3]
end Go.EnvOf
namespace Go.EnvOf
open Go Go.Eng
set_option maxRecDepth 100000
def coFn (H:Heap):V:= .fn (.func 175) [.ptr H.length 0] []
@[simp] theorem q0Cl (H:Heap) (k:Nat):q00k (coFn H) k=true:=rfl
section
variable (j:Job) (w:okW j)
include w in
end
end Go.EnvOf
namespace Go.EnvOf
open Go Go.Eng
set_option maxRecDepth 100000
def mustP (l:List Item) (n:Nat):Bool:=match l[n]? with|some x=>q0e0 x|none=>true
def mayN (l:List Item) (n:Nat):Bool:=mayV l n
def pos (a:Int):Nat:=(max a 0).toNat
def q043 (l:List Item) (a:Int):Int:=seekP (mustP l) (l.length-pos a) (pos a+1)
def q018 (l:List Item) (a:Int):Int:=seekP (mayN l) (l.length-pos a) (pos a+1)
def brkN (l:List Item) (a:Int):List Nat:=(List.range' (pos a+1) (l.length-pos a)).filter fun (m:Nat)=>decide ((m:Int)≤q043 l a)&&mayN l m
def brkF (l:List Item) (a:Int):List Int:=(brkN l a).map Int.ofNat
theorem q0by (p:Nat→Bool): ∀(k n:Nat),seekP p k n= -1∨((n:Int)≤seekP p k n∧seekP p k n<n+k∧p (seekP p k n).toNat=true)
 |0,n=> .inl rfl
 |k+1,n=>by
  rw [seekP]
  by_cases h:p n=true
  ·rw [if_pos h];exact .inr ⟨by omega,by omega,by simpa using h⟩
  ·rw [if_neg h]
   rcases q0by p k (n+1) with h1|⟨h1,h2,h3⟩
   ·exact .inl h1
   ·exact .inr ⟨by omega,by omega,h3⟩
theorem q0vw (l:List Item) (hl:l.length≤1000000) (n:Nat) (H:Heap):clD EE (.fn (.func 316) [q007 l] []) [vI n] H=some (vB (mayN l n),none):=by
 rw [q029];exact q0vv l hl n H
theorem q0pm (l:List Item) (hl:l.length≤1000000) (a:Int) (H:Heap):clD EE (.p (.fn 214)) [q007 l,vI a] H=some (vI (q018 l a),none):=by
 rw [q002 _ _ _ _ _ _ (noP _) fn214]
 have l2:=fun H=>q027 l H
 unfold q018 pos
 by_cases c:(l.length:Int)≤a
 ·have e:l.length-(max a 0).toNat=0:=by omega
  rw [e]
  simp [St.enter,q000,l2,c,seekP]
 ·have w:IntKind.i64.wrap (max a 0+1)=(((max a 0).toNat+1:Nat):Int):=by
   have e:(((max a 0).toNat+1:Nat):Int)=max a 0+1:=by omega
   rw [e];exact w64 (by omega) (by omega)
  by_cases d:(max a 0).toNat+1≤l.length+1
  ·have s:=fun H=>q0lc l ((max a 0).toNat+1) (.fn (.func 316) [q007 l] []) (mayN l) hl H (fun n hn=>q0vw l hl n H) d rfl rfl
   have e:l.length+1-((max a 0).toNat+1)=l.length-(max a 0).toNat:=by omega
   rw [e] at s
   generalize (max a 0).toNat+1=z at*
   simp only [q007] at l2 s⊢
   simp [St.enter,q000,l2,c,w,s]
  ·omega
end Go.EnvOf
namespace Go.EnvOf
open Go Go.Eng
set_option maxRecDepth 100000
def sumL {α:Type} (f:List Item→α) (z:α) (l:List Item) (i:Nat):List α:=(List.range (l.length+1)).map fun k=>if k≤i then f (l.take k) else z
theorem q05c {α:Type} (f:List Item→α) (z:α) (l:List Item) (i:Nat):(sumL f z l i).length=l.length+1:=by simp [sumL]
theorem q0in {α:Type} (f:List Item→α) (z:α) (l:List Item) (i k:Nat) (h:k≤i) (hk:k≤l.length):(sumL f z l i)[k]? =some (f (l.take k)):=by simp [sumL,h,show k<l.length+1 by omega]
theorem q0io {α:Type} (f:List Item→α) (z:α) (l:List Item) (i:Nat) (h:i<l.length):(sumL f z l i)[i+1]? =some z:=by simp [sumL,h];omega
theorem q0ip {α:Type} (f:List Item→α) (z:α) (l:List Item) (i:Nat):(sumL f z l i).set (i+1) (f (l.take (i+1)))=sumL f z l (i+1):=by
 apply List.ext_getElem?
 intro k
 rw [List.getElem?_set]
 by_cases hk:k<l.length+1
 ·by_cases e:i+1=k
  ·subst e;simp [sumL,hk]
  ·rw [if_neg e]
   simp only [sumL,List.getElem?_map,List.getElem?_range hk,Option.map_some]
   by_cases h:k≤i
   ·rw [if_pos h,if_pos (by omega)]
   ·rw [if_neg h,if_neg (by omega)]
 ·have e1:(sumL f z l (i+1))[k]? =none:=List.getElem?_eq_none (by rw [q05c];omega)
  have e2:(sumL f z l i)[k]? =none:=List.getElem?_eq_none (by rw [q05c];omega)
  rw [e1,e2]
  by_cases e:i+1=k
  ·subst e;rw [if_pos rfl,if_neg (by rw [q05c];omega)]
  ·rw [if_neg e]
theorem q0sp {α:Type} (f:List Item→α) (z:α) (l:List Item):sumL f z l l.length=preL f l (l.length+1):=by
 unfold sumL preL
 apply List.map_congr_left
 intro k hk
 have:=List.mem_range.1 hk
 rw [if_pos (by omega)]
theorem q0fd {α:Type} (f:List Item→α) (z:α) (l:List Item) (h:f []=z):sumL f z l 0=List.replicate (l.length+1) z:=by
 apply List.ext_getElem?
 intro k
 by_cases hk:k<l.length+1
 ·simp only [sumL,List.getElem?_map,List.getElem?_range hk,Option.map_some,List.getElem?_replicate,if_pos hk]
  by_cases e:k≤0
  ·have:k=0:=by omega
   subst this;simp [h]
  ·rw [if_neg e]
 ·rw [List.getElem?_eq_none (by rw [q05c];omega),List.getElem?_eq_none (by simp;omega)]
def suH (l:List Item) (i:Nat):Heap:=[DObj.row 6 (upV ((sumL totP zeroT l i).map q01v)),DObj.row 1 (upV ((sumL boxP 0 l i).map encI))]
def suE (l:List Item) (i:Nat):St:=
 ⟨[(0,q00d l),(4,.lptr 21 0),(23,vI l.length),(24,vI i)],[(21,[q00d l,.row 0 (l.length+1) 0 (l.length+1),.row 1 (l.length+1) 0 (l.length+1)])],suH l i,0,[]⟩
def suX (l:List Item):Ex×St:=
 (.exit 0,⟨[(0,q00d l),(4,.lptr 21 0),(23,vI l.length),(24,vI l.length),(25,vB false)],[(21,[q00d l,.row 0 (l.length+1) 0 (l.length+1),.row 1 (l.length+1) 0 (l.length+1)])],suH l l.length,0,[]⟩)
set_option maxHeartbeats 1000000 in
theorem q0y0 (l:List Item) (hl:l.length≤4096) (hf: ∀x∈l,fairI x) (i:Nat) (x:Item) (hx:l[i]? =some x): ∃c,q09j= .loop [0,4,23,24] [21] c∧evD EE c (suE l i)=some (.normal,suE l (i+1)):=by
 refine ⟨_,rfl,?_⟩
 have hlt:=(List.getElem?_eq_some_iff.1 hx).1
 have w:IntKind.i64.wrap ((i:Int)+1)=((i+1:Nat):Int):=w64 (by omega) (by omega)
 have hix:=fun H k=>q01q H q005 (k:=k) (s:=7) hx rfl
 have ts:=q03q hx
 have fx:=hf x (List.mem_of_getElem? hx)
 have ft: ∀y∈l.take i,fairI y:=fun y hy=>hf y (List.mem_of_mem_take hy)
 have ft1: ∀y∈l.take (i+1),fairI y:=fun y hy=>hf y (List.mem_of_mem_take hy)
 have hlen:(l.take i).length=i:=by rw [List.length_take];omega
 have hlen1:(l.take (i+1)).length=i+1:=by rw [List.length_take];omega
 have t1:=q0p8 (l.take i) x
 have b1:=q0p9 (l.take i) x
 rw [←ts] at t1 b1
 have q1:=q0l9 _ ft
 have q2:=q0l9 _ ft1
 have q3:=q0la _ ft
 have q4:=q0la _ ft1
 rw [hlen] at q1 q3
 rw [hlen1] at q2 q4
 have it:=fun H=>q0ik x H
 have sf:=fun H=>q0sn (totI x) (q0dy fx) H
 have ta:=fun H=>q0pj (totP (l.take i)) (totI x) (q0bx q1 (by omega)) (q0bx (q0dy fx) (by omega)) (by rw [←t1];exact q0bx q2 (by omega)) H
 rw [←t1] at ta
 have g1:(upV ((sumL totP zeroT l i).map q01v))[i]? =some ((q01v (totP (l.take i))).map V.p):=by simp [q056,q0in totP zeroT l i i (Nat.le_refl _) (by omega)]
 have g2:(upV ((sumL totP zeroT l i).map q01v))[i+1]? =some ((q01v zeroT).map V.p):=by simp [q056,q0io totP zeroT l i hlt]
 have g3:(upV ((sumL boxP 0 l i).map encI))[i]? =some [vI (boxP (l.take i))]:=by simp [q056,q0in boxP 0 l i i (Nat.le_refl _) (by omega),encI]
 have g4:(upV ((sumL boxP 0 l i).map encI))[i+1]? =some [vI 0]:=by simp [q056,q0io boxP 0 l i hlt,encI]
 have s1:(upV ((sumL totP zeroT l i).map q01v)).set (i+1) ((q01v (totP (l.take (i+1)))).map V.p)=upV ((sumL totP zeroT l (i+1)).map q01v):=by rw [q05z,q0ip]
 have s2:(upV ((sumL boxP 0 l i).map encI)).set (i+1) [vI (boxP (l.take (i+1)))]=upV ((sumL boxP 0 l (i+1)).map encI):=by
  have:=q05z encI (sumL boxP 0 l i) (i+1) (boxP (l.take (i+1)))
  rw [q0ip] at this
  exact this
 have n1:(upV ((sumL totP zeroT l i).map q01v)).length=l.length+1:=by simp [q05c]
 have n2:(upV ((sumL boxP 0 l i).map encI)).length=l.length+1:=by simp [q05c]
 have hlt1:i<l.length+1:=by omega
 have hlt2:i+1<l.length+1:=by omega
 have x0: ∀a b:V,[a,b][0]? =some a:=fun _ _=>rfl
 have x1: ∀a b:V,[a,b][1]? =some b:=fun _ _=>rfl
 have wb:IntKind.i64.wrap (boxP (l.take i)+x.h)=boxP (l.take i)+x.h:=w64 (by have:=fx.h;omega) (by have:=fx.h;omega)
 unfold suE suH
 generalize totP (l.take (i+1))=T1 at*
 generalize totP (l.take i)=T0 at*
 generalize totI x=TI at*
 generalize hB1:boxP (l.take (i+1))=P1 at*
 generalize boxP (l.take i)=P0 at*
 generalize upV ((sumL totP zeroT l i).map q01v)=A1 at*
 generalize upV ((sumL totP zeroT l (i+1)).map q01v)=A2 at*
 generalize upV ((sumL boxP 0 l i).map encI)=B1 at*
 generalize upV ((sumL boxP 0 l (i+1)).map encI)=B2 at*
 simp only [q01v,zeroT,List.map_cons,List.map_nil] at g1 g2 s1
 have g5: ∀v:List V,(B1.set (i+1) v)[i+1]? =some v:=fun v=>by rw [List.getElem?_set_self (by omega)]
 unfold boxI1 at b1
 have ir:=fun H id tot off len s=>q014 H id tot off len s .i64 (i+1)
 simp only [Int.natCast_add,Int.natCast_one] at ir
 by_cases k1:x.k=1
 ·rw [if_pos k1] at b1
  subst b1
  simp only [vItem,k1] at it
  simp [-getElem?_pos,hlt,hix,q005,subs,q001,w,it,sf,ta,g1,g2,g3,g4,g5,s1,s2,n1,n2,hlt1,hlt2,x0,x1,q014,ir,k1,wb]
 ·rw [if_neg k1,Int.add_zero] at b1
  subst b1
  simp [-getElem?_pos,hlt,hix,q005,subs,q001,w,it,sf,ta,g1,g2,g3,g4,s1,s2,n1,n2,hlt1,hlt2,x0,x1,q014,ir,k1]
theorem q0y1 (l:List Item) (hl:l.length≤4096) (hf: ∀x∈l,fairI x):evD EE q09j (suE l 0)=some (suX l):=by
 unfold q09j
 refine Eq.trans (q02d l (fun (_:Unit) i=>suE l i) (fun _ _=>True) (fun _ _ _=>()) (fun _=>suX l) (fun _ _=>rfl) ?_ ?_ () 0 trivial (Nat.zero_le _)) rfl
 ·rintro _ i x-hx
  obtain ⟨c',h1,h2⟩:=q0y0 l hl hf i x hx
  simp only [q09j,IC.loop.injEq] at h1
  obtain ⟨-,-,rfl⟩:=h1
  exact ⟨h2,trivial⟩
 ·rintro _-
  simp [suE,suX]
theorem q0pn (l:List Item) (hl:l.length≤4096) (hf: ∀x∈l,fairI x):zR (clD EE (.p (.fn 74)) [q00d l] [])=some (.tup [q00w l,vB true]):=by
 rw [q002 _ _ _ _ _ _ (noP _) fn74]
 have c:=q050 l (by omega)
 have k:=q0y1 l hl hf
 have w:IntKind.i64.wrap ((l.length:Int)+1)=((l.length+1:Nat):Int):=w64 (by omega) (by omega)
 have hm:l.length+1<most:=by unfold most;omega
 have h9: ¬(4096:Int)<l.length:=by omega
 have e1:List.replicate (l.length+1) [vI 0,vI 0,vI 0,vI 0,vI 0,vI 0]=upV ((sumL totP zeroT l 0).map q01v):=by rw [q0fd totP zeroT l rfl];simp [upV,q01v,zeroT]
 have e2:List.replicate (l.length+1) [vI 0]=upV ((sumL boxP 0 l 0).map encI):=by rw [q0fd boxP 0 l rfl];simp [upV,encI]
 have p0:0<(l.length:Int)+1:=by omega
 have pt:((l.length:Int)+1).toNat=l.length+1:=by omega
 simp only [suE,suX,suH,q0sp] at k
 have f1:=fun T=>q03u (H:=DObj.row 6 (upV ((preL totP l (l.length+1)).map q01v))::T) (id:=0) (n:=l.length+1) rfl (by simp [q03r])
 have f2:=fun R T=>q03u (H:=R::DObj.row 1 (upV ((preL boxP l (l.length+1)).map encI))::T) (id:=1) (n:=l.length+1) rfl (by simp [q03r])
 generalize upV ((sumL totP zeroT l 0).map q01v)=A at*
 generalize upV ((sumL boxP 0 l 0).map encI)=B at*
 simp at k
 simp [St.enter,q000,subs,q001,solN,sd,c,h9,w,hm,p0,pt,e1,e2,k,allO,q00w,f1,f2,q068]
def anH (l:List Item) (fs:List Float) (n:Nat):Heap:=[DObj.row 1 (upV ((preL q00o l n).map encI)),DObj.row 3 (upV ((preL (q00e fs) l n).map encC3)),DObj.row 3 (upV ((preL (dueP fs) l n).map encC3))]
def anE (l:List Item) (fs:List Float) (i:Nat):St:=
 ⟨[(1,q00q fs),(5,.lptr 21 0),(22,q00d l),(23,vI l.length),(24,vI i)],[(21,[q00d l,.row 0 (i+1) 0 (i+1),.row 1 (i+1) 0 (i+1),.row 2 (i+1) 0 (i+1)])],anH l fs (i+1),0,[]⟩
def anX (l:List Item) (fs:List Float):Ex×St:=
 (.exit 0,⟨[(1,q00q fs),(5,.lptr 21 0),(22,q00d l),(23,vI l.length),(24,vI l.length),(25,vB false)],[(21,[q00d l,.row 0 (l.length+1) 0 (l.length+1),.row 1 (l.length+1) 0 (l.length+1),.row 2 (l.length+1) 0 (l.length+1)])],anH l fs (l.length+1),0,[]⟩)
theorem q0e2 {α:Type} (enc:α→List PV) (f:List Item→α) (l:List Item) (n:Nat):upV ((preL f l n).map enc)++upV [enc (f (l.take n))]=upV ((preL f l (n+1)).map enc):=by
 rw [q0p7];simp [upV]
theorem q0sq (l:List Item) (fs:List Float) (hl:l.length≤1000000) (i:Nat) (x:Item) (hx:l[i]? =some x): ∃c,q09k= .loop [1,5,22,23,24] [21] c∧evD EE c (anE l fs i)=some (.normal,anE l fs (i+1)):=by
 refine ⟨_,rfl,?_⟩
 have hlt:=(List.getElem?_eq_some_iff.1 hx).1
 have w:IntKind.i64.wrap ((i:Int)+1)=((i+1:Nat):Int):=w64 (by omega) (by omega)
 have hix:=fun H k=>q01q H q005 (k:=k) (s:=7) hx rfl
 have ts:=q03q hx
 have b1:=q0jy (l.take i) x
 have a1:=q0b7 fs (l.take i) x
 have d1:=q0f6 fs (l.take i) x
 rw [←ts] at b1 a1 d1
 have g1:(upV ((preL q00o l (i+1)).map encI))[i]? =some [vI (q00o (l.take i))]:=by simp [q056,q05a q00o l (i+1) i (by omega),encI]
 have g2:(upV ((preL (q00e fs) l (i+1)).map encC3))[i]? =some [vI (q00e fs (l.take i)).a,vI (q00e fs (l.take i)).b,vI (q00e fs (l.take i)).c]:=by simp [q056,q05a (q00e fs) l (i+1) i (by omega),encC3]
 have g3:(upV ((preL (dueP fs) l (i+1)).map encC3))[i]? =some [vI (dueP fs (l.take i)).a,vI (dueP fs (l.take i)).b,vI (dueP fs (l.take i)).c]:=by simp [q056,q05a (dueP fs) l (i+1) i (by omega),encC3]
 have p1:=q0e2 encI q00o l (i+1)
 have p2:=q0e2 encC3 (q00e fs) l (i+1)
 have p3:=q0e2 encC3 (dueP fs) l (i+1)
 have n1:(upV ((preL q00o l (i+1)).map encI)).length=i+1:=by simp [q03r]
 have n2:(upV ((preL (q00e fs) l (i+1)).map encC3)).length=i+1:=by simp [q03r]
 have n3:(upV ((preL (dueP fs) l (i+1)).map encC3)).length=i+1:=by simp [q03r]
 have bb:=q0f7 (l.take i)
 have ab:=q09w fs (l.take i)
 have hlen:(l.take i).length=i:=by rw [List.length_take];omega
 rw [hlen] at bb ab
 have wb:IntKind.i64.wrap (q00o (l.take i)+1)=q00o (l.take i)+1:=w64 (by omega) (by omega)
 have wa:IntKind.i64.wrap ((q00e fs (l.take i)).a+1)=(q00e fs (l.take i)).a+1:=w64 (by omega) (by omega)
 have wb2:IntKind.i64.wrap ((q00e fs (l.take i)).b+1)=(q00e fs (l.take i)).b+1:=w64 (by omega) (by omega)
 have wc:IntKind.i64.wrap ((q00e fs (l.take i)).c+1)=(q00e fs (l.take i)).c+1:=w64 (by omega) (by omega)
 have hm:i+1+1<most:=by unfold most;omega
 have hat:=fun H=>at_ev fs x.n H
 have x0: ∀a b:V,[a,b][0]? =some a:=fun _ _=>rfl
 have x1: ∀a b:V,[a,b][1]? =some b:=fun _ _=>rfl
 simp only [encI,encC3,b1,a1,d1] at p1 p2 p3
 unfold anE anH
 generalize q00o (l.take i)=b at*
 generalize hA:q00e fs (l.take i)=A at*
 generalize hD:dueP fs (l.take i)=D at*
 generalize upV ((preL q00o l (i+1)).map encI)=B1 at*
 generalize upV ((preL (q00e fs) l (i+1)).map encC3)=A1 at*
 generalize upV ((preL (dueP fs) l (i+1)).map encC3)=D1 at*
 generalize upV ((preL q00o l (i+1+1)).map encI)=B2 at*
 generalize upV ((preL (q00e fs) l (i+1+1)).map encC3)=A2 at*
 generalize upV ((preL (dueP fs) l (i+1+1)).map encC3)=D2 at*
 unfold addAt at p2
 by_cases k5:x.k=5
 ·simp only [k5,if_true,show¬(5:Int)=6 by decide,show¬(5:Int)=7 by decide,if_false] at p1 p2 p3
  simp [-getElem?_pos,hlt,hix,q005,subs,q001,g1,g2,g3,n1,n2,n3,w,hm,p1,p2,p3,apoB,okEl,q014,x0,x1,k5,wb]
 ·by_cases k6:x.k=6
  ·simp only [k6,if_true,show¬(6:Int)=5 by decide,show¬(6:Int)=7 by decide,if_false,Int.add_zero] at p1 p2 p3
   unfold ofS at p2
   cases hf:atF fs x.n with
   |none=>
    simp only [hf] at p2 hat
    simp [-getElem?_pos,hlt,hix,q005,subs,q001,g1,g2,g3,n1,n2,n3,w,hm,p1,p2,p3,apoB,okEl,q014,x0,x1,k6,hat]
   |some f=>
    simp only [hf] at p2 hat
    unfold bump at p2
    by_cases d0:f.c=0
    ·simp only [d0,if_true] at p2
     simp [-getElem?_pos,hlt,hix,q005,subs,q001,g1,g2,g3,n1,n2,n3,w,hm,p1,p2,p3,apoB,okEl,q014,x0,x1,k6,hat,d0,ixaV,q016,wa]
    ·by_cases d1:f.c=1
     ·simp only [d1,if_true,show¬(1:Int)=0 by decide,if_false] at p2
      simp [-getElem?_pos,hlt,hix,q005,subs,q001,g1,g2,g3,n1,n2,n3,w,hm,p1,p2,p3,apoB,okEl,q014,x0,x1,k6,hat,d1,ixaV,q016,wb2]
     ·by_cases d2:f.c=2
      ·simp only [d2,if_true,show¬(2:Int)=0 by decide,show¬(2:Int)=1 by decide,if_false] at p2
       simp [-getElem?_pos,hlt,hix,q005,subs,q001,g1,g2,g3,n1,n2,n3,w,hm,p1,p2,p3,apoB,okEl,q014,x0,x1,k6,hat,d2,ixaV,q016,wc]
      ·simp only [d0,d1,d2,if_false] at p2
       by_cases d3:f.c<0
       ·simp [-getElem?_pos,hlt,hix,q005,subs,q001,g1,g2,g3,n1,n2,n3,w,hm,p1,p2,p3,apoB,okEl,q014,x0,x1,k6,hat,show¬0≤f.c by omega]
       ·simp [-getElem?_pos,hlt,hix,q005,subs,q001,g1,g2,g3,n1,n2,n3,w,hm,p1,p2,p3,apoB,okEl,q014,x0,x1,k6,hat,show 0≤f.c by omega,show¬f.c<3 by omega]
  ·by_cases k7:x.k=7
   ·simp only [k7,if_true,show¬(7:Int)=5 by decide,show¬(7:Int)=6 by decide,if_false,Int.add_zero] at p1 p2 p3
    by_cases q1:D.a=A.a
    ·by_cases q2:D.b=A.b
     ·by_cases q3:D.c=A.c
      ·simp [-getElem?_pos,hlt,hix,q005,subs,q001,g1,g2,g3,n1,n2,n3,w,hm,p1,p2,p3,apoB,okEl,q014,x0,x1,k7,q1,q2,q3]
      ·simp [-getElem?_pos,hlt,hix,q005,subs,q001,g1,g2,g3,n1,n2,n3,w,hm,p1,p2,p3,apoB,okEl,q014,x0,x1,k7,q1,q2,q3]
     ·simp [-getElem?_pos,hlt,hix,q005,subs,q001,g1,g2,g3,n1,n2,n3,w,hm,p1,p2,p3,apoB,okEl,q014,x0,x1,k7,q1,q2]
    ·simp [-getElem?_pos,hlt,hix,q005,subs,q001,g1,g2,g3,n1,n2,n3,w,hm,p1,p2,p3,apoB,okEl,q014,x0,x1,k7,q1]
   ·simp only [k5,k6,k7,if_false,Int.add_zero] at p1 p2 p3
    simp [-getElem?_pos,hlt,hix,q005,subs,q001,g1,g2,g3,n1,n2,n3,w,hm,p1,p2,p3,apoB,okEl,q014,x0,x1,k5,k6,k7]
theorem q0sr (l:List Item) (fs:List Float) (hl:l.length≤1000000):evD EE q09k (anE l fs 0)=some (anX l fs):=by
 unfold q09k
 refine Eq.trans (q02d l (fun (_:Unit) i=>anE l fs i) (fun _ _=>True) (fun _ _ _=>()) (fun _=>anX l fs) (fun _ _=>rfl) ?_ ?_ () 0 trivial (Nat.zero_le _)) rfl
 ·rintro _ i x-hx
  obtain ⟨c',h1,h2⟩:=q0sq l fs hl i x hx
  simp only [q09k,IC.loop.injEq] at h1
  obtain ⟨-,-,rfl⟩:=h1
  exact ⟨h2,trivial⟩
 ·rintro _-
  simp [anE,anX]
theorem q0po (l:List Item) (fs:List Float) (hl:l.length≤1000000):zR (clD EE (.p (.fn 76)) [q00d l,q00q fs] [])=some (vMapW l fs):=by
 rw [q002 _ _ _ _ _ _ (noP _) fn76]
 have c:=q050 l hl
 have k:=q0sr l fs hl
 have e1:upV ((preL q00o l 1).map encI)=[[vI 0]]:=by simp [preL,upV,encI,q00o,cnt]
 have e2:upV ((preL (q00e fs) l 1).map encC3)=[[vI 0,vI 0,vI 0]]:=by simp [preL,upV,encC3,q00e]
 have e3:upV ((preL (dueP fs) l 1).map encC3)=[[vI 0,vI 0,vI 0]]:=by simp [preL,upV,encC3,dueP]
 simp only [anE,anX,anH,Nat.zero_add,e1,e2,e3] at k
 simp at k
 have f1:=fun T=>q03u (H:=DObj.row 1 (upV ((preL q00o l (l.length+1)).map encI))::T) (id:=0) (n:=l.length+1) rfl (by simp [q03r])
 have f2:=fun R T=>q03u (H:=R::DObj.row 3 (upV ((preL (q00e fs) l (l.length+1)).map encC3))::T) (id:=1) (n:=l.length+1) rfl (by simp [q03r])
 have f3:=fun R R' T=>q03u (H:=R::R'::DObj.row 3 (upV ((preL (dueP fs) l (l.length+1)).map encC3))::T) (id:=2) (n:=l.length+1) rfl (by simp [q03r])
 simp [St.enter,q000,subs,q001,solN,sd,c,k,allO,vMapW,f1,f2,f3,rowI,okEl]
theorem q0ss (env:List (Nat×V)) (loc:List (Nat×List V)) (H:Heap) (l:List Note) (x:Note) (hm:l.length+1<most):
  appV ⟨env,loc,H++rowsG 2 q00g l,H.length,[]⟩ (q00j H.length l) (.p (.sl [q00g x])) 2=some (q00j H.length (l++[x]),⟨env,loc,H++rowsG 2 q00g (l++[x]),H.length,[]⟩):=
 q0l7 env loc H H.length [] 2 q00g l x rfl hm (Nat.le_refl _)
def q0iq:List V:=[vI 0,vI 0,vI 0,vI 0,vI 0,vI 0,vI 0,vI 0,vI 0,vI 0,vI 0,vI 0,vI 0,vI 0,vI 0,vI 0,vI 0,vI 0,vB false,.nils,.nils,.nils]
def cpE (j:Job) (H:Heap) (M:List Note) (i:Nat):St:=
 ⟨[(2,.lptr 2 0),(3,.lptr 3 0),(16,q00v j.notes),(17,vI j.notes.length),(18,vI i)],[(2,q0iq),(3,cGeom j.g++[q00d j.items,q00j H.length M,q00q j.floats])],H++rowsG 2 q00g M,H.length,[]⟩
def cpX (j:Job) (H:Heap):Ex×St:=
 (.exit 0,⟨[(2,.lptr 2 0),(3,.lptr 3 0),(16,q00v j.notes),(17,vI j.notes.length),(18,vI j.notes.length),(19,vB false)],[(2,q0iq),(3,cGeom j.g++[q00d j.items,q00j H.length j.notes,q00q j.floats])],H++rowsG 2 q00g j.notes,H.length,[]⟩)
theorem cp_lp (j:Job) (n2:j.notes.length≤1000000) (hn: ∀n∈j.notes,n.lines.length≤1000000∧n.pens.length≤1000000) (H:Heap):evD EE q0hd (cpE j H [] 0)=some (cpX j H):=by
 unfold q0hd
 refine Eq.trans (q02d j.notes (fun (_:Unit) i=>cpE j H (j.notes.take i) i) (fun _ _=>True) (fun _ _ _=>()) (fun _=>cpX j H) (fun _ _=>rfl) ?_ ?_ () 0 trivial (Nat.zero_le _)) rfl
 ·rintro _ i x-hx
  refine ⟨?_,trivial⟩
  have hlt:=(List.getElem?_eq_some_iff.1 hx).1
  have w:IntKind.i64.wrap ((i:Int)+1)=((i+1:Nat):Int):=w64 (by omega) (by omega)
  have hix:=fun H k=>q01q H q00g (k:=k) (s:=2) hx rfl
  obtain ⟨l1,l2⟩:=hn x (List.mem_of_getElem? hx)
  have c1:=q0mq x.lines l1
  have c2:=q0k0 x.pens l2
  have hlen:(j.notes.take i).length=i:=by rw [List.length_take];omega
  have ha:=fun env loc=>q0ss env loc H (j.notes.take i) x (by rw [hlen];unfold most;omega)
  rw [q03q hx]
  generalize j.notes.take i=M at*
  simp only [q00g] at hix ha
  simp only [cpE,cGeom,List.cons_append,List.nil_append]
  simp [-q0kt,hlt,hix,subs,q001,solN,sd,w,c1,c2,ha]
 ·rintro _-
  simp only [cpE,cpX,List.take_length]
  simp [subs]
theorem q0pp (j:Job) (n1:j.items.length≤1000000) (n2:j.notes.length≤1000000) (n3:j.floats.length≤1000000) (hn: ∀n∈j.notes,n.lines.length≤1000000∧n.pens.length≤1000000) (H:Heap):clD EE (.p (.fn 72)) [vJob j] H=some (vJob j,none):=by
 rw [q002 _ _ _ _ _ _ (noP _) fn72]
 have c1:=q050 j.items n1
 have c2:=q0g5 j.floats n3
 have k:=cp_lp j n2 hn H
 have f2:=fun env loc=>q0ia env loc (H++rowsG 2 q00g j.notes) H.length [] H.length 2 q00g j.notes (by
  have:=q0s3 2 q00g H [] j.notes
  simpa using this) (Nat.le_refl _)
 simp only [cpE,cpX,q0iq,cGeom,List.cons_append,List.nil_append] at k
 simp only [vJob,cGeom,List.cons_append,List.nil_append]
 generalize hu:q00j H.length j.notes=u at*
 have o:u.oneB=true:=by rw [←hu];simp
 have p:u.cells=[u]:=by rw [←hu];simp
 clear hu
 generalize H++rowsG 2 q00g j.notes=G at*
 simp at k
 simp [St.enter,q000,subs,q001,solN,sd,c1,c2,k,f2,o,p]
def encNp (n:Note):List Int×List Int:=(n.lines,n.pens)
theorem q0ir (l:List Note):q02q (l.map encNp)=lineN l:=by
 induction l with
 |nil=>rfl
 |cons n r ih=>simp only [List.map_cons,q02q,List.foldr_cons,lineN,List.sum_cons] at ih⊢;rw [ih];rfl
theorem q0is (l:List Note) (H:Heap) (hl:l.length≤1000000) (hs:lineN l≤9223372036854775807):clD EE (.p (.fn 78)) [q00v l] H=some (vI (lineN l),none):=by
 have h:=q0s6 (l.map encNp) H (by simpa using hl) (by rw [q0ir];exact hs)
 rw [q0ir] at h
 unfold notes at h
 rw [List.map_map] at h
 exact h
theorem q0st (l:List Note) (h: ∀n∈l,n.lines.length≤1000000):0≤lineN l∧lineN l≤1000000*l.length:=by
 induction l with
 |nil=>simp [lineN]
 |cons n r ih=>
  have h1:=h n List.mem_cons_self
  have h2:=ih fun m hm=>h m (List.mem_cons_of_mem _ hm)
  simp only [lineN,List.map_cons,List.sum_cons,List.length_cons] at h2⊢
  omega
def cutV {α:Type} (enc:α→List PV) (l:List α) (p:Nat):V:=if p=0 then .nils else .p (.sl ((l.take p).map enc))
section
variable {α:Type} (enc:α→List PV) (l:List α) (p:Nat)
@[simp] theorem q0Ki:(cutV enc l p).oneB=true:=by unfold cutV;split<;>rfl
@[simp] theorem q0H3:(cutV enc l p).cells=[cutV enc l p] :=by unfold cutV;split<;>rfl
@[simp] theorem q0Kj:(cutV enc l p).notL=true:=by unfold cutV;split<;>rfl
@[simp] theorem q0H4:normC (cutV enc l p)= .p (.sl ((l.take p).map enc)):=by
  unfold cutV;split
  ·rename_i h0;subst h0;rfl
  ·rfl
theorem q0su (s:Nat) (hs: ∀x,(enc x).length=s) (H:Heap) (k:IntKind) (h:p≤l.length):slcI H s (.p (.sl (l.map enc))) none (some (.p (.int k (p:Int))))=some (.p (.sl ((l.take p).map enc))):=by
 have hh:q05i s (l.map enc)=true:=by
  cases l with
  |nil=>rfl
  |cons x r=>simp [q05i,hs]
 have h2:(p:Int)≤l.length:=by omega
 simp [slcI,slcV,hh,h2]
end
end Go.EnvOf
