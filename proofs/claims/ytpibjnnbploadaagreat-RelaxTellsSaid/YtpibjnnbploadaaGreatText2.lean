/- The program's functions and the document's, evaluated. -/
import Derived.Test.YtpibjnnbploadaaGreatText1
import Derived.Test.YtpibjnnbploadaaGreatTab
set_option linter.unusedSimpArgs false
set_option linter.unusedVariables false
namespace Go.EnvOf
open Go Go.Eng
abbrev I64 (n:Int):Prop:= -9223372036854775808≤n∧n≤9223372036854775807
structure Item where
 k:Int
 h:Int
 f:Int
 str:Int
 ord:Int
 shr:Int
 n:Int
 deriving Inhabited,DecidableEq
def q003 (x:Item):List PV:=[.int .i64 x.k,.int .i64 x.h,.int .i64 x.f,.int .i64 x.str,.int .i64 x.ord,.int .i64 x.shr,.int .i64 x.n]
@[simp] theorem q0yq (x:Item):(q003 x).length=7:=rfl
abbrev q004 (l:List Item):V:= .p (.sl (l.map q003))
abbrev vItem (x:Item):V:= .agg [.p (.int .i64 x.k),.p (.int .i64 x.h),.p (.int .i64 x.f),.p (.int .i64 x.str),.p (.int .i64 x.ord),.p (.int .i64 x.shr),.p (.int .i64 x.n)]
structure Note where
 lines:List Int
 pens:List Int
 deriving Inhabited,DecidableEq
def q00h (n:Note):List PV:=[.sl (n.lines.map encI),.sl (n.pens.map encI)]
@[simp] theorem q0yr (n:Note):(q00h n).length=2:=rfl
abbrev q00j (l:List Note):V:= .p (.sl (l.map q00h))
abbrev vNote (n:Note):V:= .agg [sli n.lines,sli n.pens]
structure Float where
 c:Int
 h:Int
 w:Int
 deriving Inhabited,DecidableEq
def q00a (f:Float):List PV:=[.int .i64 f.c,.int .i64 f.h,.int .i64 f.w]
@[simp] theorem q0wn (f:Float):(q00a f).length=3:=rfl
abbrev q00g (l:List Float):V:= .p (.sl (l.map q00a))
abbrev q05u (f:Float):V:= .agg [.p (.int .i64 f.c),.p (.int .i64 f.h),.p (.int .i64 f.w)]
structure Geom where
 cols:Int
 wide:Int
 gap:Int
 high:Int
 first:Int
 grid:Int
 rule:Int
 sep:Int
 noteMost:Int
 topMost:Int
 botMost:Int
 topMany:Int
 botMany:Int
 club:Int
 widow:Int
 split:Int
 defer:Int
 spare:Int
 balance:Bool
 deriving Inhabited,DecidableEq
abbrev cGeom (g:Geom):List V:=[.p (.int .i64 g.cols),.p (.int .i64 g.wide),.p (.int .i64 g.gap),.p (.int .i64 g.high),.p (.int .i64 g.first),.p (.int .i64 g.grid),.p (.int .i64 g.rule),.p (.int .i64 g.sep),.p (.int .i64 g.noteMost),.p (.int .i64 g.topMost),
 .p (.int .i64 g.botMost),.p (.int .i64 g.topMany),.p (.int .i64 g.botMany),.p (.int .i64 g.club),.p (.int .i64 g.widow),.p (.int .i64 g.split),.p (.int .i64 g.defer),.p (.int .i64 g.spare),.p (.bool g.balance)]
abbrev vGeom (g:Geom):V:= .agg (cGeom g)
structure Job where
 g:Geom
 items:List Item
 notes:List Note
 floats:List Float
 deriving Inhabited,DecidableEq
abbrev vJob (j:Job):V:= .agg (cGeom j.g++[q004 j.items,q00j j.notes,q00g j.floats])
def anchF (k:Int):Nat→Nat→List Item→Int
 |_,_,[]=> -1
 |i,n,x::r=>if x.k=k then (if x.n=n then anchF k (i+1) (n+1) r else i) else anchF k (i+1) n r
def anchE (l:List Item) (k:Int) (H:Heap) (n i:Nat):St:=
 ⟨[(0,q004 l),(1,.fn (.func 510) [] [.ptr H.length 0,.ptr (H.length+1) 0]),(7,.p (.int .i64 l.length)),(8,.p (.int .i64 i))],[],H++[.box [.p (.int .i64 k)],.box [.p (.int .i64 n)]],H.length+2,List.replicate n (H.length+1)⟩
def anchS (k:Int) (H:Heap) (n i:Nat) (x:Item):Nat⊕(Ex×St):=
 if x.k=k then (if x.n=n then .inl (n+1) else .inr (.ret,⟨[(4,.p (.int .i64 i))],[],H++[.box [.p (.int .i64 k)],.box [.p (.int .i64 ((n+1:Nat):Int))]],H.length+2,List.replicate (n+1) (H.length+1)⟩)) else .inl n
def anchX (l:List Item) (k:Int) (H:Heap) (n:Nat):Ex×St:=
 (.exit 0,⟨[(0,q004 l),(1,.fn (.func 510) [] [.ptr H.length 0,.ptr (H.length+1) 0]),(7,.p (.int .i64 l.length)),(8,.p (.int .i64 l.length)),(9,.p (.bool false))],[],H++[.box [.p (.int .i64 k)],.box [.p (.int .i64 n)]],H.length+2,List.replicate n (H.length+1)⟩)
theorem q0qp (x:Item) (k:Int) (H:Heap) (n:Nat) (hn:n≤1000000):clD EE (.p (.fn 510)) [vItem x,.ptr H.length 0,.ptr (H.length+1) 0] (H++[.box [.p (.int .i64 k)],.box [.p (.int .i64 n)]])=
  if x.k=k then some (.p (.bool (!decide (x.n=n))),some (H++[.box [.p (.int .i64 k)],.box [.p (.int .i64 ((n+1:Nat):Int))]],[H.length+1])) else some (.p (.bool false),none):=by
 rw [q002 _ _ _ _ _ _ (noP _) fn510]
 have w:IntKind.i64.wrap ((n:Int)+1)=((n+1:Nat):Int):=w64 (by omega) (by omega)
 have w2:IntKind.i64.wrap (n:Int)=(n:Int):=w64 (by omega) (by omega)
 by_cases hk:x.k=k
 ·simp [vItem,St.enter,q000,subs,q001,hk,w,w2]
 ·simp [vItem,St.enter,q000,subs,hk]
theorem q0un (l:List Item) (k:Int) (H:Heap) (hl:l.length≤1000000): ∀(n i:Nat),n≤i→i≤l.length→
  evD EE q0d6 (anchE l k H n i)=some (rng (anchS k H) (anchX l k H) n i (l.drop i)):=by
 unfold q0d6
 refine q01g l (anchE l k H) (fun p i=>p≤i) (anchS k H) (anchX l k H) (fun _ _=>rfl) ?_ ?_
 ·intro n i x hp hx
  have hlt:=(List.getElem?_eq_some_iff.1 hx).1
  have hix:=fun H k=>q00o H q003 (k:=k) (s:=7) hx rfl
  have w:IntKind.i64.wrap ((i:Int)+1)=((i+1:Nat):Int):=w64 (by omega) (by omega)
  have hc:=q0qp x k H n (by omega)
  simp only [vItem] at hc
  by_cases hk:x.k=k
  ·by_cases hn:x.n=n
   ·simp [hk,hn] at hc
    simp [anchS,anchE,q004,hlt,hix,q003,subs,hk,hn,w,hc,List.replicate_succ]
    omega
   ·simp [hk,hn] at hc
    simp [anchS,anchE,q004,hlt,hix,q003,subs,hk,hn,hc,List.replicate_succ]
  ·simp [hk] at hc
   simp [anchS,anchE,q004,hlt,hix,q003,subs,hk,w,hc]
   omega
 ·intro n hn
  simp [anchE,anchX,q004]
theorem q0az (l:List Item) (k:Int) (H:Heap): ∀(r:List Item) (n i:Nat),(∃n',rng (anchS k H) (anchX l k H) n i r=anchX l k H n'∧anchF k i n r= -1)∨
  ∃j m:Nat,rng (anchS k H) (anchX l k H) n i r=(.ret,⟨[(4,.p (.int .i64 j))],[],H++[.box [.p (.int .i64 k)],.box [.p (.int .i64 ((m+1:Nat):Int))]],H.length+2,List.replicate (m+1) (H.length+1)⟩)∧anchF k i n r=j
 |[],n,i=> .inl ⟨n,rfl,rfl⟩
 |x::r,n,i=>by
  by_cases hk:x.k=k
  ·by_cases hn:x.n=n
   ·have:=q0az l k H r (n+1) (i+1)
    simpa [rng,anchS,anchF,hk,hn] using this
   ·exact .inr ⟨i,n,by simp [rng,anchS,hk,hn],by simp [anchF,hk,hn]⟩
  ·have:=q0az l k H r n (i+1)
   simpa [rng,anchS,anchF,hk] using this
theorem q0e3 (B:Nat) (id:Nat) (h: ¬id<B): ∀n,(List.replicate n id).foldr (addD B) []=[]
 |0=>rfl
 |n+1=>by simp [List.replicate_succ,q0e3 B id h n,h]
theorem q0qq (l:List Item) (k:Int) (H:Heap) (hl:l.length≤1000000): ∃n:Nat,clD EE (.p (.fn 440)) [q004 l,.fn (.func 510) [] [.ptr H.length 0,.ptr (H.length+1) 0]] (H++[.box [.p (.int .i64 k)],.box [.p (.int .i64 0)]])=
  some (.p (.int .i64 (anchF k 0 0 l)),if n=0 then none else some (H++[.box [.p (.int .i64 k)],.box [.p (.int .i64 n)]],List.replicate n (H.length+1))):=by
 rw [q002 _ _ _ _ _ _ (noP _) fn440]
 have key:=q0un l k H hl 0 0 (by simp) (by simp)
 rcases q0az l k H l 0 0 with ⟨n',h1,h2⟩|⟨j,m,h1,h2⟩
 ·refine ⟨n',?_⟩
  simp [h1,anchE,anchX] at key
  by_cases hz:n'=0
  ·subst hz;simp at key;simp [St.enter,q000,key,h2]
  ·simp [St.enter,q000,key,h2,hz]
 ·refine ⟨m+1,?_⟩
  simp [h1,anchE] at key
  simp [St.enter,q000,key,h2,List.replicate_succ]
theorem q0uo (l:List Item) (k:Int) (H:Heap) (hl:l.length≤1000000):clD EE (.p (.fn 491)) [q004 l,.p (.int .i64 k)] H=some (.p (.int .i64 (anchF k 0 0 l)),none):=by
 rw [q002 _ _ _ _ _ _ (noP _) fn491]
 obtain ⟨n,hn⟩:=q0qq l k H hl
 simp only [q004] at hn
 by_cases hz:n=0
 ·simp [hz] at hn
  simp [St.enter,q000,q004,q001,hn]
 ·simp [hz] at hn
  simp [St.enter,q000,q004,q001,hn,q0e3]
def addF (a b:Int):Option Int:=if-9223372036854775808≤a+b∧a+b≤9223372036854775807 then some (a+b) else none
def subF (a b:Int):Option Int:=if-9223372036854775808≤a-b∧a-b≤9223372036854775807 then some (a-b) else none
def upF (a s:Int):Option Int:=if s<1 then none else if a%s=0 then some a else addF a (s-a%s)
def downF (a s:Int):Option Int:=if s<1 then none else subF a (a%s)
def resV:Option Int→V
 |some a=> .agg [vI a,vB true]
 |none=> .agg [vI 0,vB false]
def resT:Option Int→V
 |some a=> .tup [vI a,vB true]
 |none=> .tup [vI 0,vB false]
theorem q0jx {n:Int} (h0:9223372036854775808≤n) (h1:n≤27670116110564327423):IntKind.wrap .i64 n=n-18446744073709551616:=by
 unfold IntKind.wrap;simp [IntKind.bits,IntKind.signed];omega
theorem q0jy {n:Int} (h0:n≤ -9223372036854775809) (h1: -27670116110564327424≤n):IntKind.wrap .i64 n=n+18446744073709551616:=by
 unfold IntKind.wrap;simp [IntKind.bits,IntKind.signed];omega
theorem q05f (a s:Int) (hs:1≤s):(if a.tmod s<0 then a.tmod s+s else a.tmod s)=a%s:=by
 have h1:=Int.emod_nonneg a (show s≠0 by omega)
 have h2:=Int.emod_lt_of_pos a (show 0<s by omega)
 have:=Int.tmod_eq_emod (a:=a) (b:=s)
 rw [this]
 split<;>split<;>omega
theorem q0nj (a b:Int) (H:Heap) (ha:I64 a) (hb:I64 b):clD EE (.p (.fn 338)) [vI a,vI b] H=some (resT (addF a b),none):=by
 rw [q002 _ _ _ _ _ _ (noP _) fn338]
 unfold addF
 by_cases h1:9223372036854775807<a+b
 ·have w:=q0jx (n:=a+b) (by omega) (by omega)
  have c1: ¬a<a+b-18446744073709551616:=by omega
  have c2:0<b:=by omega
  have c3:b≠0:=by omega
  have c4: ¬(-9223372036854775808≤a+b∧a+b≤9223372036854775807):=by omega
  simp [St.enter,q000,resT,w,c1,c2,c3,c4]
 ·by_cases h2:a+b< -9223372036854775808
  ·have w:=q0jy (n:=a+b) (by omega) (by omega)
   have c1:a<a+b+18446744073709551616:=by omega
   have c2: ¬0<b:=by omega
   have c3:b≠0:=by omega
   have c4: ¬(-9223372036854775808≤a+b∧a+b≤9223372036854775807):=by omega
   simp [St.enter,q000,resT,w,c1,c2,c3,c4]
  ·have w:=w64 (n:=a+b) (by omega) (by omega)
   have c1:(a<a+b)=(0<b):=by rw [eq_iff_iff];omega
   have c4: -9223372036854775808≤a+b∧a+b≤9223372036854775807:=by omega
   simp [St.enter,q000,resT,w,c1,c4]
theorem q0nk (a b:Int) (H:Heap) (ha:I64 a) (hb:I64 b):clD EE (.p (.fn 376)) [vI a,vI b] H=some (resT (subF a b),none):=by
 rw [q002 _ _ _ _ _ _ (noP _) fn376]
 unfold subF
 by_cases h1:9223372036854775807<a-b
 ·have w:=q0jx (n:=a-b) (by omega) (by omega)
  have c1:a-b-18446744073709551616<a:=by omega
  have c2: ¬0<b:=by omega
  have c3:b≠0:=by omega
  have c4: ¬(-9223372036854775808≤a-b∧a-b≤9223372036854775807):=by omega
  simp [St.enter,q000,resT,w,c1,c2,c3,c4]
 ·by_cases h2:a-b< -9223372036854775808
  ·have w:=q0jy (n:=a-b) (by omega) (by omega)
   have c1: ¬a-b+18446744073709551616<a:=by omega
   have c2:0<b:=by omega
   have c3:b≠0:=by omega
   have c4: ¬(-9223372036854775808≤a-b∧a-b≤9223372036854775807):=by omega
   simp [St.enter,q000,resT,w,c1,c2,c3,c4]
  ·have w:=w64 (n:=a-b) (by omega) (by omega)
   have c1:(a-b<a)=(0<b):=by rw [eq_iff_iff];omega
   have c4: -9223372036854775808≤a-b∧a-b≤9223372036854775807:=by omega
   simp [St.enter,q000,resT,w,c1,c4]
theorem q0up (a b:Int) (H:Heap) (ha:I64 a) (hb:I64 b):clD EE (.p (.fn 352)) [vI a,vI b] H=some (resV (addF a b),none):=by
 rw [q002 _ _ _ _ _ _ (noP _) fn352]
 unfold addF
 by_cases c:0<b
 ·have w:=w64 (n:=9223372036854775807-b) (by omega) (by omega)
  have c2: ¬b<0:=by omega
  by_cases h1:9223372036854775807-b<a
  ·have c4: ¬(-9223372036854775808≤a+b∧a+b≤9223372036854775807):=by omega
   simp [St.enter,q000,resV,subs,q001,w,c,c2,h1,c4]
  ·have c4: -9223372036854775808≤a+b∧a+b≤9223372036854775807:=by omega
   have w2:=w64 (n:=a+b) (by omega) (by omega)
   simp [St.enter,q000,resV,subs,q001,w,w2,c,c2,h1,c4]
 ·by_cases c2:b<0
  ·have w:=w64 (n:= -9223372036854775808-b) (by omega) (by omega)
   by_cases h1:a< -9223372036854775808-b
   ·have c4: ¬(-9223372036854775808≤a+b∧a+b≤9223372036854775807):=by omega
    simp [St.enter,q000,resV,subs,q001,w,c,c2,h1,c4]
   ·have c4: -9223372036854775808≤a+b∧a+b≤9223372036854775807:=by omega
    have w2:=w64 (n:=a+b) (by omega) (by omega)
    simp [St.enter,q000,resV,subs,q001,w,w2,c,c2,h1,c4]
  ·have e:b=0:=by omega
   subst e
   have w2:=w64 (n:=a) (by omega) (by omega)
   simp [St.enter,q000,resV,subs,q001,w2,ha.1,ha.2]
theorem q0uq (a b:Int) (H:Heap) (ha:I64 a) (hb:I64 b):clD EE (.p (.fn 413)) [vI a,vI b] H=some (resV (subF a b),none):=by
 rw [q002 _ _ _ _ _ _ (noP _) fn413]
 unfold subF
 by_cases c:0<b
 ·have w:=w64 (n:= -9223372036854775808+b) (by omega) (by omega)
  have c2: ¬b<0:=by omega
  by_cases h1:a< -9223372036854775808+b
  ·have c4: ¬(-9223372036854775808≤a-b∧a-b≤9223372036854775807):=by omega
   simp [St.enter,q000,resV,subs,q001,w,c,c2,h1,c4]
  ·have c4: -9223372036854775808≤a-b∧a-b≤9223372036854775807:=by omega
   have w2:=w64 (n:=a-b) (by omega) (by omega)
   simp [St.enter,q000,resV,subs,q001,w,w2,c,c2,h1,c4]
 ·by_cases c2:b<0
  ·have w:=w64 (n:=9223372036854775807+b) (by omega) (by omega)
   by_cases h1:9223372036854775807+b<a
   ·have c4: ¬(-9223372036854775808≤a-b∧a-b≤9223372036854775807):=by omega
    simp [St.enter,q000,resV,subs,q001,w,c,c2,h1,c4]
   ·have c4: -9223372036854775808≤a-b∧a-b≤9223372036854775807:=by omega
    have w2:=w64 (n:=a-b) (by omega) (by omega)
    simp [St.enter,q000,resV,subs,q001,w,w2,c,c2,h1,c4]
  ·have e:b=0:=by omega
   subst e
   have w2:=w64 (n:=a) (by omega) (by omega)
   simp [St.enter,q000,resV,subs,q001,w2,ha.1,ha.2]
theorem q05v (a s:Int) (hs:1≤s):0≤a%s∧a%s<s:=⟨Int.emod_nonneg a (by omega),Int.emod_lt_of_pos a (by omega)⟩
theorem q06v (a s:Int) (hs:1≤s): -s≤a.tmod s∧a.tmod s<s:=by
 have h:=q05f a s hs
 have h2:=q05v a s hs
 split at h<;>omega
theorem q0gz (a s:Int) (H:Heap) (hs:1≤s) (h2:I64 s):clD EE (.p (.fn 411)) [vI a,vI s] H=some (vI (a%s),none):=by
 rw [q002 _ _ _ _ _ _ (noP _) fn411]
 have h:=q05f a s hs
 have hb:=q06v a s hs
 have h0:s≠0:=by omega
 by_cases c:a.tmod s<0
 ·rw [if_pos c] at h
  have w:=w64 (n:=a%s) (by omega) (by omega)
  simp [St.enter,q000,h0,c,w,h]
 ·rw [if_neg c] at h
  rw [h] at c
  simp [St.enter,q000,h0,c,h]
theorem q0ur (a s:Int) (H:Heap) (ha:I64 a) (hs:I64 s):clD EE (.p (.fn 332)) [vI a,vI s] H=some (resT (downF a s),none):=by
 rw [q002 _ _ _ _ _ _ (noP _) fn332]
 unfold downF
 by_cases c:s<1
 ·simp [St.enter,q000,c,resT]
 ·have h1:=q0gz a s H (by omega) hs
  have hb:=q05v a s (by omega)
  have h2:=q0nk a (a%s) H ha ⟨by omega,by omega⟩
  cases h3:subF a (a%s)<;>simp [h3,resT] at h2<;>simp [St.enter,q000,c,resT,h1,h2,h3]
theorem up_ev (a s:Int) (H:Heap) (ha:I64 a) (hs:I64 s):clD EE (.p (.fn 333)) [vI a,vI s] H=some (resT (upF a s),none):=by
 rw [q002 _ _ _ _ _ _ (noP _) fn333]
 unfold upF
 by_cases c:s<1
 ·simp [St.enter,q000,c,resT]
 ·have h1:=q0gz a s H (by omega) hs
  have hb:=q05v a s (by omega)
  by_cases c2:a%s=0
  ·simp [St.enter,q000,c,resT,h1,c2]
  ·have w:=w64 (n:=s-a%s) (by omega) (by omega)
   have c3:0<a%s:=by omega
   have h2:=q0nj a (s-a%s) H ha ⟨by omega,by omega⟩
   cases h3:addF a (s-a%s)<;>simp [h3,resT] at h2<;>simp [St.enter,q000,c,c2,c3,w,resT,h1,h2,h3]
theorem q0h0 (a s:Int) (H:Heap) (ha:I64 a) (hs:I64 s):clD EE (.p (.fn 341)) [vI a,vI s] H=some (resV (downF a s),none):=by
 rw [q002 _ _ _ _ _ _ (noP _) fn341]
 unfold downF
 by_cases c:s<1
 ·simp [St.enter,q000,c,resV,subs,q001]
 ·have h:=q05f a s (by omega)
  have hb:=q06v a s (by omega)
  have hb2:=q05v a s (by omega)
  have h0:s≠0:=by omega
  have h2:=q0uq a (a%s) H ha ⟨by omega,by omega⟩
  by_cases c2:a.tmod s<0
  ·rw [if_pos c2] at h
   have w:=w64 (n:=a%s) (by omega) (by omega)
   cases h3:subF a (a%s)<;>simp [h3,resV] at h2<;>simp [St.enter,q000,c,resV,subs,q001,h0,c2,w,h,h2,h3]
  ·rw [if_neg c2] at h
   rw [h] at c2
   cases h3:subF a (a%s)<;>simp [h3,resV] at h2<;>simp [St.enter,q000,c,resV,subs,q001,h0,c2,h,h2,h3]
theorem q0nl (a s:Int) (H:Heap) (ha:I64 a) (hs:I64 s):clD EE (.p (.fn 342)) [vI a,vI s] H=some (resV (upF a s),none):=by
 rw [q002 _ _ _ _ _ _ (noP _) fn342]
 unfold upF
 by_cases c:s<1
 ·simp [St.enter,q000,c,resV,subs,q001]
 ·have h:=q05f a s (by omega)
  have hb:=q06v a s (by omega)
  have hb2:=q05v a s (by omega)
  have h0:s≠0:=by omega
  have w:=w64 (n:=s-a%s) (by omega) (by omega)
  have h2:=q0up a (s-a%s) H ha ⟨by omega,by omega⟩
  by_cases c3:a%s=0
  ·by_cases c2:a.tmod s<0
   ·rw [if_pos c2] at h
    have w:IntKind.i64.wrap 0=0:=w64 (by omega) (by omega)
    simp [St.enter,q000,c,resV,subs,q001,h0,c2,w,h,c3]
   ·rw [if_neg c2] at h
    rw [h] at c2
    simp [St.enter,q000,c,resV,subs,q001,h0,c2,h,c3]
  ·by_cases c2:a.tmod s<0
   ·rw [if_pos c2] at h
    have w3:=w64 (n:=a%s) (by omega) (by omega)
    cases h3:addF a (s-a%s)<;>simp [h3,resV] at h2<;>simp [St.enter,q000,c,resV,subs,q001,h0,c2,w,w3,h,h2,h3,c3]
   ·rw [if_neg c2] at h
    rw [h] at c2
    cases h3:addF a (s-a%s)<;>simp [h3,resV] at h2<;>simp [St.enter,q000,c,resV,subs,q001,h0,c2,w,h,h2,h3,c3]
def orN (o:Option Int) (n:Int):Int:=match o with|some a=>a|none=>n
def upG (n s:Int):Int:=orN (upF n s) n
def downG (n s:Int):Int:=orN (downF n s) n
def nearG (n s:Int):Int:=if s<1 then n else if n%s<s-n%s then downG n s else upG n s
theorem or_ev (f:FuncId) (o:Option Int) (n s:Int) (H:Heap) (h:clD EE (.p (.fn f)) [vI n,vI s] H=some (resT o,none)):clD EE (.p (.fn 331)) [vI n,vI s,.p (.fn f)] H=some (vI (orN o n),none):=by
 rw [q002 _ _ _ _ _ _ (noP _) fn331]
 cases o<;>simp [resT] at h<;>simp [St.enter,q000,h,orN]
theorem q0b0 (n s:Int) (H:Heap) (hn:I64 n) (hs:I64 s):clD EE (.p (.fn 196)) [vI n,vI s] H=some (vI (downG n s),none):=by
 rw [q002 _ _ _ _ _ _ (noP _) fn196]
 have h:=or_ev _ _ n s H (q0ur n s H hn hs)
 simp [St.enter,q000,h,downG]
theorem q06w (n s:Int) (H:Heap) (hn:I64 n) (hs:I64 s):clD EE (.p (.fn 197)) [vI n,vI s] H=some (vI (upG n s),none):=by
 rw [q002 _ _ _ _ _ _ (noP _) fn197]
 have h:=or_ev _ _ n s H (up_ev n s H hn hs)
 simp [St.enter,q000,h,upG]
theorem q0qr (n s:Int) (H:Heap) (hn:I64 n) (hs:I64 s):clD EE (.p (.fn 330)) [vI n,vI s] H=some (vI (nearG n s),none):=by
 rw [q002 _ _ _ _ _ _ (noP _) fn330]
 unfold nearG
 by_cases c:s<1
 ·simp [St.enter,q000,c]
 ·have h:=q05f n s (by omega)
  have hb:=q06v n s (by omega)
  have hb2:=q05v n s (by omega)
  have h0:s≠0:=by omega
  have w:=w64 (n:=s-n%s) (by omega) (by omega)
  have h1:=q0b0 n s H hn hs
  have h2:=q06w n s H hn hs
  by_cases c2:n.tmod s<0
  ·rw [if_pos c2] at h
   have w3:=w64 (n:=n%s) (by omega) (by omega)
   by_cases c3:n%s<s-n%s<;>simp [St.enter,q000,c,c2,c3,h0,w,w3,h,h1,h2]
  ·rw [if_neg c2] at h
   rw [h] at c2
   by_cases c3:n%s<s-n%s<;>simp [St.enter,q000,c,c2,c3,h0,w,h,h1,h2]
theorem q0c3 (o:Option Int) (n:Int) (H:Heap):clD EE (.p (.fn 340)) [resV o,vI n] H=some (vI (orN o n),none):=by
 rw [q002 _ _ _ _ _ _ (noP _) fn340]
 cases o<;>simp [resV,St.enter,q000,subs,orN]
theorem q0e4 (n s:Int) (H:Heap) (hn:I64 n) (hs:I64 s):clD EE (.p (.fn 208)) [vI n,vI s] H=some (vI (downG n s),none):=by
 rw [q002 _ _ _ _ _ _ (noP _) fn208]
 have h:=q0h0 n s H hn hs
 have h2:=q0c3 (downF n s) n H
 cases ho:downF n s<;>simp only [ho,resV] at h h2<;>simp [St.enter,q000,h,h2,downG,ho]
theorem q06x (n s:Int) (H:Heap) (hn:I64 n) (hs:I64 s):clD EE (.p (.fn 209)) [vI n,vI s] H=some (vI (upG n s),none):=by
 rw [q002 _ _ _ _ _ _ (noP _) fn209]
 have h:=q0nl n s H hn hs
 have h2:=q0c3 (upF n s) n H
 cases ho:upF n s<;>simp only [ho,resV] at h h2<;>simp [St.enter,q000,h,h2,upG,ho]
theorem q0c4 (o:Option Int): ∃a b,resV o= .agg [vI a,vB b]:=by cases o<;>exact ⟨_,_,rfl⟩
theorem q0nm (n s:Int) (H:Heap) (hn:I64 n) (hs:I64 s):clD EE (.p (.fn 343)) [vI n,vI s] H=some (vI (nearG n s),none):=by
 rw [q002 _ _ _ _ _ _ (noP _) fn343]
 unfold nearG
 by_cases c:s<1
 ·simp [St.enter,q000,c]
 ·have h:=q05f n s (by omega)
  have hb:=q06v n s (by omega)
  have hb2:=q05v n s (by omega)
  have h0:s≠0:=by omega
  have w:=w64 (n:=s-n%s) (by omega) (by omega)
  have h1:=q0h0 n s H hn hs
  have h2:=q0nl n s H hn hs
  have g1:=q0c3 (downF n s) n H
  have g2:=q0c3 (upF n s) n H
  obtain ⟨a1,b1,e1⟩:=q0c4 (downF n s)
  obtain ⟨a2,b2,e2⟩:=q0c4 (upF n s)
  rw [e1] at h1 g1
  rw [e2] at h2 g2
  by_cases c2:n.tmod s<0
  ·rw [if_pos c2] at h
   have w3:=w64 (n:=n%s) (by omega) (by omega)
   by_cases c3:n%s<s-n%s
   ·simp [St.enter,q000,subs,q001,c,c2,c3,h0,w,w3,h,h1,h2,g1,downG]
   ·have c4:n%s≠0:=by omega
    simp [St.enter,q000,subs,q001,c,c2,c3,c4,h0,w,w3,h,h1,h2,g2,upG]
  ·rw [if_neg c2] at h
   rw [h] at c2
   by_cases c3:n%s<s-n%s
   ·simp [St.enter,q000,subs,q001,c,c2,c3,h0,w,h,h1,h2,g1,downG]
   ·have c4:n%s≠0:=by omega
    simp [St.enter,q000,subs,q001,c,c2,c3,c4,h0,w,h,h1,h2,g2,upG]
theorem q0jz {o:Option Int} {n:Int} (hn:I64 n) (h: ∀a,o=some a→I64 a):I64 (orN o n):=by
 cases o with
 |none=>exact hn
 |some a=>exact h a rfl
theorem q0qs {a b c:Int} (h:addF a b=some c):I64 c:=by unfold addF at h;split at h<;>simp at h;subst h;assumption
theorem q0qt {a b c:Int} (h:subF a b=some c):I64 c:=by unfold subF at h;split at h<;>simp at h;subst h;assumption
theorem q05g {n s:Int} (hn:I64 n):I64 (upG n s):=q0jz hn fun a h=>by
 unfold upF at h;split at h
 ·cases h
 ·split at h
  ·simp at h;subst h;exact hn
  ·exact q0qs h
theorem q08x {n s:Int} (hn:I64 n):I64 (downG n s):=q0jz hn fun a h=>by
 unfold downF at h;split at h
 ·cases h
 ·exact q0qt h
theorem q0nn {n s:Int} (hn:I64 n):I64 (nearG n s):=by
 unfold nearG;split
 ·exact hn
 ·split
  ·exact q08x hn
  ·exact q05g hn
end Go.EnvOf
namespace Go.Eng
open Go
def idxF {α:Type} (p:α→Bool):Nat→List α→Int
 |_,[]=> -1
 |i,x::r=>if p x=true then i else idxF p (i+1) r
theorem q07i {α:Type} (p:α→Bool): ∀(i:Nat) (l:List α),decide (0≤idxF p i l)=l.any p
 |_,[]=>rfl
 |i,x::r=>by
  simp only [idxF,List.any_cons]
  by_cases h:p x=true
  ·simp [h]
  ·simp [h,q07i p (i+1) r]
theorem q0e5 {α ρ:Type} (p:α→Bool) (hit:Nat→α→ρ) (fin:ρ): ∀(l:List α) (i:Nat),
  rng (fun (_:Unit) i x=>if p x=true then .inr (hit i x) else .inl ()) (fun _=>fin) () i l=(match l.findIdx? p with|some k=>(match l[k]? with|some x=>hit (i+k) x|none=>fin)|none=>fin)
 |[],_=>rfl
 |x::r,i=>by
  simp only [rng,List.findIdx?_cons]
  cases h:p x with
  |true=>simp
  |false=>
   simp only [Bool.false_eq_true,if_false]
   rw [q0e5 p hit fin r (i+1)]
   cases r.findIdx? p with
   |none=>rfl
   |some k=>simp only [Option.map_some,List.getElem?_cons_succ];rw [show i+1+k=i+(k+1) by omega]
theorem q0e6 {α:Type} (p:α→Bool): ∀(l:List α) (i:Nat),idxF p i l=(match l.findIdx? p with|some k=>((i+k:Nat):Int)|none=> -1)
 |[],_=>rfl
 |x::r,i=>by
  simp only [idxF,List.findIdx?_cons]
  cases h:p x with
  |true=>simp
  |false=>
   simp only [Bool.false_eq_true,if_false]
   rw [q0e6 p r (i+1)]
   cases r.findIdx? p with
   |none=>rfl
   |some k=>simp only [Option.map_some];congr 1;omega
theorem q0ac {α:Type} {p:α→Bool}: ∀ {l:List α} {k:Nat},l.findIdx? p=some k→ ∃x,l[k]? =some x
 |[],k,h=>by simp at h
 |x::r,k,h=>by
  rw [List.findIdx?_cons] at h
  cases hp:p x with
  |true=>rw [hp] at h;simp at h;subst h;exact ⟨x,rfl⟩
  |false=>
   rw [hp] at h
   simp only [Bool.false_eq_true,if_false] at h
   cases hk:r.findIdx? p with
   |none=>rw [hk] at h;simp at h
   |some m=>
    rw [hk] at h;simp at h;subst h
    obtain ⟨y,hy⟩:=q0ac hk
    exact ⟨y,by simpa using hy⟩
def stepB {α ρ:Type} (p:α→Bool) (bad:ρ) (_:Unit) (_:Nat) (x:α):Unit⊕ρ:=if p x=true then .inr bad else .inl ()
theorem q05h {α ρ:Type} (p:α→Bool) (bad fin:ρ): ∀(l:List α) (i:Nat),rng (stepB p bad) (fun _=>fin) () i l=if l.any p=true then bad else fin
 |[],_=>rfl
 |x::r,i=>by
  simp only [rng,List.any_cons,stepB]
  by_cases h:p x=true
  ·simp [h]
  ·have ih:=q05h p bad fin r (i+1)
   simp only [h,Bool.false_eq_true,if_false,Bool.false_or]
   exact ih
def stepI {α ρ:Type} (p:Nat→α→Bool) (bad:ρ) (_:Unit) (i:Nat) (x:α):Unit⊕ρ:=if p i x=true then .inr bad else .inl ()
def anyI {α:Type} (p:Nat→α→Bool):Nat→List α→Bool
 |_,[]=>false
 |i,x::r=>p i x||anyI p (i+1) r
theorem q0h1 {α ρ:Type} (p:Nat→α→Bool) (bad fin:ρ): ∀(l:List α) (i:Nat),rng (stepI p bad) (fun _=>fin) () i l=if anyI p i l=true then bad else fin
 |[],_=>rfl
 |x::r,i=>by
  simp only [rng,anyI,stepI]
  by_cases h:p i x=true
  ·simp [h]
  ·have ih:=q0h1 p bad fin r (i+1)
   simp only [h,Bool.false_eq_true,if_false,Bool.false_or]
   exact ih
def stepH {α ρ:Type} (p:α→Bool) (hit:Int→ρ) (_:Unit) (i:Nat) (x:α):Unit⊕ρ:=if p x=true then .inr (hit i) else .inl ()
theorem q06y {α ρ:Type} (p:α→Bool) (hit:Int→ρ) (fin:ρ): ∀(l:List α) (i:Nat),rng (stepH p hit) (fun _=>fin) () i l=if 0≤idxF p i l then hit (idxF p i l) else fin
 |[],_=>rfl
 |x::r,i=>by
  simp only [rng,stepH,idxF]
  by_cases h:p x=true
  ·simp [h]
  ·simp only [h,Bool.false_eq_true,if_false]
   exact q06y p hit fin r (i+1)
def idxL (s:Nat) (agg:Bool):IC:=
 (.loop [0,1,7,8] [] (.seq (.reg false [⟨some 9,none,.bin .lss (.t 8) (.t 7)⟩] [0,1,7,8,9] [])
   (.seq (.cond (.t 9) .skip (.exit 0))
   (.seq (.block 1 (.seq (.reg false [⟨some 10,none,.mov (.t 8)⟩,⟨some 5,none,.mov (.t 10)⟩] [0,1,5,7,8] [])
    (.seq (.reg false [⟨some 11,none,.mov (.t 1)⟩,⟨some 12,none,.mov (.t 0)⟩,⟨some 13,none,.mov (.t 5)⟩,⟨some 14,none,.ixs (.t 12) (.t 13) s⟩,⟨some 15,none,.ld (.t 14) s agg⟩,⟨some 16,none,.callv (.t 11) [.t 15] false⟩] [0,1,5,7,8,16] [])
    (.cond (.t 16) (.seq (.reg false [⟨some 17,none,.mov (.t 5)⟩,⟨some 4,none,.mov (.t 17)⟩] [4] []) .ret) .skip))))
   (.reg false [⟨some 18,none,.bin .add (.t 8) (.c (.p (.int .i64 1)))⟩,⟨some 8,none,.mov (.t 18)⟩] [0,1,7,8] [])))))
def idxI (s:Nat) (agg:Bool):IFn:=⟨(.seq (.reg false [⟨some 4,none,.mov (.c (.p (.int .i64 0)))⟩] [0,1] [])
 (.seq (.seq (.reg false [⟨some 6,none,.mov (.t 0)⟩,⟨some 7,none,.len (.t 6)⟩,⟨some 8,none,.mov (.c (.p (.int .i64 0)))⟩] [0,1,7,8] []) (.block 0 (idxL s agg)))
 (.seq (.reg false [⟨some 4,none,.mov (.c (.p (.int .i64 (-1))))⟩] [4] []) .ret))),[.tmp 4],false⟩
section
variable {α:Type} {E:Env} (f:FuncId) (s:Nat) (agg:Bool) (enc:α→List PV) (val:α→V)
def idxE (l:List α) (hv:V) (H:Heap) (B:Nat) (i:Nat):St:=⟨[(0,.p (.sl (l.map enc))),(1,hv),(7,vI l.length),(8,vI i)],[],H,B,[]⟩
def idxX (l:List α) (hv:V) (H:Heap) (B:Nat):Ex×St:=(.exit 0,⟨[(0,.p (.sl (l.map enc))),(1,hv),(7,vI l.length),(8,vI l.length),(9,.p (.bool false))],[],H,B,[]⟩)
def idxR (H:Heap) (B:Nat) (i:Nat):Ex×St:=(.ret,⟨[(4,vI i)],[],H,B,[]⟩)
theorem q0wo (hs: ∀x,(enc x).length=s) (hval: ∀x,aggOr agg ((enc x).map .p)=some (val x)) (hout: ∀x,(normA (val x)).outB=true) (hnorm: ∀x,normA (val x)=val x) (l:List α) (hn:l.length≤9223372036854775806) (hv:V) (p:α→Bool) (H:Heap) (B:Nat)
  (hH: ∀x∈l,clD E hv [val x] H=some (vB (p x),none)):
  evD E (idxL s agg) (idxE enc l hv H B 0)=some (rng (fun (_:Unit) i x=>if p x=true then .inr (idxR H B i) else .inl ()) (fun _=>idxX enc l hv H B) () 0 l):=by
 unfold idxL
 refine q01g l (fun (_:Unit) i=>idxE enc l hv H B i) (fun _ _=>True) (fun (_:Unit) i x=>if p x=true then .inr (idxR H B i) else .inl ()) (fun _=>idxX enc l hv H B) (fun _ _=>rfl) ?_ ?_ () 0 trivial (Nat.zero_le _)
 ·rintro _ i x-hx
  have hlt:=(List.getElem?_eq_some_iff.1 hx).1
  have w:IntKind.i64.wrap ((i:Int)+1)=((i+1:Nat):Int):=w64 (by omega) (by omega)
  have hc:=hH x (List.mem_of_getElem? hx)
  have hix:=fun H k=>q00o H enc (k:=k) (s:=s) hx (hs x)
  have hsub:subs ((enc x).map V.p) 0 s=some ((enc x).map V.p):=by simp [subs,hs x,List.take_of_length_le]
  have ho:=hout x
  cases hp:p x with
  |true=>
   rw [hp] at hc
   simp [idxE,idxR,hlt,hix,hsub,hval,hnorm,hc]
   rw [hnorm] at ho
   simp [ho]
  |false=>
   rw [hp] at hc
   rw [hnorm] at ho
   simp [idxE,hlt,hix,hsub,hval,hnorm,ho,hc,w]
 ·rintro _-
  simp [idxE,idxX]
theorem q08y (hp:E.prims f=none) (hf:E.fns f=some (idxI s agg)) (hs: ∀x,(enc x).length=s) (hval: ∀x,aggOr agg ((enc x).map .p)=some (val x)) (hout: ∀x,(normA (val x)).outB=true) (hnorm: ∀x,normA (val x)=val x)
  (l:List α) (hn:l.length≤9223372036854775806) (hv:V) (p:α→Bool) (H:Heap) (hH: ∀x∈l,clD E hv [val x] H=some (vB (p x),none)):
  clD E (.p (.fn f)) [.p (.sl (l.map enc)),hv] H=some (vI (idxF p 0 l),none):=by
 rw [q002 E f _ _ _ _ hp hf]
 have key:=q0wo s agg enc val hs hval hout hnorm l hn hv p H H.length hH
 rw [q0e5 p (fun i _=>idxR H H.length i)] at key
 rw [q0e6]
 cases hk:l.findIdx? p with
 |none=>
  rw [hk] at key
  simp [idxE,idxX] at key
  simp [St.enter,q000,key]
 |some k=>
  obtain ⟨x,hx⟩:=q0ac hk
  rw [hk] at key
  simp only [hx] at key
  simp [idxE,idxR] at key
  simp [St.enter,q000,key]
end
def conI (g:FuncId):IFn:=⟨(.seq (.reg false [⟨some 4,none,.mov (.c (.p (.bool false)))⟩] [0,1] [])
 (.seq (.reg false [⟨some 5,none,.mov (.t 0)⟩,⟨some 6,none,.mov (.t 1)⟩,⟨some 7,none,.call g [.t 5,.t 6] false⟩,⟨some 8,none,.bin .geq (.t 7) (.c (.p (.int .i64 0)))⟩,⟨some 4,none,.mov (.t 8)⟩] [4] []) .ret)),[.tmp 4],false⟩
theorem q0wp {α:Type} {E:Env} (f g:FuncId) (hp:E.prims f=none) (hf:E.fns f=some (conI g)) (x hv:V) (p:α→Bool) (l:List α) (H:Heap) (hx:(normA x).outB=true) (hx2:normA x=x) (ho:(normA hv).outB=true) (ho2:normA hv=hv)
  (h:clD E (.p (.fn g)) [x,hv] H=some (vI (idxF p 0 l),none)):clD E (.p (.fn f)) [x,hv] H=some (vB (l.any p),none):=by
 rw [q002 E f _ _ _ _ hp hf,←q07i p 0 l]
 rw [hx2] at hx
 rw [ho2] at ho
 simp [St.enter,q000,hx2,hx,ho2,ho,h]
section
variable {α:Type} [DecidableEq α] {E:Env} (f:FuncId) (s:Nat) (sh:List Bool) (enc:α→List PV)
end
end Go.Eng
namespace Go.EnvOf
open Go Go.Eng
def inR (lo hi:Int) (l:List Int):Bool:= !l.any fun x=>decide (x<lo)||decide (hi<x)
def wiE (x:V) (H:Heap) (p q:Nat) (n:Nat) (i:Nat):St:=⟨[(1,.ptr p 0),(2,.ptr q 0),(7,x),(8,vI n),(9,vI i)],[],H,H.length,[]⟩
def wiX (x:V) (H:Heap) (p q:Nat) (n:Nat):Ex×St:=(.exit 0,⟨[(1,.ptr p 0),(2,.ptr q 0),(7,x),(8,vI n),(9,vI n),(10,vB false)],[],H,H.length,[]⟩)
def wiB (H:Heap):Ex×St:=(.ret,⟨[(4,vB false)],[],H,H.length,[]⟩)
structure Reads (H:Heap) (x:V) (l:List Int):Prop where
 len:lenV x=some l.length
 at_: ∀(i:Nat) (v:Int),l[i]? =some v→ ∃a,ixsI H x (.p (.int .i64 (i:Int))) 1=some a∧ ∀env loc base dirty,q00v ⟨env,loc,H,base,dirty⟩ a 1=some [vI v]
theorem q04o (H:Heap) (l:List Int):Reads H (sli l) l:=⟨by simp,fun i v h=>⟨_,q00o H encI h rfl,fun _ _ _ _=>rfl⟩⟩
theorem q0no (l:List Int) (hn:l.length≤1000000) (x:V) (H:Heap) (hx:Reads H x l) (p q:Nat) (lo hi:Int) (hp:Eng.boxAt H p=some [vI lo]) (hq:Eng.boxAt H q=some [vI hi]):
  evD EE q0d8 (wiE x H p q l.length 0)=some (if (l.any fun x=>decide (x<lo)||decide (hi<x))=true then wiB H else wiX x H p q l.length):=by
 unfold q0d8
 refine Eq.trans (q01g l (fun (_:Unit) i=>wiE x H p q l.length i) (fun _ _=>True) (stepB (fun x=>decide (x<lo)||decide (hi<x)) (wiB H)) (fun _=>wiX x H p q l.length) (fun _ _=>rfl) ?_ ?_ () 0 trivial (Nat.zero_le _)) (by rw [q05h];rfl)
 ·rintro _ i v-hv
  have hlt:=(List.getElem?_eq_some_iff.1 hv).1
  have w1:IntKind.i64.wrap ((i:Int)+1)=((i+1:Nat):Int):=w64 (by omega) (by omega)
  obtain ⟨a,ha,hl⟩:=hx.at_ i v hv
  have e1:subs [vI lo] 0 1=some [vI lo]:=rfl
  have e2:subs [vI hi] 0 1=some [vI hi]:=rfl
  by_cases c1:v<lo
  ·simp [stepB,wiE,wiB,hlt,ha,hl,hp,hq,e1,e2,c1]
  ·by_cases c2:hi<v
   ·simp [stepB,wiE,wiB,hlt,ha,hl,hp,hq,e1,e2,c1,c2]
   ·simp [stepB,wiE,hlt,ha,hl,hp,hq,e1,e2,c1,c2,w1]
 ·rintro _-
  simp [wiE,wiX]
theorem q058 (l:List Int) (hn:l.length≤1000000) (x:V) (H:Heap) (hx:Reads H x l) (p q:Nat) (lo hi:Int) (hp:Eng.boxAt H p=some [vI lo]) (hq:Eng.boxAt H q=some [vI hi]):
  clD EE (.p (.fn 473)) [x,.ptr p 0,.ptr q 0] H=some (vB (inR lo hi l),none):=by
 rw [q002 _ _ _ _ _ _ (noP _) fn473]
 have key:=q0no l hn x H hx p q lo hi hp hq
 have hl:=hx.len
 unfold inR
 cases b:l.any fun x=>decide (x<lo)||decide (hi<x) with
 |true=>
  rw [b,if_pos rfl] at key
  simp [wiE,wiB] at key
  simp [St.enter,q000,hl,key]
 |false=>
  rw [b,if_neg (by simp)] at key
  simp [wiE,wiX] at key
  simp [St.enter,q000,hl,key]
theorem q03r (l:List Int) (hn:l.length≤1000000) (x:V) (H:Heap) (hx:Reads H x l) (p q:Nat) (lo hi:Int) (hp:Eng.boxAt H p=some [vI lo]) (hq:Eng.boxAt H q=some [vI hi]):
  clD EE (.p (.fn 474)) [x,.ptr p 0,.ptr q 0] H=some (vB (inR lo hi l),none):=by
 rw [←q058 l hn x H hx p q lo hi hp hq,q002 _ _ _ _ _ _ (noP _) fn473,q002 _ _ _ _ _ _ (noP _) fn474]
 rfl
theorem q02j (a b:Int) (H:Heap):clD EE (.p (.fn 437)) [vI a,vI b] H=some (.fn (.func 473) [] [.ptr H.length 0,.ptr (H.length+1) 0],some (H++[.box [vI a],.box [vI b]],[])):=by
 rw [q002 _ _ _ _ _ _ (noP _) fn437]
 simp [St.enter,q000]
theorem q024 (a b:Int) (H:Heap):clD EE (.p (.fn 438)) [vI a,vI b] H=some (.fn (.func 474) [] [.ptr H.length 0,.ptr (H.length+1) 0],some (H++[.box [vI a],.box [vI b]],[])):=by
 rw [q002 _ _ _ _ _ _ (noP _) fn438]
 simp [St.enter,q000]
def geomF (g:Geom):Int:=
 if inR 1 8 [g.cols]=false then 6
 else if inR 1 1073741823 [g.wide,g.high]=false then 7
 else if inR 0 1073741823 [g.gap,g.noteMost,g.topMost,g.botMost]=false then 7
 else if inR 0 536870912 [g.rule,g.sep,g.grid]=false then 7
 else if inR 1 g.high [g.first]=false then 7
 else if inR 0 g.first [g.grid]=false then 7
 else if inR 0 4 [g.topMany,g.botMany]=false then 7
 else if inR 0 1048576 [g.club,g.widow,g.split,g.defer,g.spare]=false then 7
 else 0
theorem q0e7 (H:Heap) (id:Nat) (l:List Int) (hb:Eng.boxAt H id=some (l.map vI)):Reads H (.bvs id 0 l.length 1) l:=by
 refine ⟨rfl,fun i v h=> ?_⟩
 have hlt:=(List.getElem?_eq_some_iff.1 h).1
 refine ⟨.ptr id i,by simp [ixsI,ixsV,hlt],fun env loc base dirty=> ?_⟩
 have h2:(l.map vI)[i]? =some (vI v):=by simp [h]
 obtain ⟨h3,h4⟩:=List.getElem?_eq_some_iff.1 h2
 have h5:i+1≤(l.map vI).length:=h3
 simp only [q0w0,hb,Option.bind_some,subs,h5,if_true]
 rw [List.drop_eq_getElem_cons h3,h4];rfl
theorem q0h2 (id n s:Nat) (h:n≠0):slcaV s n (.ptr id 0) none=some (.bvs id 0 n s):=by simp [slcaV,h]
theorem q08z (g:Geom) (H:Heap):clD EE (.p (.fn 398)) [vGeom g] H=some (vI (geomF g),none):=by
 rw [q002 _ _ _ _ _ _ (noP _) fn398]
 have f1:=q058 [g.cols] (by simp) (sli [g.cols]) (H++[.box [vI 1],.box [vI 8]]) (q04o _ _) H.length (H.length+1) 1 8 (by simp) (by simp)
 have f2:=q03r [g.wide,g.high] (by simp) (sli [g.wide,g.high]) (H++[.box [vI 1],.box [vI 8],.box [vI 1],.box [vI 1073741823],.box [vI 0],.box [vI 1073741823],.box [vI 0],.box [vI 536870912],.box [vI g.gap,vI g.noteMost,vI g.topMost,vI g.botMost],.box [vI g.club,vI g.widow,vI g.split,vI g.defer,vI g.spare]]) (q04o _ _) (H.length+2) (H.length+3) 1 1073741823 (by simp) (by simp)
 have f3:=q03r [g.gap,g.noteMost,g.topMost,g.botMost] (by simp) (.bvs (H.length+8) 0 4 1) (H++[.box [vI 1],.box [vI 8],.box [vI 1],.box [vI 1073741823],.box [vI 0],.box [vI 1073741823],.box [vI 0],.box [vI 536870912],.box [vI g.gap,vI g.noteMost,vI g.topMost,vI g.botMost],.box [vI g.club,vI g.widow,vI g.split,vI g.defer,vI g.spare]]) (q0e7 _ _ [g.gap,g.noteMost,g.topMost,g.botMost] (by simp)) (H.length+4) (H.length+5) 0 1073741823 (by simp) (by simp)
 have f4:=q03r [g.rule,g.sep,g.grid] (by simp) (sli [g.rule,g.sep,g.grid]) (H++[.box [vI 1],.box [vI 8],.box [vI 1],.box [vI 1073741823],.box [vI 0],.box [vI 1073741823],.box [vI 0],.box [vI 536870912],.box [vI g.gap,vI g.noteMost,vI g.topMost,vI g.botMost],.box [vI g.club,vI g.widow,vI g.split,vI g.defer,vI g.spare]]) (q04o _ _) (H.length+6) (H.length+7) 0 536870912 (by simp) (by simp)
 have f5:=q03r [g.first] (by simp) (sli [g.first]) (H++[.box [vI 1],.box [vI 8],.box [vI 1],.box [vI 1073741823],.box [vI 0],.box [vI 1073741823],.box [vI 0],.box [vI 536870912],.box [vI g.gap,vI g.noteMost,vI g.topMost,vI g.botMost],.box [vI g.club,vI g.widow,vI g.split,vI g.defer,vI g.spare],.box [vI 1],.box [vI g.high]]) (q04o _ _) (H.length+10) (H.length+11) 1 g.high (by simp) (by simp)
 have f6:=q03r [g.grid] (by simp) (sli [g.grid]) (H++[.box [vI 1],.box [vI 8],.box [vI 1],.box [vI 1073741823],.box [vI 0],.box [vI 1073741823],.box [vI 0],.box [vI 536870912],.box [vI g.gap,vI g.noteMost,vI g.topMost,vI g.botMost],.box [vI g.club,vI g.widow,vI g.split,vI g.defer,vI g.spare],.box [vI 1],.box [vI g.high],.box [vI 0],.box [vI g.first]]) (q04o _ _) (H.length+12) (H.length+13) 0 g.first (by simp) (by simp)
 have f7:=q058 [g.topMany,g.botMany] (by simp) (sli [g.topMany,g.botMany]) (H++[.box [vI 1],.box [vI 8],.box [vI 1],.box [vI 1073741823],.box [vI 0],.box [vI 1073741823],.box [vI 0],.box [vI 536870912],.box [vI g.gap,vI g.noteMost,vI g.topMost,vI g.botMost],.box [vI g.club,vI g.widow,vI g.split,vI g.defer,vI g.spare],.box [vI 1],.box [vI g.high],.box [vI 0],.box [vI g.first],.box [vI 0],.box [vI 4]]) (q04o _ _) (H.length+14) (H.length+15) 0 4 (by simp) (by simp)
 have f8:=q058 [g.club,g.widow,g.split,g.defer,g.spare] (by simp) (.bvs (H.length+9) 0 5 1) (H++[.box [vI 1],.box [vI 8],.box [vI 1],.box [vI 1073741823],.box [vI 0],.box [vI 1073741823],.box [vI 0],.box [vI 536870912],.box [vI g.gap,vI g.noteMost,vI g.topMost,vI g.botMost],.box [vI g.club,vI g.widow,vI g.split,vI g.defer,vI g.spare],.box [vI 1],.box [vI g.high],.box [vI 0],.box [vI g.first],.box [vI 0],.box [vI 4],.box [vI 0],.box [vI 1048576]]) (q0e7 _ _ [g.club,g.widow,g.split,g.defer,g.spare] (by simp)) (H.length+16) (H.length+17) 0 1048576 (by simp) (by simp)
 have s1:=fun id=>q0h2 id 4 1 (by simp)
 have s2:=fun id=>q0h2 id 5 1 (by simp)
 simp only [sli,List.map_cons,List.map_nil,encI] at f1 f2 f3 f4 f5 f6 f7 f8
 unfold geomF
 cases e1:inR 1 8 [g.cols] with
 |false=>rw [e1] at f1;simp [St.enter,q000,subs,q001,q02j,q024,f1]
 |true=>
  rw [e1] at f1
  cases e2:inR 1 1073741823 [g.wide,g.high] with
  |false=>rw [e2] at f2;simp [St.enter,q000,subs,q001,q02j,q024,f1,f2]
  |true=>
   rw [e2] at f2
   cases e3:inR 0 1073741823 [g.gap,g.noteMost,g.topMost,g.botMost] with
   |false=>rw [e3] at f3;simp [St.enter,q000,subs,q001,q02j,q024,f1,f2,f3,s1,s2]
   |true=>
    rw [e3] at f3
    cases e4:inR 0 536870912 [g.rule,g.sep,g.grid] with
    |false=>rw [e4] at f4;simp [St.enter,q000,subs,q001,q02j,q024,f1,f2,f3,f4,s1,s2]
    |true=>
     rw [e4] at f4
     cases e5:inR 1 g.high [g.first] with
     |false=>rw [e5] at f5;simp [St.enter,q000,subs,q001,q02j,q024,f1,f2,f3,f4,f5,s1,s2]
     |true=>
      rw [e5] at f5
      cases e6:inR 0 g.first [g.grid] with
      |false=>rw [e6] at f6;simp [St.enter,q000,subs,q001,q02j,q024,f1,f2,f3,f4,f5,f6,s1,s2]
      |true=>
       rw [e6] at f6
       cases e7:inR 0 4 [g.topMany,g.botMany] with
       |false=>rw [e7] at f7;simp [St.enter,q000,subs,q001,q02j,q024,f1,f2,f3,f4,f5,f6,f7,s1,s2]
       |true=>
        rw [e7] at f7
        cases e8:inR 0 1048576 [g.club,g.widow,g.split,g.defer,g.spare] with
        |false=>rw [e8] at f8;simp [St.enter,q000,subs,q001,q02j,q024,f1,f2,f3,f4,f5,f6,f7,f8,s1,s2]
        |true=>rw [e8] at f8;simp [St.enter,q000,subs,q001,q02j,q024,f1,f2,f3,f4,f5,f6,f7,f8,s1,s2]
def out_ (lo hi:Int) (x:Int):Bool:=decide (x<lo)||decide (hi<x)
def gE (g:Geom) (a t:Nat) (l:List Int) (H:Heap) (i:Nat):St:=⟨[(1,.lptr 1 0),(a,.lptr a 0),(t,vI i)],[(1,cGeom g),(a,l.map vI)],H,H.length,[]⟩
def gX (g:Geom) (a t x e:Nat) (l:List Int) (H:Heap):Ex×St:=(.exit e,⟨[(1,.lptr 1 0),(a,.lptr a 0),(t,vI l.length),(x,vB false)],[(1,cGeom g),(a,l.map vI)],H,H.length,[]⟩)
def gB (H:Heap):Ex×St:=(.ret,⟨[(2,vI 7)],[],H,H.length,[]⟩)
theorem q0b1 {l:List Int} {i:Nat} {v:Int} (h:l[i]? =some v):subs (l.map vI) i 1=some [vI v]:=by
 have h2:(l.map vI)[i]? =some (vI v):=by simp [h]
 obtain ⟨h3,h4⟩:=List.getElem?_eq_some_iff.1 h2
 have h5:i+1≤(l.map vI).length:=h3
 simp only [subs,h5,if_true]
 rw [List.drop_eq_getElem_cons h3,h4];rfl
theorem q0d9 (i s n j:Nat) (k:IntKind) (h:i<n):ixaV (.lptr j 0) (.p (.int k (i:Int))) s n=some (.lptr j (i*s)):=by simp [ixaV,q00b,h]
theorem q0np (g:Geom) (l:List Int) (hl:l.length=3) (H:Heap):evD EE q0cw (gE g 3 4 l H 0)=some (if l.any (out_ 1 1073741823)=true then gB H else gX g 3 4 25 0 l H):=by
 unfold q0cw
 refine Eq.trans (q01g l (fun (_:Unit) i=>gE g 3 4 l H i) (fun _ _=>True) (stepB (out_ 1 1073741823) (gB H)) (fun _=>gX g 3 4 25 0 l H) (fun _ _=>rfl) ?_ ?_ () 0 trivial (Nat.zero_le _)) (by rw [q05h];rfl)
 ·rintro _ i v-hv
  have hlt:=(List.getElem?_eq_some_iff.1 hv).1
  have hne: ¬l=[]:=by rintro rfl;simp at hlt
  have h3:(i:Int)<3:=by omega
  have h3':i<3:=by omega
  have w1:IntKind.i64.wrap ((i:Int)+1)=((i+1:Nat):Int):=w64 (by omega) (by omega)
  have hs:=q0b1 hv
  have hi:=fun k=>q0d9 i 1 3 3 k h3'
  by_cases c1:v<1
  ·simp [stepB,out_,gE,gB,h3,hi,hs,hne,c1]
  ·by_cases c2:1073741823<v
   ·simp [stepB,out_,gE,gB,h3,hi,hs,hne,c1,c2]
   ·simp [stepB,out_,gE,h3,hi,hs,hne,c1,c2,w1]
 ·rintro _-
  simp [gE,gX,hl]
theorem q0nq (g:Geom) (l:List Int) (hl:l.length=7) (H:Heap):evD EE q0cx (gE g 5 6 l H 0)=some (if l.any (out_ 0 1073741823)=true then gB H else gX g 5 6 54 2 l H):=by
 unfold q0cx
 refine Eq.trans (q01g l (fun (_:Unit) i=>gE g 5 6 l H i) (fun _ _=>True) (stepB (out_ 0 1073741823) (gB H)) (fun _=>gX g 5 6 54 2 l H) (fun _ _=>rfl) ?_ ?_ () 0 trivial (Nat.zero_le _)) (by rw [q05h];rfl)
 ·rintro _ i v-hv
  have hlt:=(List.getElem?_eq_some_iff.1 hv).1
  have hne: ¬l=[]:=by rintro rfl;simp at hlt
  have h3:(i:Int)<7:=by omega
  have h3':i<7:=by omega
  have w1:IntKind.i64.wrap ((i:Int)+1)=((i+1:Nat):Int):=w64 (by omega) (by omega)
  have hs:=q0b1 hv
  have hi:=fun k=>q0d9 i 1 7 5 k h3'
  by_cases c1:v<0
  ·simp [stepB,out_,gE,gB,h3,hi,hs,hne,c1]
  ·by_cases c2:1073741823<v
   ·simp [stepB,out_,gE,gB,h3,hi,hs,hne,c1,c2]
   ·simp [stepB,out_,gE,h3,hi,hs,hne,c1,c2,w1]
 ·rintro _-
  simp [gE,gX,hl]
def out2 (i:Nat) (v:Int):Bool:=out_ 0 1048576 v||(decide ((i:Int)<2)&&decide (4<v))
theorem q0nr (g:Geom) (l:List Int) (hl:l.length=7) (H:Heap):evD EE q0cy (gE g 7 8 l H 0)=some (if anyI out2 0 l=true then gB H else gX g 7 8 83 4 l H):=by
 unfold q0cy
 refine Eq.trans (q01g l (fun (_:Unit) i=>gE g 7 8 l H i) (fun _ _=>True) (stepI out2 (gB H)) (fun _=>gX g 7 8 83 4 l H) (fun _ _=>rfl) ?_ ?_ () 0 trivial (Nat.zero_le _)) (by rw [q0h1];rfl)
 ·rintro _ i v-hv
  have hlt:=(List.getElem?_eq_some_iff.1 hv).1
  have hne: ¬l=[]:=by rintro rfl;simp at hlt
  have h3:(i:Int)<7:=by omega
  have h3':i<7:=by omega
  have w1:IntKind.i64.wrap ((i:Int)+1)=((i+1:Nat):Int):=w64 (by omega) (by omega)
  have hs:=q0b1 hv
  have hi:=fun k=>q0d9 i 1 7 7 k h3'
  by_cases c1:v<0
  ·simp [stepI,out2,out_,gE,gB,h3,hi,hs,hne,c1]
  ·by_cases c2:1048576<v
   ·simp [stepI,out2,out_,gE,gB,h3,hi,hs,hne,c1,c2]
   ·by_cases c3:(i:Int)<2
    ·by_cases c4:4<v
     ·simp [stepI,out2,out_,gE,gB,h3,hi,hs,hne,c1,c2,c3,c4]
     ·simp [stepI,out2,out_,gE,h3,hi,hs,hne,c1,c2,c3,c4,w1]
    ·simp [stepI,out2,out_,gE,h3,hi,hs,hne,c1,c2,c3,w1]
 ·rintro _-
  simp [gE,gX,hl]
def q0h3 (g:Geom):Int:=
 if out_ 1 8 g.cols=true then 6
 else if [g.wide,g.high,g.first].any (out_ 1 1073741823)=true then 7
 else if [g.gap,g.rule,g.sep,g.noteMost,g.topMost,g.botMost,g.grid].any (out_ 0 1073741823)=true then 7
 else if anyI out2 0 [g.topMany,g.botMany,g.club,g.widow,g.split,g.defer,g.spare]=true then 7
 else if g.high<g.first∨g.first<g.grid∨536870912<g.grid∨536870912<g.rule∨536870912<g.sep then 7
 else 0
theorem q0qu (g:Geom):q0h3 g=geomF g:=by
 unfold q0h3 geomF
 have e1:(inR 1 8 [g.cols]=false)↔out_ 1 8 g.cols=true:=by simp [inR,out_];omega
 simp only [e1]
 split
 ·rfl
 ·simp only [inR,out_,out2,anyI,List.any_cons,List.any_nil,Bool.or_false,Bool.not_eq_false',Bool.or_eq_true,Bool.and_eq_true,decide_eq_true_eq]
  repeat' split
  all_goals first|rfl|(exfalso;omega)
theorem q0f1 (g:Geom) (H:Heap):clD EE (.p (.fn 203)) [vGeom g] H=some (vI (geomF g),none):=by
 rw [q002 _ _ _ _ _ _ (noP _) fn203,←q0qu]
 have k0:=q0np g [g.wide,g.high,g.first] rfl H
 have k1:=q0nq g [g.gap,g.rule,g.sep,g.noteMost,g.topMost,g.botMost,g.grid] rfl H
 have k2:=q0nr g [g.topMany,g.botMany,g.club,g.widow,g.split,g.defer,g.spare] rfl H
 simp only [gE,gX,gB] at k0 k1 k2
 unfold q0h3
 by_cases c1:g.cols<1
 ·simp [St.enter,q000,subs,out_,c1]
 ·by_cases c2:8<g.cols
  ·simp [St.enter,q000,subs,out_,c1,c2]
  ·have e1:out_ 1 8 g.cols=false:=by simp [out_];omega
   rw [e1]
   cases b0:[g.wide,g.high,g.first].any (out_ 1 1073741823) with
   |true=>
    rw [b0,if_pos rfl] at k0
    simp at k0
    simp [St.enter,q000,subs,q001,c1,c2,k0]
   |false=>
    rw [b0,if_neg (by simp)] at k0
    cases b1:[g.gap,g.rule,g.sep,g.noteMost,g.topMost,g.botMost,g.grid].any (out_ 0 1073741823) with
    |true=>
     rw [b1,if_pos rfl] at k1
     simp at k0 k1
     simp [St.enter,q000,subs,q001,c1,c2,k0,k1]
    |false=>
     rw [b1,if_neg (by simp)] at k1
     cases b2:anyI out2 0 [g.topMany,g.botMany,g.club,g.widow,g.split,g.defer,g.spare] with
     |true=>
      rw [b2,if_pos rfl] at k2
      simp at k0 k1 k2
      simp [St.enter,q000,subs,q001,c1,c2,k0,k1,k2]
     |false=>
      rw [b2,if_neg (by simp)] at k2
      simp at k0 k1 k2
      by_cases d1:g.high<g.first
      ·simp [St.enter,q000,subs,q001,c1,c2,k0,k1,k2,d1]
      ·by_cases d2:g.first<g.grid
       ·simp [St.enter,q000,subs,q001,c1,c2,k0,k1,k2,d1,d2]
       ·by_cases d3:536870912<g.grid
        ·simp [St.enter,q000,subs,q001,c1,c2,k0,k1,k2,d1,d2,d3]
        ·by_cases d4:536870912<g.rule
         ·simp [St.enter,q000,subs,q001,c1,c2,k0,k1,k2,d1,d2,d3,d4]
         ·by_cases d5:536870912<g.sep
          ·simp [St.enter,q000,subs,q001,c1,c2,k0,k1,k2,d1,d2,d3,d4,d5]
          ·simp [St.enter,q000,subs,q001,c1,c2,k0,k1,k2,d1,d2,d3,d4,d5]
theorem q0h4 {n s:Int} (h0:0≤n) (h1:n≤1073741823) (hs:1≤s) (h2:s≤1073741823):0≤upG n s∧upG n s≤4294967296:=by
 have a:=Int.emod_nonneg n (show s≠0 by omega)
 have b:=Int.emod_lt_of_pos n (show 0<s by omega)
 unfold upG upF
 rw [if_neg (by omega)]
 split
 ·simp only [orN];omega
 ·unfold addF
  split<;>simp only [orN]<;>omega
theorem q0l3 {n s:Int} (h0:0≤n) (h1:n≤1073741823) (hs:1≤s) (h2:s≤1073741823):0≤downG n s∧downG n s≤4294967296:=by
 have a:=Int.emod_nonneg n (show s≠0 by omega)
 have b:=Int.emod_lt_of_pos n (show 0<s by omega)
 have c1:0≤s*(n/s):=Int.mul_nonneg (by omega) (Int.ediv_nonneg h0 (by omega))
 have c2:=Int.emod_add_mul_ediv n s
 unfold downG downF
 rw [if_neg (by omega)]
 unfold subF
 split<;>simp only [orN]<;>omega
theorem q090 {lo hi:Int} {l:List Int} (h: ¬inR lo hi l=false): ∀x∈l,lo≤x∧x≤hi:=by
 intro x hx
 have h1:inR lo hi l=true:=by simpa using h
 unfold inR at h1
 have h2:(l.any fun x=>decide (x<lo)||decide (hi<x))=false:=by simpa using h1
 have:=List.any_eq_false.1 h2 x hx
 simp at this
 omega
def figOf (c:Int):Nat→List Float→List Int
 |_,[]=>[]
 |i,f::r=>(if f.c=c then [(i:Int)] else [])++figOf c (i+1) r
structure C3 where
 a:Int
 b:Int
 c:Int
 deriving Inhabited,DecidableEq
abbrev vC (x:C3):V:= .agg [vI x.a,vI x.b,vI x.c]
def held (n lo hi:Int):Int:=min (max n lo) hi
def cmp1 (x y:Int):Int:=if x<y then-1 else if y<x then 1 else 0
def orL:List Int→Int
 |[]=>0
 |x::r=>if x=0 then orL r else x
def lexC:List Int→List Int→Int
 |x::xs,y::ys=>if cmp1 x y=0 then lexC xs ys else cmp1 x y
 |_,_=>0
end Go.EnvOf
