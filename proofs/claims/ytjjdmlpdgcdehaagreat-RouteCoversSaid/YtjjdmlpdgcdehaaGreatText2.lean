/- The program's functions and the document's, evaluated. -/
import Derived.Test.YtjjdmlpdgcdehaaGreatText1
import Derived.Test.YtjjdmlpdgcdehaaGreatTab
set_option linter.unusedSimpArgs false
set_option linter.unusedVariables false
namespace Go.EnvOf
open Go Go.Eng
abbrev I64 (n:Int):Prop:= -9223372036854775808<=n/\n<=9223372036854775807
structure Item where
 k:Int
 h:Int
 f:Int
 str:Int
 ord:Int
 shr:Int
 n:Int
 deriving Inhabited,DecidableEq
def q004 (x:Item):List PV:=[.int .i64 x.k,.int .i64 x.h,.int .i64 x.f,.int .i64 x.str,.int .i64 x.ord,.int .i64 x.shr,.int .i64 x.n]
@[simp] theorem q0G1 (x:Item):(q004 x).length=7:=rfl
abbrev q006 (l:List Item):V:= .p (.sl (l.map q004))
abbrev vItem (x:Item):V:= .agg [.p (.int .i64 x.k),.p (.int .i64 x.h),.p (.int .i64 x.f),.p (.int .i64 x.str),.p (.int .i64 x.ord),.p (.int .i64 x.shr),.p (.int .i64 x.n)]
structure Note where
 lines:List Int
 pens:List Int
 deriving Inhabited,DecidableEq
def q00e (n:Note):List PV:=[.sl (n.lines.map encI),.sl (n.pens.map encI)]
@[simp] theorem q0G2 (n:Note):(q00e n).length=2:=rfl
abbrev q00b (l:List Note):V:= .p (.sl (l.map q00e))
abbrev vNote (n:Note):V:= .agg [sli n.lines,sli n.pens]
structure Float where
 c:Int
 h:Int
 w:Int
 deriving Inhabited,DecidableEq
def q009 (f:Float):List PV:=[.int .i64 f.c,.int .i64 f.h,.int .i64 f.w]
@[simp] theorem q0Dv (f:Float):(q009 f).length=3:=rfl
abbrev q005 (l:List Float):V:= .p (.sl (l.map q009))
abbrev q03v (f:Float):V:= .agg [.p (.int .i64 f.c),.p (.int .i64 f.h),.p (.int .i64 f.w)]
structure Geom where
 cols:Int
 wide:Int
 gap:Int
 high:Int
 first:Int
 grid:Int
 rule:Int
 sep:Int
 noteMost:Int
 topMost:Int
 botMost:Int
 topMany:Int
 botMany:Int
 club:Int
 widow:Int
 split:Int
 defer:Int
 spare:Int
 balance:Bool
 deriving Inhabited,DecidableEq
abbrev cGeom (g:Geom):List V:=[.p (.int .i64 g.cols),.p (.int .i64 g.wide),.p (.int .i64 g.gap),.p (.int .i64 g.high),.p (.int .i64 g.first),.p (.int .i64 g.grid),.p (.int .i64 g.rule),.p (.int .i64 g.sep),.p (.int .i64 g.noteMost),.p (.int .i64 g.topMost),
 .p (.int .i64 g.botMost),.p (.int .i64 g.topMany),.p (.int .i64 g.botMany),.p (.int .i64 g.club),.p (.int .i64 g.widow),.p (.int .i64 g.split),.p (.int .i64 g.defer),.p (.int .i64 g.spare),.p (.bool g.balance)]
abbrev vGeom (g:Geom):V:= .agg (cGeom g)
structure Job where
 g:Geom
 items:List Item
 notes:List Note
 floats:List Float
 deriving Inhabited,DecidableEq
abbrev vJob (j:Job):V:= .agg (cGeom j.g++[q006 j.items,q00b j.notes,q005 j.floats])
def anchF (k:Int):Nat->Nat->List Item->Int
 |_,_,[]=> -1
 |i,n,x::r=>if x.k=k then (if x.n=n then anchF k (i+1) (n+1) r else i) else anchF k (i+1) n r
def anchE (l:List Item) (k:Int) (H:Heap) (n i:Nat):St:=
 ⟨[(0,q006 l),(1,.fn (.func 414) [] [.ptr H.length 0,.ptr (H.length+1) 0]),(7,.p (.int .i64 l.length)),(8,.p (.int .i64 i))],[],H++[.box [.p (.int .i64 k)],.box [.p (.int .i64 n)]],H.length+2,List.replicate n (H.length+1)⟩
def anchS (k:Int) (H:Heap) (n i:Nat) (x:Item):Nat⊕(Ex×St):=
 if x.k=k then (if x.n=n then .inl (n+1) else .inr (.ret,⟨[(4,.p (.int .i64 i))],[],H++[.box [.p (.int .i64 k)],.box [.p (.int .i64 ((n+1:Nat):Int))]],H.length+2,List.replicate (n+1) (H.length+1)⟩)) else .inl n
def anchX (l:List Item) (k:Int) (H:Heap) (n:Nat):Ex×St:=
 (.exit 0,⟨[(0,q006 l),(1,.fn (.func 414) [] [.ptr H.length 0,.ptr (H.length+1) 0]),(7,.p (.int .i64 l.length)),(8,.p (.int .i64 l.length)),(9,.p (.bool false))],[],H++[.box [.p (.int .i64 k)],.box [.p (.int .i64 n)]],H.length+2,List.replicate n (H.length+1)⟩)
theorem q0xl (x:Item) (k:Int) (H:Heap) (n:Nat) (hn:n<=1000000):clD EE (.p (.fn 414)) [vItem x,.ptr H.length 0,.ptr (H.length+1) 0] (H++[.box [.p (.int .i64 k)],.box [.p (.int .i64 n)]])=
  if x.k=k then some (.p (.bool (!decide (x.n=n))),some (H++[.box [.p (.int .i64 k)],.box [.p (.int .i64 ((n+1:Nat):Int))]],[H.length+1])) else some (.p (.bool false),none):=by
 rw [q002 _ _ _ _ _ _ (noP _) fn414]
 have w:IntKind.i64.wrap ((n:Int)+1)=((n+1:Nat):Int):=w64 (by omega) (by omega)
 have w2:IntKind.i64.wrap (n:Int)=(n:Int):=w64 (by omega) (by omega)
 by_cases hk:x.k=k
 ·simp [vItem,zEc,hk,w,w2]
 ·simp [vItem,zEb,hk]
theorem q0Bj (l:List Item) (k:Int) (H:Heap) (hl:l.length<=1000000): ∀(n i:Nat),n<=i->i<=l.length->
  evD EE q0c5 (anchE l k H n i)=some (rng (anchS k H) (anchX l k H) n i (l.drop i)):=by
 unfold q0c5
 refine q013 l (anchE l k H) (fun p i=>p<=i) (anchS k H) (anchX l k H) (fun _ _=>rfl) ?_ ?_
 ·intro n i x hp hx
  have hlt:=(Za.1 hx).1
  have hix:=fun H k=>q00c H q004 (k:=k) (s:=7) hx rfl
  have w:IntKind.i64.wrap ((i:Int)+1)=((i+1:Nat):Int):=w64 (by omega) (by omega)
  have hc:=q0xl x k H n (by omega)
  simp only [vItem] at hc
  by_cases hk:x.k=k
  ·by_cases hn:x.n=n
   ·simp [hk,hn] at hc
    simp [anchS,anchE,q006,hlt,hix,q004,subs,hk,hn,w,hc,Z9]
    omega
   ·simp [hk,hn] at hc
    simp [anchS,anchE,q006,hlt,hix,q004,subs,hk,hn,hc,Z9]
  ·simp [hk] at hc
   simp [anchS,anchE,q006,hlt,hix,q004,subs,hk,w,hc]
   omega
 ·intro n hn
  simp [anchE,anchX,q006]
theorem q0ds (l:List Item) (k:Int) (H:Heap): ∀(r:List Item) (n i:Nat),(∃n',rng (anchS k H) (anchX l k H) n i r=anchX l k H n'/\anchF k i n r= -1)\/
  ∃j m:Nat,rng (anchS k H) (anchX l k H) n i r=(.ret,⟨[(4,.p (.int .i64 j))],[],H++[.box [.p (.int .i64 k)],.box [.p (.int .i64 ((m+1:Nat):Int))]],H.length+2,List.replicate (m+1) (H.length+1)⟩)/\anchF k i n r=j
 |[],n,i=> .inl ⟨n,rfl,rfl⟩
 |x::r,n,i=>by
  by_cases hk:x.k=k
  ·by_cases hn:x.n=n
   ·have:=q0ds l k H r (n+1) (i+1)
    simpa [rng,anchS,anchF,hk,hn] using this
   ·exact .inr ⟨i,n,by simp [rng,anchS,hk,hn],by simp [anchF,hk,hn]⟩
  ·have:=q0ds l k H r n (i+1)
   simpa [rng,anchS,anchF,hk] using this
theorem q0if (B:Nat) (id:Nat) (h: ¬id<B): ∀n,(List.replicate n id).foldr (addD B) []=[]
 |0=>rfl
 |n+1=>by simp [Z9,q0if B id h n,h]
theorem q0xm (l:List Item) (k:Int) (H:Heap) (hl:l.length<=1000000): ∃n:Nat,clD EE (.p (.fn 361)) [q006 l,.fn (.func 414) [] [.ptr H.length 0,.ptr (H.length+1) 0]] (H++[.box [.p (.int .i64 k)],.box [.p (.int .i64 0)]])=
  some (.p (.int .i64 (anchF k 0 0 l)),if n=0 then none else some (H++[.box [.p (.int .i64 k)],.box [.p (.int .i64 n)]],List.replicate n (H.length+1))):=by
 rw [q002 _ _ _ _ _ _ (noP _) fn361]
 have key:=q0Bj l k H hl 0 0 (by simp) (by simp)
 rcases q0ds l k H l 0 0 with ⟨n',h1,h2⟩|⟨j,m,h1,h2⟩
 ·refine ⟨n',?_⟩
  simp [h1,anchE,anchX] at key
  by_cases hz:n'=0
  ·subst hz;simp at key;simp [zEa,key,h2]
  ·simp [zEa,key,h2,hz]
 ·refine ⟨m+1,?_⟩
  simp [h1,anchE] at key
  simp [zEa,key,h2,Z9]
theorem q0Bk (l:List Item) (k:Int) (H:Heap) (hl:l.length<=1000000):clD EE (.p (.fn 410)) [q006 l,.p (.int .i64 k)] H=some (.p (.int .i64 (anchF k 0 0 l)),none):=by
 rw [q002 _ _ _ _ _ _ (noP _) fn410]
 obtain ⟨n,hn⟩:=q0xm l k H hl
 simp only [q006] at hn
 by_cases hz:n=0
 ·simp [hz] at hn
  simp [zEa,q006,q001,hn]
 ·simp [hz] at hn
  simp [zEa,q006,q001,hn,q0if]
def figOf (c:Int):Nat->List Float->List Int
 |_,[]=>[]
 |i,f::r=>(if f.c=c then [(i:Int)] else [])++figOf c (i+1) r
def figS (c:Int) (out:List Int) (i:Nat) (x:Float):List Int:=if x.c=c then out++[(i:Int)] else out
theorem q0b6 (c:Int): ∀(l:List Float) (out:List Int) (i:Nat),fold (figS c) out i l=out++figOf c i l
 |[],out,i=>by simp [fold,figOf]
 |x::r,out,i=>by
  simp only [fold,figOf,q0b6 c r]
  unfold figS
  split<;>simp
def figE (l:List Float) (c:Int) (H:Heap) (out:List Int) (i:Nat):St:=
 ⟨[(1,.p (.int .i64 c)),(5,.row H.length out.length 0 out.length),(8,q005 l),(9,.p (.int .i64 l.length)),(10,.p (.int .i64 i))],[],H++[.row 1 (upV (out.map encI))],H.length,[]⟩
def figX (l:List Float) (c:Int) (H:Heap) (out:List Int):Ex×St:=
 (.exit 0,⟨[(1,.p (.int .i64 c)),(5,.row H.length out.length 0 out.length),(8,q005 l),(9,.p (.int .i64 l.length)),(10,.p (.int .i64 l.length)),(11,.p (.bool false))],[],H++[.row 1 (upV (out.map encI))],H.length,[]⟩)
theorem q0xn (l:List Float) (c:Int) (H:Heap) (hl:l.length<=1000000): ∀(out:List Int) (i:Nat),out.length<=i->i<=l.length->
  evD EE q0Xb (figE l c H out i)=some (figX l c H (fold (figS c) out i (l.drop i))):=by
 unfold q0Xb
 refine q00u l (figE l c H) (fun out i=>out.length<=i) (figS c) (figX l c H) (fun _ _=>rfl) ?_ ?_
 ·intro out i x hi hx
  have hlt:=(Za.1 hx).1
  have hix:=fun H k=>q00c H q009 (k:=k) (s:=3) hx rfl
  have w:IntKind.i64.wrap ((i:Int)+1)=((i+1:Nat):Int):=w64 (by omega) (by omega)
  have hm:out.length+1<most:=by simp [most];omega
  by_cases hc:x.c=c
  ·refine ⟨?_,by simp [figS,hc];omega⟩
   simp [figE,q005,hlt,hix,q009,subs,q001,hc,w,hm,encI,figS]
  ·refine ⟨?_,by simp [figS,hc];omega⟩
   simp [figE,q005,hlt,hix,q009,subs,q001,hc,w,figS]
 ·intro out hi
  refine ⟨?_,by simp [figX]⟩
  simp [figE,figX,q005]
theorem q0xo (l:List Float) (c:Int) (H:Heap) (hl:l.length<=1000000):clD EE (.p (.fn 375)) [q005 l,.p (.int .i64 c)] H=some (sli (figOf c 0 l),none):=by
 rw [q002 _ _ _ _ _ _ (noP _) fn375]
 have key:=q0xn l c H hl [] 0 (by simp) (by simp)
 rw [q0b6] at key
 simp [figE,figX,q005] at key
 simp [zEa,q005,key,sli]
end Go.EnvOf
namespace Go.Eng
open Go
def idxF {α:Type} (p:α->Bool):Nat->List α->Int
 |_,[]=> -1
 |i,x::r=>if p x=true then i else idxF p (i+1) r
theorem q09j {α:Type} (p:α->Bool): ∀(i:Nat) (l:List α),decide (0<=idxF p i l)=l.any p
 |_,[]=>rfl
 |i,x::r=>by
  simp only [idxF,List.any_cons]
  by_cases h:p x=true
  ·simp [h]
  ·simp [h,q09j p (i+1) r]
theorem q0ig {α ρ:Type} (p:α->Bool) (hit:Nat->α->ρ) (fin:ρ): ∀(l:List α) (i:Nat),
  rng (fun (_:Unit) i x=>if p x=true then .inr (hit i x) else .inl ()) (fun _=>fin) () i l=(match l.findIdx? p with|some k=>(match l[k]? with|some x=>hit (i+k) x|none=>fin)|none=>fin)
 |[],_=>rfl
 |x::r,i=>by
  simp only [rng,List.findIdx?_cons]
  cases h:p x with
  |true=>simp
  |false=>
   simp only [Zh,if_false]
   rw [q0ig p hit fin r (i+1)]
   cases r.findIdx? p with
   |none=>rfl
   |some k=>simp only [ZH,List.getElem?_cons_succ];rw [show i+1+k=i+(k+1) by omega]
theorem q0ih {α:Type} (p:α->Bool): ∀(l:List α) (i:Nat),idxF p i l=(match l.findIdx? p with|some k=>((i+k:Nat):Int)|none=> -1)
 |[],_=>rfl
 |x::r,i=>by
  simp only [idxF,List.findIdx?_cons]
  cases h:p x with
  |true=>simp
  |false=>
   simp only [Zh,if_false]
   rw [q0ih p r (i+1)]
   cases r.findIdx? p with
   |none=>rfl
   |some k=>simp only [ZH];congr 1;omega
theorem q0d2 {α:Type} {p:α->Bool}: ∀ {l:List α} {k:Nat},l.findIdx? p=some k-> ∃x,l[k]? =some x
 |[],k,h=>by simp at h
 |x::r,k,h=>by
  rw [List.findIdx?_cons] at h
  cases hp:p x with
  |true=>rw [hp] at h;simp at h;subst h;exact ⟨x,rfl⟩
  |false=>
   rw [hp] at h
   simp only [Zh,if_false] at h
   cases hk:r.findIdx? p with
   |none=>rw [hk] at h;simp at h
   |some m=>
    rw [hk] at h;simp at h;subst h
    obtain ⟨y,hy⟩:=q0d2 hk
    exact ⟨y,by simpa using hy⟩
def stepB {α ρ:Type} (p:α->Bool) (bad:ρ) (_:Unit) (_:Nat) (x:α):Unit⊕ρ:=if p x=true then .inr bad else .inl ()
theorem q043 {α ρ:Type} (p:α->Bool) (bad fin:ρ): ∀(l:List α) (i:Nat),rng (stepB p bad) (fun _=>fin) () i l=if l.any p=true then bad else fin
 |[],_=>rfl
 |x::r,i=>by
  simp only [rng,List.any_cons,stepB]
  by_cases h:p x=true
  ·simp [h]
  ·have ih:=q043 p bad fin r (i+1)
   simp only [h,Zh,if_false,Bool.false_or]
   exact ih
def stepI {α ρ:Type} (p:Nat->α->Bool) (bad:ρ) (_:Unit) (i:Nat) (x:α):Unit⊕ρ:=if p i x=true then .inr bad else .inl ()
def anyI {α:Type} (p:Nat->α->Bool):Nat->List α->Bool
 |_,[]=>false
 |i,x::r=>p i x||anyI p (i+1) r
theorem q0ly {α ρ:Type} (p:Nat->α->Bool) (bad fin:ρ): ∀(l:List α) (i:Nat),rng (stepI p bad) (fun _=>fin) () i l=if anyI p i l=true then bad else fin
 |[],_=>rfl
 |x::r,i=>by
  simp only [rng,anyI,stepI]
  by_cases h:p i x=true
  ·simp [h]
  ·have ih:=q0ly p bad fin r (i+1)
   simp only [h,Zh,if_false,Bool.false_or]
   exact ih
def stepH {α ρ:Type} (p:α->Bool) (hit:Int->ρ) (_:Unit) (i:Nat) (x:α):Unit⊕ρ:=if p x=true then .inr (hit i) else .inl ()
theorem q08o {α ρ:Type} (p:α->Bool) (hit:Int->ρ) (fin:ρ): ∀(l:List α) (i:Nat),rng (stepH p hit) (fun _=>fin) () i l=if 0<=idxF p i l then hit (idxF p i l) else fin
 |[],_=>rfl
 |x::r,i=>by
  simp only [rng,stepH,idxF]
  by_cases h:p x=true
  ·simp [h]
  ·simp only [h,Zh,if_false]
   exact q08o p hit fin r (i+1)
def idxL (s:Nat) (agg:Bool):IC:=
 (.loop [0,1,7,8] [] (.seq (.reg false [⟨some 9,none,.bin .lss (.t 8) (.t 7)⟩] [0,1,7,8,9] [])
   (.seq (.cond (.t 9) .skip (.exit 0))
   (.seq (.block 1 (.seq (.reg false [⟨some 10,none,.mov (.t 8)⟩,⟨some 5,none,.mov (.t 10)⟩] [0,1,5,7,8] [])
    (.seq (.reg false [⟨some 11,none,.mov (.t 1)⟩,⟨some 12,none,.mov (.t 0)⟩,⟨some 13,none,.mov (.t 5)⟩,⟨some 14,none,.ixs (.t 12) (.t 13) s⟩,⟨some 15,none,.ld (.t 14) s agg⟩,⟨some 16,none,.callv (.t 11) [.t 15] false⟩] [0,1,5,7,8,16] [])
    (.cond (.t 16) (.seq (.reg false [⟨some 17,none,.mov (.t 5)⟩,⟨some 4,none,.mov (.t 17)⟩] [4] []) .ret) .skip))))
   (.reg false [⟨some 18,none,.bin .add (.t 8) (.c (.p (.int .i64 1)))⟩,⟨some 8,none,.mov (.t 18)⟩] [0,1,7,8] [])))))
def idxI (s:Nat) (agg:Bool):IFn:=⟨(.seq (.reg false [⟨some 4,none,.mov (.c (.p (.int .i64 0)))⟩] [0,1] [])
 (.seq (.seq (.reg false [⟨some 6,none,.mov (.t 0)⟩,⟨some 7,none,.len (.t 6)⟩,⟨some 8,none,.mov (.c (.p (.int .i64 0)))⟩] [0,1,7,8] []) (.block 0 (idxL s agg)))
 (.seq (.reg false [⟨some 4,none,.mov (.c (.p (.int .i64 (-1))))⟩] [4] []) .ret))),[.tmp 4],false⟩
section
variable {α:Type} {E:Env} (f:FuncId) (s:Nat) (agg:Bool) (enc:α->List PV) (val:α->V)
def idxE (l:List α) (hv:V) (H:Heap) (B:Nat) (i:Nat):St:=⟨[(0,.p (.sl (l.map enc))),(1,hv),(7,vI l.length),(8,vI i)],[],H,B,[]⟩
def idxX (l:List α) (hv:V) (H:Heap) (B:Nat):Ex×St:=(.exit 0,⟨[(0,.p (.sl (l.map enc))),(1,hv),(7,vI l.length),(8,vI l.length),(9,.p (.bool false))],[],H,B,[]⟩)
def idxR (H:Heap) (B:Nat) (i:Nat):Ex×St:=(.ret,⟨[(4,vI i)],[],H,B,[]⟩)
theorem q0Dw (hs: ∀x,(enc x).length=s) (hval: ∀x,aggOr agg ((enc x).map .p)=some (val x)) (hout: ∀x,(normA (val x)).outB=true) (hnorm: ∀x,normA (val x)=val x) (l:List α) (hn:l.length<=9223372036854775806) (hv:V) (p:α->Bool) (H:Heap) (B:Nat)
  (hH: ∀x∈l,clD E hv [val x] H=some (vB (p x),none)):
  evD E (idxL s agg) (idxE enc l hv H B 0)=some (rng (fun (_:Unit) i x=>if p x=true then .inr (idxR H B i) else .inl ()) (fun _=>idxX enc l hv H B) () 0 l):=by
 unfold idxL
 refine q013 l (fun (_:Unit) i=>idxE enc l hv H B i) (fun _ _=>True) (fun (_:Unit) i x=>if p x=true then .inr (idxR H B i) else .inl ()) (fun _=>idxX enc l hv H B) (fun _ _=>rfl) ?_ ?_ () 0 trivial (Zj _)
 ·rintro _ i x-hx
  have hlt:=(Za.1 hx).1
  have w:IntKind.i64.wrap ((i:Int)+1)=((i+1:Nat):Int):=w64 (by omega) (by omega)
  have hc:=hH x (Zp hx)
  have hix:=fun H k=>q00c H enc (k:=k) (s:=s) hx (hs x)
  have hsub:subs ((enc x).map V.p) 0 s=some ((enc x).map V.p):=by simp [subs,hs x,Zy]
  have ho:=hout x
  cases hp:p x with
  |true=>
   rw [hp] at hc
   simp [idxE,idxR,hlt,hix,hsub,hval,hnorm,hc]
   rw [hnorm] at ho
   simp [ho]
  |false=>
   rw [hp] at hc
   rw [hnorm] at ho
   simp [idxE,hlt,hix,hsub,hval,hnorm,ho,hc,w]
 ·rintro _-
  simp [idxE,idxX]
theorem q0b7 (hp:E.prims f=none) (hf:E.fns f=some (idxI s agg)) (hs: ∀x,(enc x).length=s) (hval: ∀x,aggOr agg ((enc x).map .p)=some (val x)) (hout: ∀x,(normA (val x)).outB=true) (hnorm: ∀x,normA (val x)=val x)
  (l:List α) (hn:l.length<=9223372036854775806) (hv:V) (p:α->Bool) (H:Heap) (hH: ∀x∈l,clD E hv [val x] H=some (vB (p x),none)):
  clD E (.p (.fn f)) [.p (.sl (l.map enc)),hv] H=some (vI (idxF p 0 l),none):=by
 rw [q002 E f _ _ _ _ hp hf]
 have key:=q0Dw s agg enc val hs hval hout hnorm l hn hv p H H.length hH
 rw [q0ig p (fun i _=>idxR H H.length i)] at key
 rw [q0ih]
 cases hk:l.findIdx? p with
 |none=>
  rw [hk] at key
  simp [idxE,idxX] at key
  simp [zEa,key]
 |some k=>
  obtain ⟨x,hx⟩:=q0d2 hk
  rw [hk] at key
  simp only [hx] at key
  simp [idxE,idxR] at key
  simp [zEa,key]
end
def conI (g:FuncId):IFn:=⟨(.seq (.reg false [⟨some 4,none,.mov (.c (.p (.bool false)))⟩] [0,1] [])
 (.seq (.reg false [⟨some 5,none,.mov (.t 0)⟩,⟨some 6,none,.mov (.t 1)⟩,⟨some 7,none,.call g [.t 5,.t 6] false⟩,⟨some 8,none,.bin .geq (.t 7) (.c (.p (.int .i64 0)))⟩,⟨some 4,none,.mov (.t 8)⟩] [4] []) .ret)),[.tmp 4],false⟩
theorem q0Dx {α:Type} {E:Env} (f g:FuncId) (hp:E.prims f=none) (hf:E.fns f=some (conI g)) (x hv:V) (p:α->Bool) (l:List α) (H:Heap) (hx:(normA x).outB=true) (hx2:normA x=x) (ho:(normA hv).outB=true) (ho2:normA hv=hv)
  (h:clD E (.p (.fn g)) [x,hv] H=some (vI (idxF p 0 l),none)):clD E (.p (.fn f)) [x,hv] H=some (vB (l.any p),none):=by
 rw [q002 E f _ _ _ _ hp hf,<-q09j p 0 l]
 rw [hx2] at hx
 rw [ho2] at ho
 simp [zEa,hx2,hx,ho2,ho,h]
def all2 {α β:Type} (p:α->β->Bool):List α->List β->Bool
 |x::r,y::s=>p x y&&all2 p r s
 |_,_=>true
theorem q06s {α:Type} [DecidableEq α]: ∀(a b:List α),a.length=b.length->all2 (fun x y=>decide (x=y)) a b=decide (a=b)
 |[],[],_=>rfl
 |x::r,y::s,h=>by
  have ih:=q06s r s (by simpa using h)
  simp only [all2,ih]
  by_cases hx:x=y<;>simp [hx]
def step2 {α β ρ:Type} (p:α->β->Bool) (b:List β) (bad:ρ) (_:Unit) (i:Nat) (x:α):Unit⊕ρ:=match b[i]? with|some y=>(if p x y=true then .inl () else .inr bad)|none=> .inr bad
theorem q04n {α β ρ:Type} {p:α->β->Bool} {b:List β} {bad:ρ} {u:Unit} {i:Nat} {x:α} {y:β} (h:b[i]? =some y):step2 p b bad u i x=if p x y=true then .inl () else .inr bad:=by unfold step2;rw [h]
theorem q05w {α β ρ:Type} (p:α->β->Bool) (b:List β) (bad fin:ρ): ∀(l:List α) (i:Nat),i+l.length<=b.length->
  rng (step2 p b bad) (fun _=>fin) () i l=if all2 p l (b.drop i)=true then fin else bad
 |[],i,_=>by simp [rng,all2]
 |x::r,i,h=>by
  simp only [Zg] at h
  have hi:i<b.length:=by omega
  rw [ZA hi]
  simp only [rng,all2,q04n (Zl hi)]
  by_cases hp:p x b[i]=true
  ·have ih:=q05w p b bad fin r (i+1) (by omega)
   simp only [hp,if_true,ZV]
   exact ih
  ·simp [hp]
def eqL (s:Nat) (sh:List Bool):IC:=(.loop [0,1,12,13] [] (.seq (.reg false [⟨some 14,none,.bin .lss (.t 13) (.t 12)⟩] [0,1,12,13,14] [])
   (.seq (.cond (.t 14) .skip (.exit 0))
   (.seq (.block 1 (.seq (.reg false [⟨some 15,none,.mov (.t 13)⟩,⟨some 5,none,.mov (.t 15)⟩] [0,1,5,12,13] [])
    (.seq (.reg true [⟨some 16,none,.mov (.t 0)⟩,⟨some 17,none,.mov (.t 5)⟩,⟨some 18,none,.ixs (.t 16) (.t 17) s⟩,⟨some 19,none,.ld (.t 18) s true⟩,⟨some 20,none,.mov (.t 1)⟩,⟨some 21,none,.mov (.t 5)⟩,
     ⟨some 22,none,.ixs (.t 20) (.t 21) s⟩,⟨some 23,none,.ld (.t 22) s true⟩,⟨some 24,none,.eqa true sh (.t 19) (.t 23)⟩] [0,1,12,13,24] [])
    (.cond (.t 24) (.seq (.reg false [⟨some 4,none,.mov (.c (.p (.bool false)))⟩] [4] []) .ret) .skip))))
   (.reg false [⟨some 25,none,.bin .add (.t 13) (.c (.p (.int .i64 1)))⟩,⟨some 13,none,.mov (.t 25)⟩] [0,1,12,13] [])))))
def eqI (s:Nat) (sh:List Bool):IFn:=⟨(.seq (.reg false [⟨some 4,none,.mov (.c (.p (.bool false)))⟩] [0,1] [])
 (.seq (.seq (.reg false [⟨some 6,none,.mov (.t 0)⟩,⟨some 7,none,.len (.t 6)⟩,⟨some 8,none,.mov (.t 1)⟩,⟨some 9,none,.len (.t 8)⟩,⟨some 10,none,.bin .neq (.t 7) (.t 9)⟩] [0,1,10] [])
 (.cond (.t 10) (.seq (.reg false [⟨some 4,none,.mov (.c (.p (.bool false)))⟩] [4] []) .ret) .skip))
 (.seq (.seq (.reg false [⟨some 11,none,.mov (.t 0)⟩,⟨some 12,none,.len (.t 11)⟩,⟨some 13,none,.mov (.c (.p (.int .i64 0)))⟩] [0,1,12,13] []) (.block 0 (eqL s sh)))
 (.seq (.reg false [⟨some 4,none,.mov (.c (.p (.bool true)))⟩] [4] []) .ret)))),[.tmp 4],false⟩
section
variable {α:Type} [DecidableEq α] {E:Env} (f:FuncId) (s:Nat) (sh:List Bool) (enc:α->List PV)
def eqE (a b:V) (n:Nat) (H:Heap) (B:Nat) (i:Nat):St:=⟨[(0,a),(1,b),(12,vI n),(13,vI i)],[],H,B,[]⟩
def eqX (a b:V) (n:Nat) (H:Heap) (B:Nat):Ex×St:=(.exit 0,⟨[(0,a),(1,b),(12,vI n),(13,vI n),(14,.p (.bool false))],[],H,B,[]⟩)
def eqBad (H:Heap) (B:Nat):Ex×St:=(.ret,⟨[(4,vB false)],[],H,B,[]⟩)
theorem eq_ev (hp:E.prims f=none) (hf:E.fns f=some (eqI s sh)) (hs: ∀x,(enc x).length=s) (hagg: ∀x,aggOr true ((enc x).map .p)=some (.agg ((enc x).map .p))) (heq: ∀x y,q00h sh ((enc x).map .p) ((enc y).map .p)=some (decide (x=y)))
  (a b:List α) (hn:a.length<=9223372036854775806) (H:Heap):clD E (.p (.fn f)) [.p (.sl (a.map enc)),.p (.sl (b.map enc))] H=some (vB (decide (a=b)),none):=by
 rw [q002 E f _ _ _ _ hp hf]
 by_cases hl:a.length=b.length
 ·have key:evD E (eqL s sh) (eqE (.p (.sl (a.map enc))) (.p (.sl (b.map enc))) a.length H H.length 0)=some (rng (step2 (fun x y=>decide (x=y)) b (eqBad H H.length)) (fun _=>eqX (.p (.sl (a.map enc))) (.p (.sl (b.map enc))) a.length H H.length) () 0 a):=by
   unfold eqL
   refine q013 a (fun (_:Unit) i=>eqE (.p (.sl (a.map enc))) (.p (.sl (b.map enc))) a.length H H.length i) (fun _ _=>True) _ (fun _=>eqX (.p (.sl (a.map enc))) (.p (.sl (b.map enc))) a.length H H.length) (fun _ _=>rfl) ?_ ?_ () 0 trivial (Zj _)
   ·rintro _ i x-hx
    have hlt:=(Za.1 hx).1
    have hy:b[i]? =some (b[i]'(by omega)):=Zl (by omega)
    generalize (b[i]'(by omega))=y at hy
    have w:IntKind.i64.wrap ((i:Int)+1)=((i+1:Nat):Int):=w64 (by omega) (by omega)
    have hix:=fun H k=>q00c H enc (k:=k) (s:=s) hx (hs x)
    have hiy:=fun H k=>q00c H enc (k:=k) (s:=s) hy (hs y)
    have hsub: ∀x,subs ((enc x).map V.p) 0 s=some ((enc x).map V.p):=fun x=>by simp [subs,hs x,Zy]
    rw [q04n hy]
    by_cases hxy:x=y
    ·simp [eqE,hlt,hix,hiy,hsub,hagg,heq,hxy,w]
    ·simp [eqE,eqBad,hlt,hix,hiy,hsub,hagg,heq,hxy]
   ·rintro _-
    simp [eqE,eqX]
  rw [q05w (fun x y=>decide (x=y)) b (eqBad H H.length) (eqX (.p (.sl (a.map enc))) (.p (.sl (b.map enc))) a.length H H.length) a 0 (by omega),ZG,q06s a b hl] at key
  have hl':(a.length:Int)=b.length:=by omega
  by_cases h:a=b
  ·rw [if_pos (by simpa using h)] at key
   subst h
   simp [eqE,eqX] at key
   simp [zEa,key]
  ·rw [if_neg (by simpa using h)] at key
   simp [eqE,eqBad,hl] at key
   simp [zEa,hl',key,h]
 ·have hl': ¬(a.length:Int)=b.length:=by omega
  have h:a≠b:=by rintro rfl;exact hl rfl
  simp [zEa,hl',h]
end
end Go.Eng
namespace Go.EnvOf
open Go Go.Eng
set_option maxRecDepth 100000
structure C3 where
 a:Int
 b:Int
 c:Int
 deriving Inhabited,DecidableEq
abbrev vC (x:C3):V:= .agg [vI x.a,vI x.b,vI x.c]
abbrev big:Int:=1073741824
def held (n lo hi:Int):Int:=min (max n lo) hi
theorem q0gz {n lo hi:Int} (h:lo<=hi):lo<=held n lo hi:=by unfold held;omega
theorem q0h0 {n lo hi:Int}:held n lo hi<=hi:=by unfold held;omega
theorem q0Bl (n lo hi:Int) (H:Heap):clD EE (.p (.fn 225)) [vI n,vI lo,vI hi] H=some (vI (held n lo hi),none):=by
 rw [q002 _ _ _ _ _ _ (noP _) fn225]
 simp [zEa,held]
theorem q0xp (n lo hi:Int) (h:lo<=hi) (H:Heap):clD EE (.p (.fn 159)) [vI n,vI lo,vI hi] H=some (vI (held n lo hi),none):=by
 rw [q002 _ _ _ _ _ _ (noP _) fn159]
 have e:max lo (min n hi)=held n lo hi:=by unfold held;omega
 simp [zEa,e]
def zipF (lo:Int) (f:Int->Int->Int) (x y:C3):C3:=
 ⟨held (f (held x.a lo big) (held y.a lo big)) lo big,held (f (held x.b lo big) (held y.b lo big)) lo big,held (f (held x.c lo big) (held y.c lo big)) lo big⟩
theorem q0Dy (x y:C3) (lo:Int) (k:Nat) (f:Int->Int->Int) (hl:lo<=big) (H:Heap)
  (h: ∀a b,lo<=a->a<=big->lo<=b->b<=big->clD EE (.p (.fn k)) [vI a,vI b] H=some (vI (f a b),none)):
  clD EE (.p (.fn 265)) [vC x,vC y,vI lo,.p (.fn k)] H=some (vC (zipF lo f x y),none):=by
 rw [q002 _ _ _ _ _ _ (noP _) fn265]
 have w1:IntKind.i64.wrap 1=1:=by decide
 have w2:IntKind.i64.wrap 2=2:=by decide
 have w3:IntKind.i64.wrap 3=3:=by decide
 have hh:=fun n=>q0Bl n lo big H
 have hf:=fun a b=>h (held a lo big) (held b lo big) (q0gz hl) q0h0 (q0gz hl) q0h0
 simp only [big] at hh hf
 simp [zEa,q0Xl,q003,ixaV,subs,q001,hh,hf,w1,w2,w3,zipF]
def addC (x y:C3):C3:=zipF (-big) (· + ·) x y
theorem q0Bm (x y:C3) (H:Heap):clD EE (.p (.fn 168)) [vC x,vC y] H=some (vC (addC x y),none):=by
 rw [q002 _ _ _ _ _ _ (noP _) fn168]
 have hf: ∀a b:Int,-big<=a->a<=big-> -big<=b->b<=big->clD EE (.p (.fn 266)) [vI a,vI b] H=some (vI (a+b),none):=by
  intro a b h1 h2 h3 h4
  rw [q002 _ _ _ _ _ _ (noP _) fn266]
  simp only [big] at h1 h2 h3 h4
  have w:IntKind.i64.wrap (a+b)=a+b:=w64 (by omega) (by omega)
  simp [zEa,w]
 have key:=q0Dy x y (-big) _ (· + ·) (by decide) H hf
 simp only [big] at key
 simp [zEc,key,addC]
def q129 (x y:C3):C3:=zipF 0 (fun a b=>b-a) x y
theorem q12s (x y:C3) (H:Heap):clD EE (.p (.fn 224)) [vC x,vC y] H=some (vC (q129 x y),none):=by
 rw [q002 _ _ _ _ _ _ (noP _) fn224]
 have hf: ∀a b:Int,0<=a->a<=big->0<=b->b<=big->clD EE (.p (.fn 298)) [vI a,vI b] H=some (vI (b-a),none):=by
  intro a b h1 h2 h3 h4
  rw [q002 _ _ _ _ _ _ (noP _) fn298]
  simp only [big] at h1 h2 h3 h4
  have w:IntKind.i64.wrap (b-a)=b-a:=w64 (by omega) (by omega)
  simp [zEa,w]
 have key:=q0Dy x y 0 _ (fun a b=>b-a) (by decide) H hf
 simp [zEc,key,q129]
def sumC (x:C3):Int:=held x.a (-big) big+held x.b (-big) big+held x.c (-big) big
theorem q13d (x:C3) (H:Heap):clD EE (.p (.fn 105)) [vC x] H=some (vI (sumC x),none):=by
 rw [q002 _ _ _ _ _ _ (noP _) fn105]
 have w1:IntKind.i64.wrap 1=1:=by decide
 have w2:IntKind.i64.wrap 2=2:=by decide
 have w3:IntKind.i64.wrap 3=3:=by decide
 have hh:=fun n=>q0Bl n (-big) big H
 have b:=fun n=>And.intro (q0gz (n:=n) (lo:= -big) (hi:=big) (by decide)) (q0h0 (n:=n) (lo:= -big) (hi:=big))
 have b1:=b x.a
 have b2:=b x.b
 have b3:=b x.c
 unfold sumC
 simp only [big] at hh b1 b2 b3⊢
 have w4:IntKind.i64.wrap (held x.a (-1073741824) 1073741824+held x.b (-1073741824) 1073741824)=held x.a (-1073741824) 1073741824+held x.b (-1073741824) 1073741824:=w64 (by omega) (by omega)
 have w5:IntKind.i64.wrap (held x.a (-1073741824) 1073741824+held x.b (-1073741824) 1073741824+held x.c (-1073741824) 1073741824)=held x.a (-1073741824) 1073741824+held x.b (-1073741824) 1073741824+held x.c (-1073741824) 1073741824:=w64 (by omega) (by omega)
 have w0:IntKind.i64.wrap (held x.a (-1073741824) 1073741824)=held x.a (-1073741824) 1073741824:=w64 (by omega) (by omega)
 simp [zEa,q10z,q003,ixvV,subs,q001,hh,w0,w1,w2,w3,w4,w5]
def inC (x y:C3):Bool:=decide (x.a<=y.a)&&decide (x.b<=y.b)&&decide (x.c<=y.c)
theorem in_ev (x y:C3) (H:Heap):clD EE (.p (.fn 197)) [vC x,vC y] H=some (.p (.bool (inC x y)),none):=by
 rw [q002 _ _ _ _ _ _ (noP _) fn197]
 have w1:IntKind.i64.wrap 1=1:=by decide
 have w2:IntKind.i64.wrap 2=2:=by decide
 have w3:IntKind.i64.wrap 3=3:=by decide
 by_cases h1:y.a<x.a
 ·simp [zEa,q0W4,q003,ixvV,ixaV,subs,q001,w1,w2,w3,inC,h1,show¬x.a<=y.a by omega]
 by_cases h2:y.b<x.b
 ·simp [zEa,q0W4,q003,ixvV,ixaV,subs,q001,w1,w2,w3,inC,h1,h2,show¬x.b<=y.b by omega]
 by_cases h3:y.c<x.c
 ·simp [zEa,q0W4,q003,ixvV,ixaV,subs,q001,w1,w2,w3,inC,h1,h2,h3,show¬x.c<=y.c by omega]
 simp [zEa,q0W4,q003,ixvV,ixaV,subs,q001,w1,w2,w3,inC,h1,h2,h3]
 omega
end Go.EnvOf
namespace Go.EnvOf
open Go Go.Eng
set_option maxRecDepth 100000
def upI (lo hi:Int):List Int:=(List.range (hi+1-lo).toNat).map (fun k:Nat=>lo+k)
def R3 (m:C3) (a b c:Int):List C3:=(upI c m.c).map fun c=>⟨a,b,c⟩
def R2 (m:C3) (a b:Int):List C3:=(upI b m.b).flatMap fun b=>R3 m a b 0
def R1 (m:C3) (a:Int):List C3:=(upI a m.a).flatMap fun a=>R2 m a 0
def encC (x:C3):List PV:=[.int .i64 x.a,.int .i64 x.b,.int .i64 x.c]
@[simp] theorem q0Qz (x:C3):(encC x).length=3:=rfl
abbrev hC (H:Heap) (o:List C3):Heap:=H++[.row 3 (upV (o.map encC))]
def rest (m s:C3):List C3:=R3 m s.a s.b s.c++R2 m s.a (s.b+1)++R1 m (s.a+1)
def place (m s:C3):Int:=if s.c<m.c then 2 else if s.b<m.b then 1 else if s.a<m.a then 0 else-1
def left (m s:C3):Int:=1600*(m.a-s.a)+40*(m.b-s.b)+(m.c-s.c)
theorem q0xq (x y:C3) (H:Heap):clD EE (.p (.fn 79)) [vC x,vC y] H=some (vC (addC x y),none):=by
 rw [q002 _ _ _ _ _ _ (noP _) fn79]
 have w1:IntKind.i64.wrap 1=1:=by decide
 have w2:IntKind.i64.wrap 2=2:=by decide
 have w3:IntKind.i64.wrap 3=3:=by decide
 have hh:=fun n=>q0xp n (-big) big (by decide) H
 have b:=fun n=>And.intro (q0gz (n:=n) (lo:= -big) (hi:=big) (by decide)) (q0h0 (n:=n) (lo:= -big) (hi:=big))
 have wp: ∀n m,IntKind.i64.wrap (held n (-big) big+held m (-big) big)=held n (-big) big+held m (-big) big:=by
  intro n m
  have b1:=b n
  have b2:=b m
  simp only [big] at b1 b2⊢
  exact w64 (by omega) (by omega)
 simp only [big] at hh wp
 simp [zEa,q0l4,q003,ixaV,subs,q001,hh,wp,w1,w2,w3,addC,zipF]
theorem q15n (x y:C3) (H:Heap):clD EE (.p (.fn 160)) [vC x,vC y] H=some (vC (q129 x y),none):=by
 rw [q002 _ _ _ _ _ _ (noP _) fn160]
 have w1:IntKind.i64.wrap 1=1:=by decide
 have w2:IntKind.i64.wrap 2=2:=by decide
 have w3:IntKind.i64.wrap 3=3:=by decide
 have hh:=fun n=>q0xp n 0 big (by decide) H
 have b:=fun n=>And.intro (q0gz (n:=n) (lo:=0) (hi:=big) (by decide)) (q0h0 (n:=n) (lo:=0) (hi:=big))
 have wp: ∀n m,IntKind.i64.wrap (held n 0 big-held m 0 big)=held n 0 big-held m 0 big:=by
  intro n m
  have b1:=b n
  have b2:=b m
  simp only [big] at b1 b2⊢
  exact w64 (by omega) (by omega)
 have he: ∀n m,held (held n 0 big-held m 0 big) 0 big=max 0 (held n 0 big-held m 0 big):=by
  intro n m
  have b1:=b n
  have b2:=b m
  generalize held n 0 big=p at*
  generalize held m 0 big=q at*
  unfold held
  omega
 unfold q129 zipF
 simp only [he]
 simp only [big] at hh wp⊢
 simp [zEa,q151,q003,ixaV,subs,q001,hh,wp,w1,w2,w3]
theorem q162 (x:C3) (H:Heap):clD EE (.p (.fn 73)) [vC x] H=some (vI (sumC x),none):=by
 rw [q002 _ _ _ _ _ _ (noP _) fn73]
 have hh:=fun n=>q0xp n (-big) big (by decide) H
 have b:=fun n=>And.intro (q0gz (n:=n) (lo:= -big) (hi:=big) (by decide)) (q0h0 (n:=n) (lo:= -big) (hi:=big))
 have b1:=b x.a
 have b2:=b x.b
 have b3:=b x.c
 unfold sumC
 simp only [big] at hh b1 b2 b3⊢
 have w4:IntKind.i64.wrap (held x.a (-1073741824) 1073741824+held x.b (-1073741824) 1073741824)=held x.a (-1073741824) 1073741824+held x.b (-1073741824) 1073741824:=w64 (by omega) (by omega)
 have w5:IntKind.i64.wrap (held x.a (-1073741824) 1073741824+held x.b (-1073741824) 1073741824+held x.c (-1073741824) 1073741824)=held x.a (-1073741824) 1073741824+held x.b (-1073741824) 1073741824+held x.c (-1073741824) 1073741824:=w64 (by omega) (by omega)
 simp [zEa,ixaV,subs,q001,hh,w4,w5]
theorem q0f7 (x y:C3) (H:Heap):clD EE (.p (.fn 150)) [vC x,vC y] H=some (.p (.bool (inC x y)),none):=by
 rw [q002 _ _ _ _ _ _ (noP _) fn150]
 by_cases h1:x.a<=y.a
 ·by_cases h2:x.b<=y.b
  ·simp [zEa,ixaV,subs,q001,inC,h1,h2]
  ·simp [zEa,ixaV,subs,q001,inC,h1,h2]
 ·simp [zEa,ixaV,subs,q001,inC,h1]
end Go.EnvOf
