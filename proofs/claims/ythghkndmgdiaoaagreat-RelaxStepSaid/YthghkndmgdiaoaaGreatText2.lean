/- The program's functions and the document's, evaluated. -/
import Derived.Test.YthghkndmgdiaoaaGreatText1
import Derived.Test.YthghkndmgdiaoaaGreatTab
set_option linter.unusedSimpArgs false
set_option linter.unusedVariables false
namespace Go.EnvOf
open Go Go.Eng
abbrev I64 (n:Int):Prop:= -9223372036854775808<=n/\n<=9223372036854775807
structure Item where
 k:Int
 h:Int
 f:Int
 str:Int
 ord:Int
 shr:Int
 n:Int
 deriving Inhabited,DecidableEq
def q004 (x:Item):List PV:=[.int .i64 x.k,.int .i64 x.h,.int .i64 x.f,.int .i64 x.str,.int .i64 x.ord,.int .i64 x.shr,.int .i64 x.n]
@[simp] theorem q0G1 (x:Item):(q004 x).length=7:=rfl
abbrev q006 (l:List Item):V:= .p (.sl (l.map q004))
abbrev vItem (x:Item):V:= .agg [.p (.int .i64 x.k),.p (.int .i64 x.h),.p (.int .i64 x.f),.p (.int .i64 x.str),.p (.int .i64 x.ord),.p (.int .i64 x.shr),.p (.int .i64 x.n)]
structure Note where
 lines:List Int
 pens:List Int
 deriving Inhabited,DecidableEq
def q00e (n:Note):List PV:=[.sl (n.lines.map encI),.sl (n.pens.map encI)]
@[simp] theorem q0G2 (n:Note):(q00e n).length=2:=rfl
abbrev q00b (l:List Note):V:= .p (.sl (l.map q00e))
abbrev vNote (n:Note):V:= .agg [sli n.lines,sli n.pens]
structure Float where
 c:Int
 h:Int
 w:Int
 deriving Inhabited,DecidableEq
def q009 (f:Float):List PV:=[.int .i64 f.c,.int .i64 f.h,.int .i64 f.w]
@[simp] theorem q0Dv (f:Float):(q009 f).length=3:=rfl
abbrev q005 (l:List Float):V:= .p (.sl (l.map q009))
abbrev q03v (f:Float):V:= .agg [.p (.int .i64 f.c),.p (.int .i64 f.h),.p (.int .i64 f.w)]
structure Geom where
 cols:Int
 wide:Int
 gap:Int
 high:Int
 first:Int
 grid:Int
 rule:Int
 sep:Int
 noteMost:Int
 topMost:Int
 botMost:Int
 topMany:Int
 botMany:Int
 club:Int
 widow:Int
 split:Int
 defer:Int
 spare:Int
 balance:Bool
 deriving Inhabited,DecidableEq
abbrev cGeom (g:Geom):List V:=[.p (.int .i64 g.cols),.p (.int .i64 g.wide),.p (.int .i64 g.gap),.p (.int .i64 g.high),.p (.int .i64 g.first),.p (.int .i64 g.grid),.p (.int .i64 g.rule),.p (.int .i64 g.sep),.p (.int .i64 g.noteMost),.p (.int .i64 g.topMost),
 .p (.int .i64 g.botMost),.p (.int .i64 g.topMany),.p (.int .i64 g.botMany),.p (.int .i64 g.club),.p (.int .i64 g.widow),.p (.int .i64 g.split),.p (.int .i64 g.defer),.p (.int .i64 g.spare),.p (.bool g.balance)]
abbrev vGeom (g:Geom):V:= .agg (cGeom g)
structure Job where
 g:Geom
 items:List Item
 notes:List Note
 floats:List Float
 deriving Inhabited,DecidableEq
abbrev vJob (j:Job):V:= .agg (cGeom j.g++[q006 j.items,q00b j.notes,q005 j.floats])
def anchF (k:Int):Nat->Nat->List Item->Int
 |_,_,[]=> -1
 |i,n,x::r=>if x.k=k then (if x.n=n then anchF k (i+1) (n+1) r else i) else anchF k (i+1) n r
def anchE (l:List Item) (k:Int) (H:Heap) (n i:Nat):St:=
 ⟨[(0,q006 l),(1,.fn (.func 453) [] [.ptr H.length 0,.ptr (H.length+1) 0]),(7,.p (.int .i64 l.length)),(8,.p (.int .i64 i))],[],H++[.box [.p (.int .i64 k)],.box [.p (.int .i64 n)]],H.length+2,List.replicate n (H.length+1)⟩
def anchS (k:Int) (H:Heap) (n i:Nat) (x:Item):Nat⊕(Ex×St):=
 if x.k=k then (if x.n=n then .inl (n+1) else .inr (.ret,⟨[(4,.p (.int .i64 i))],[],H++[.box [.p (.int .i64 k)],.box [.p (.int .i64 ((n+1:Nat):Int))]],H.length+2,List.replicate (n+1) (H.length+1)⟩)) else .inl n
def anchX (l:List Item) (k:Int) (H:Heap) (n:Nat):Ex×St:=
 (.exit 0,⟨[(0,q006 l),(1,.fn (.func 453) [] [.ptr H.length 0,.ptr (H.length+1) 0]),(7,.p (.int .i64 l.length)),(8,.p (.int .i64 l.length)),(9,.p (.bool false))],[],H++[.box [.p (.int .i64 k)],.box [.p (.int .i64 n)]],H.length+2,List.replicate n (H.length+1)⟩)
theorem q0xl (x:Item) (k:Int) (H:Heap) (n:Nat) (hn:n<=1000000):clD EE (.p (.fn 453)) [vItem x,.ptr H.length 0,.ptr (H.length+1) 0] (H++[.box [.p (.int .i64 k)],.box [.p (.int .i64 n)]])=
  if x.k=k then some (.p (.bool (!decide (x.n=n))),some (H++[.box [.p (.int .i64 k)],.box [.p (.int .i64 ((n+1:Nat):Int))]],[H.length+1])) else some (.p (.bool false),none):=by
 rw [q002 _ _ _ _ _ _ (noP _) fn453]
 have w:IntKind.i64.wrap ((n:Int)+1)=((n+1:Nat):Int):=w64 (by omega) (by omega)
 have w2:IntKind.i64.wrap (n:Int)=(n:Int):=w64 (by omega) (by omega)
 by_cases hk:x.k=k
 ·simp [vItem,zEc,hk,w,w2]
 ·simp [vItem,zEb,hk]
theorem q0Bj (l:List Item) (k:Int) (H:Heap) (hl:l.length<=1000000): ∀(n i:Nat),n<=i->i<=l.length->
  evD EE q18v (anchE l k H n i)=some (rng (anchS k H) (anchX l k H) n i (l.drop i)):=by
 unfold q18v
 refine q013 l (anchE l k H) (fun p i=>p<=i) (anchS k H) (anchX l k H) (fun _ _=>rfl) ?_ ?_
 ·intro n i x hp hx
  have hlt:=(Za.1 hx).1
  have hix:=fun H k=>q00c H q004 (k:=k) (s:=7) hx rfl
  have w:IntKind.i64.wrap ((i:Int)+1)=((i+1:Nat):Int):=w64 (by omega) (by omega)
  have hc:=q0xl x k H n (by omega)
  simp only [vItem] at hc
  by_cases hk:x.k=k
  ·by_cases hn:x.n=n
   ·simp [hk,hn] at hc
    simp [anchS,anchE,q006,hlt,hix,q004,subs,hk,hn,w,hc,Z9]
    omega
   ·simp [hk,hn] at hc
    simp [anchS,anchE,q006,hlt,hix,q004,subs,hk,hn,hc,Z9]
  ·simp [hk] at hc
   simp [anchS,anchE,q006,hlt,hix,q004,subs,hk,w,hc]
   omega
 ·intro n hn
  simp [anchE,anchX,q006]
theorem q0ds (l:List Item) (k:Int) (H:Heap): ∀(r:List Item) (n i:Nat),(∃n',rng (anchS k H) (anchX l k H) n i r=anchX l k H n'/\anchF k i n r= -1)\/
  ∃j m:Nat,rng (anchS k H) (anchX l k H) n i r=(.ret,⟨[(4,.p (.int .i64 j))],[],H++[.box [.p (.int .i64 k)],.box [.p (.int .i64 ((m+1:Nat):Int))]],H.length+2,List.replicate (m+1) (H.length+1)⟩)/\anchF k i n r=j
 |[],n,i=> .inl ⟨n,rfl,rfl⟩
 |x::r,n,i=>by
  by_cases hk:x.k=k
  ·by_cases hn:x.n=n
   ·have:=q0ds l k H r (n+1) (i+1)
    simpa [rng,anchS,anchF,hk,hn] using this
   ·exact .inr ⟨i,n,by simp [rng,anchS,hk,hn],by simp [anchF,hk,hn]⟩
  ·have:=q0ds l k H r n (i+1)
   simpa [rng,anchS,anchF,hk] using this
theorem q0if (B:Nat) (id:Nat) (h: ¬id<B): ∀n,(List.replicate n id).foldr (addD B) []=[]
 |0=>rfl
 |n+1=>by simp [Z9,q0if B id h n,h]
theorem q0xm (l:List Item) (k:Int) (H:Heap) (hl:l.length<=1000000): ∃n:Nat,clD EE (.p (.fn 391)) [q006 l,.fn (.func 453) [] [.ptr H.length 0,.ptr (H.length+1) 0]] (H++[.box [.p (.int .i64 k)],.box [.p (.int .i64 0)]])=
  some (.p (.int .i64 (anchF k 0 0 l)),if n=0 then none else some (H++[.box [.p (.int .i64 k)],.box [.p (.int .i64 n)]],List.replicate n (H.length+1))):=by
 rw [q002 _ _ _ _ _ _ (noP _) fn391]
 have key:=q0Bj l k H hl 0 0 (by simp) (by simp)
 rcases q0ds l k H l 0 0 with ⟨n',h1,h2⟩|⟨j,m,h1,h2⟩
 ·refine ⟨n',?_⟩
  simp [h1,anchE,anchX] at key
  by_cases hz:n'=0
  ·subst hz;simp at key;simp [zEa,key,h2]
  ·simp [zEa,key,h2,hz]
 ·refine ⟨m+1,?_⟩
  simp [h1,anchE] at key
  simp [zEa,key,h2,Z9]
theorem q0Bk (l:List Item) (k:Int) (H:Heap) (hl:l.length<=1000000):clD EE (.p (.fn 437)) [q006 l,.p (.int .i64 k)] H=some (.p (.int .i64 (anchF k 0 0 l)),none):=by
 rw [q002 _ _ _ _ _ _ (noP _) fn437]
 obtain ⟨n,hn⟩:=q0xm l k H hl
 simp only [q006] at hn
 by_cases hz:n=0
 ·simp [hz] at hn
  simp [zEa,q006,q001,hn]
 ·simp [hz] at hn
  simp [zEa,q006,q001,hn,q0if]
def figOf (c:Int):Nat->List Float->List Int
 |_,[]=>[]
 |i,f::r=>(if f.c=c then [(i:Int)] else [])++figOf c (i+1) r
def figS (c:Int) (out:List Int) (i:Nat) (x:Float):List Int:=if x.c=c then out++[(i:Int)] else out
theorem q0b6 (c:Int): ∀(l:List Float) (out:List Int) (i:Nat),fold (figS c) out i l=out++figOf c i l
 |[],out,i=>by simp [fold,figOf]
 |x::r,out,i=>by
  simp only [fold,figOf,q0b6 c r]
  unfold figS
  split<;>simp
def figE (l:List Float) (c:Int) (H:Heap) (out:List Int) (i:Nat):St:=
 ⟨[(1,.p (.int .i64 c)),(5,.row H.length out.length 0 out.length),(8,q005 l),(9,.p (.int .i64 l.length)),(10,.p (.int .i64 i))],[],H++[.row 1 (upV (out.map encI))],H.length,[]⟩
def figX (l:List Float) (c:Int) (H:Heap) (out:List Int):Ex×St:=
 (.exit 0,⟨[(1,.p (.int .i64 c)),(5,.row H.length out.length 0 out.length),(8,q005 l),(9,.p (.int .i64 l.length)),(10,.p (.int .i64 l.length)),(11,.p (.bool false))],[],H++[.row 1 (upV (out.map encI))],H.length,[]⟩)
theorem q0xn (l:List Float) (c:Int) (H:Heap) (hl:l.length<=1000000): ∀(out:List Int) (i:Nat),out.length<=i->i<=l.length->
  evD EE q18u (figE l c H out i)=some (figX l c H (fold (figS c) out i (l.drop i))):=by
 unfold q18u
 refine q00u l (figE l c H) (fun out i=>out.length<=i) (figS c) (figX l c H) (fun _ _=>rfl) ?_ ?_
 ·intro out i x hi hx
  have hlt:=(Za.1 hx).1
  have hix:=fun H k=>q00c H q009 (k:=k) (s:=3) hx rfl
  have w:IntKind.i64.wrap ((i:Int)+1)=((i+1:Nat):Int):=w64 (by omega) (by omega)
  have hm:out.length+1<most:=by simp [most];omega
  by_cases hc:x.c=c
  ·refine ⟨?_,by simp [figS,hc];omega⟩
   simp [figE,q005,hlt,hix,q009,subs,q001,hc,w,hm,encI,figS]
  ·refine ⟨?_,by simp [figS,hc];omega⟩
   simp [figE,q005,hlt,hix,q009,subs,q001,hc,w,figS]
 ·intro out hi
  refine ⟨?_,by simp [figX]⟩
  simp [figE,figX,q005]
theorem q0xo (l:List Float) (c:Int) (H:Heap) (hl:l.length<=1000000):clD EE (.p (.fn 363)) [q005 l,.p (.int .i64 c)] H=some (sli (figOf c 0 l),none):=by
 rw [q002 _ _ _ _ _ _ (noP _) fn363]
 have key:=q0xn l c H hl [] 0 (by simp) (by simp)
 rw [q0b6] at key
 simp [figE,figX,q005] at key
 simp [zEa,q005,key,sli]
end Go.EnvOf
namespace Go.Eng
open Go
def idxF {α:Type} (p:α->Bool):Nat->List α->Int
 |_,[]=> -1
 |i,x::r=>if p x=true then i else idxF p (i+1) r
theorem q09j {α:Type} (p:α->Bool): ∀(i:Nat) (l:List α),decide (0<=idxF p i l)=l.any p
 |_,[]=>rfl
 |i,x::r=>by
  simp only [idxF,List.any_cons]
  by_cases h:p x=true
  ·simp [h]
  ·simp [h,q09j p (i+1) r]
theorem q0ig {α ρ:Type} (p:α->Bool) (hit:Nat->α->ρ) (fin:ρ): ∀(l:List α) (i:Nat),
  rng (fun (_:Unit) i x=>if p x=true then .inr (hit i x) else .inl ()) (fun _=>fin) () i l=(match l.findIdx? p with|some k=>(match l[k]? with|some x=>hit (i+k) x|none=>fin)|none=>fin)
 |[],_=>rfl
 |x::r,i=>by
  simp only [rng,List.findIdx?_cons]
  cases h:p x with
  |true=>simp
  |false=>
   simp only [Zh,if_false]
   rw [q0ig p hit fin r (i+1)]
   cases r.findIdx? p with
   |none=>rfl
   |some k=>simp only [ZH,List.getElem?_cons_succ];rw [show i+1+k=i+(k+1) by omega]
theorem q0ih {α:Type} (p:α->Bool): ∀(l:List α) (i:Nat),idxF p i l=(match l.findIdx? p with|some k=>((i+k:Nat):Int)|none=> -1)
 |[],_=>rfl
 |x::r,i=>by
  simp only [idxF,List.findIdx?_cons]
  cases h:p x with
  |true=>simp
  |false=>
   simp only [Zh,if_false]
   rw [q0ih p r (i+1)]
   cases r.findIdx? p with
   |none=>rfl
   |some k=>simp only [ZH];congr 1;omega
theorem q0d2 {α:Type} {p:α->Bool}: ∀ {l:List α} {k:Nat},l.findIdx? p=some k-> ∃x,l[k]? =some x
 |[],k,h=>by simp at h
 |x::r,k,h=>by
  rw [List.findIdx?_cons] at h
  cases hp:p x with
  |true=>rw [hp] at h;simp at h;subst h;exact ⟨x,rfl⟩
  |false=>
   rw [hp] at h
   simp only [Zh,if_false] at h
   cases hk:r.findIdx? p with
   |none=>rw [hk] at h;simp at h
   |some m=>
    rw [hk] at h;simp at h;subst h
    obtain ⟨y,hy⟩:=q0d2 hk
    exact ⟨y,by simpa using hy⟩
def stepB {α ρ:Type} (p:α->Bool) (bad:ρ) (_:Unit) (_:Nat) (x:α):Unit⊕ρ:=if p x=true then .inr bad else .inl ()
theorem q043 {α ρ:Type} (p:α->Bool) (bad fin:ρ): ∀(l:List α) (i:Nat),rng (stepB p bad) (fun _=>fin) () i l=if l.any p=true then bad else fin
 |[],_=>rfl
 |x::r,i=>by
  simp only [rng,List.any_cons,stepB]
  by_cases h:p x=true
  ·simp [h]
  ·have ih:=q043 p bad fin r (i+1)
   simp only [h,Zh,if_false,Bool.false_or]
   exact ih
def idxL (s:Nat) (agg:Bool):IC:=
 (.loop [0,1,7,8] [] (.seq (.reg false [⟨some 9,none,.bin .lss (.t 8) (.t 7)⟩] [0,1,7,8,9] [])
   (.seq (.cond (.t 9) .skip (.exit 0))
   (.seq (.block 1 (.seq (.reg false [⟨some 10,none,.mov (.t 8)⟩,⟨some 5,none,.mov (.t 10)⟩] [0,1,5,7,8] [])
    (.seq (.reg false [⟨some 11,none,.mov (.t 1)⟩,⟨some 12,none,.mov (.t 0)⟩,⟨some 13,none,.mov (.t 5)⟩,⟨some 14,none,.ixs (.t 12) (.t 13) s⟩,⟨some 15,none,.ld (.t 14) s agg⟩,⟨some 16,none,.callv (.t 11) [.t 15] false⟩] [0,1,5,7,8,16] [])
    (.cond (.t 16) (.seq (.reg false [⟨some 17,none,.mov (.t 5)⟩,⟨some 4,none,.mov (.t 17)⟩] [4] []) .ret) .skip))))
   (.reg false [⟨some 18,none,.bin .add (.t 8) (.c (.p (.int .i64 1)))⟩,⟨some 8,none,.mov (.t 18)⟩] [0,1,7,8] [])))))
def idxI (s:Nat) (agg:Bool):IFn:=⟨(.seq (.reg false [⟨some 4,none,.mov (.c (.p (.int .i64 0)))⟩] [0,1] [])
 (.seq (.seq (.reg false [⟨some 6,none,.mov (.t 0)⟩,⟨some 7,none,.len (.t 6)⟩,⟨some 8,none,.mov (.c (.p (.int .i64 0)))⟩] [0,1,7,8] []) (.block 0 (idxL s agg)))
 (.seq (.reg false [⟨some 4,none,.mov (.c (.p (.int .i64 (-1))))⟩] [4] []) .ret))),[.tmp 4],false⟩
section
variable {α:Type} {E:Env} (f:FuncId) (s:Nat) (agg:Bool) (enc:α->List PV) (val:α->V)
def idxE (l:List α) (hv:V) (H:Heap) (B:Nat) (i:Nat):St:=⟨[(0,.p (.sl (l.map enc))),(1,hv),(7,vI l.length),(8,vI i)],[],H,B,[]⟩
def idxX (l:List α) (hv:V) (H:Heap) (B:Nat):Ex×St:=(.exit 0,⟨[(0,.p (.sl (l.map enc))),(1,hv),(7,vI l.length),(8,vI l.length),(9,.p (.bool false))],[],H,B,[]⟩)
def idxR (H:Heap) (B:Nat) (i:Nat):Ex×St:=(.ret,⟨[(4,vI i)],[],H,B,[]⟩)
theorem q0Dw (hs: ∀x,(enc x).length=s) (hval: ∀x,aggOr agg ((enc x).map .p)=some (val x)) (hout: ∀x,(normA (val x)).outB=true) (hnorm: ∀x,normA (val x)=val x) (l:List α) (hn:l.length<=9223372036854775806) (hv:V) (p:α->Bool) (H:Heap) (B:Nat)
  (hH: ∀x∈l,clD E hv [val x] H=some (vB (p x),none)):
  evD E (idxL s agg) (idxE enc l hv H B 0)=some (rng (fun (_:Unit) i x=>if p x=true then .inr (idxR H B i) else .inl ()) (fun _=>idxX enc l hv H B) () 0 l):=by
 unfold idxL
 refine q013 l (fun (_:Unit) i=>idxE enc l hv H B i) (fun _ _=>True) (fun (_:Unit) i x=>if p x=true then .inr (idxR H B i) else .inl ()) (fun _=>idxX enc l hv H B) (fun _ _=>rfl) ?_ ?_ () 0 trivial (Zj _)
 ·rintro _ i x-hx
  have hlt:=(Za.1 hx).1
  have w:IntKind.i64.wrap ((i:Int)+1)=((i+1:Nat):Int):=w64 (by omega) (by omega)
  have hc:=hH x (Zp hx)
  have hix:=fun H k=>q00c H enc (k:=k) (s:=s) hx (hs x)
  have hsub:subs ((enc x).map V.p) 0 s=some ((enc x).map V.p):=by simp [subs,hs x,Zy]
  have ho:=hout x
  cases hp:p x with
  |true=>
   rw [hp] at hc
   simp [idxE,idxR,hlt,hix,hsub,hval,hnorm,hc]
   rw [hnorm] at ho
   simp [ho]
  |false=>
   rw [hp] at hc
   rw [hnorm] at ho
   simp [idxE,hlt,hix,hsub,hval,hnorm,ho,hc,w]
 ·rintro _-
  simp [idxE,idxX]
theorem q0b7 (hp:E.prims f=none) (hf:E.fns f=some (idxI s agg)) (hs: ∀x,(enc x).length=s) (hval: ∀x,aggOr agg ((enc x).map .p)=some (val x)) (hout: ∀x,(normA (val x)).outB=true) (hnorm: ∀x,normA (val x)=val x)
  (l:List α) (hn:l.length<=9223372036854775806) (hv:V) (p:α->Bool) (H:Heap) (hH: ∀x∈l,clD E hv [val x] H=some (vB (p x),none)):
  clD E (.p (.fn f)) [.p (.sl (l.map enc)),hv] H=some (vI (idxF p 0 l),none):=by
 rw [q002 E f _ _ _ _ hp hf]
 have key:=q0Dw s agg enc val hs hval hout hnorm l hn hv p H H.length hH
 rw [q0ig p (fun i _=>idxR H H.length i)] at key
 rw [q0ih]
 cases hk:l.findIdx? p with
 |none=>
  rw [hk] at key
  simp [idxE,idxX] at key
  simp [zEa,key]
 |some k=>
  obtain ⟨x,hx⟩:=q0d2 hk
  rw [hk] at key
  simp only [hx] at key
  simp [idxE,idxR] at key
  simp [zEa,key]
end
def conI (g:FuncId):IFn:=⟨(.seq (.reg false [⟨some 4,none,.mov (.c (.p (.bool false)))⟩] [0,1] [])
 (.seq (.reg false [⟨some 5,none,.mov (.t 0)⟩,⟨some 6,none,.mov (.t 1)⟩,⟨some 7,none,.call g [.t 5,.t 6] false⟩,⟨some 8,none,.bin .geq (.t 7) (.c (.p (.int .i64 0)))⟩,⟨some 4,none,.mov (.t 8)⟩] [4] []) .ret)),[.tmp 4],false⟩
theorem q0Dx {α:Type} {E:Env} (f g:FuncId) (hp:E.prims f=none) (hf:E.fns f=some (conI g)) (x hv:V) (p:α->Bool) (l:List α) (H:Heap) (hx:(normA x).outB=true) (hx2:normA x=x) (ho:(normA hv).outB=true) (ho2:normA hv=hv)
  (h:clD E (.p (.fn g)) [x,hv] H=some (vI (idxF p 0 l),none)):clD E (.p (.fn f)) [x,hv] H=some (vB (l.any p),none):=by
 rw [q002 E f _ _ _ _ hp hf,<-q09j p 0 l]
 rw [hx2] at hx
 rw [ho2] at ho
 simp [zEa,hx2,hx,ho2,ho,h]
def all2 {α β:Type} (p:α->β->Bool):List α->List β->Bool
 |x::r,y::s=>p x y&&all2 p r s
 |_,_=>true
theorem q06s {α:Type} [DecidableEq α]: ∀(a b:List α),a.length=b.length->all2 (fun x y=>decide (x=y)) a b=decide (a=b)
 |[],[],_=>rfl
 |x::r,y::s,h=>by
  have ih:=q06s r s (by simpa using h)
  simp only [all2,ih]
  by_cases hx:x=y<;>simp [hx]
def step2 {α β ρ:Type} (p:α->β->Bool) (b:List β) (bad:ρ) (_:Unit) (i:Nat) (x:α):Unit⊕ρ:=match b[i]? with|some y=>(if p x y=true then .inl () else .inr bad)|none=> .inr bad
theorem q04n {α β ρ:Type} {p:α->β->Bool} {b:List β} {bad:ρ} {u:Unit} {i:Nat} {x:α} {y:β} (h:b[i]? =some y):step2 p b bad u i x=if p x y=true then .inl () else .inr bad:=by unfold step2;rw [h]
theorem q05w {α β ρ:Type} (p:α->β->Bool) (b:List β) (bad fin:ρ): ∀(l:List α) (i:Nat),i+l.length<=b.length->
  rng (step2 p b bad) (fun _=>fin) () i l=if all2 p l (b.drop i)=true then fin else bad
 |[],i,_=>by simp [rng,all2]
 |x::r,i,h=>by
  simp only [Zg] at h
  have hi:i<b.length:=by omega
  rw [ZA hi]
  simp only [rng,all2,q04n (Zl hi)]
  by_cases hp:p x b[i]=true
  ·have ih:=q05w p b bad fin r (i+1) (by omega)
   simp only [hp,if_true,ZV]
   exact ih
  ·simp [hp]
def eqL (s:Nat) (sh:List Bool):IC:=(.loop [0,1,12,13] [] (.seq (.reg false [⟨some 14,none,.bin .lss (.t 13) (.t 12)⟩] [0,1,12,13,14] [])
   (.seq (.cond (.t 14) .skip (.exit 0))
   (.seq (.block 1 (.seq (.reg false [⟨some 15,none,.mov (.t 13)⟩,⟨some 5,none,.mov (.t 15)⟩] [0,1,5,12,13] [])
    (.seq (.reg true [⟨some 16,none,.mov (.t 0)⟩,⟨some 17,none,.mov (.t 5)⟩,⟨some 18,none,.ixs (.t 16) (.t 17) s⟩,⟨some 19,none,.ld (.t 18) s true⟩,⟨some 20,none,.mov (.t 1)⟩,⟨some 21,none,.mov (.t 5)⟩,
     ⟨some 22,none,.ixs (.t 20) (.t 21) s⟩,⟨some 23,none,.ld (.t 22) s true⟩,⟨some 24,none,.eqa true sh (.t 19) (.t 23)⟩] [0,1,12,13,24] [])
    (.cond (.t 24) (.seq (.reg false [⟨some 4,none,.mov (.c (.p (.bool false)))⟩] [4] []) .ret) .skip))))
   (.reg false [⟨some 25,none,.bin .add (.t 13) (.c (.p (.int .i64 1)))⟩,⟨some 13,none,.mov (.t 25)⟩] [0,1,12,13] [])))))
def eqI (s:Nat) (sh:List Bool):IFn:=⟨(.seq (.reg false [⟨some 4,none,.mov (.c (.p (.bool false)))⟩] [0,1] [])
 (.seq (.seq (.reg false [⟨some 6,none,.mov (.t 0)⟩,⟨some 7,none,.len (.t 6)⟩,⟨some 8,none,.mov (.t 1)⟩,⟨some 9,none,.len (.t 8)⟩,⟨some 10,none,.bin .neq (.t 7) (.t 9)⟩] [0,1,10] [])
 (.cond (.t 10) (.seq (.reg false [⟨some 4,none,.mov (.c (.p (.bool false)))⟩] [4] []) .ret) .skip))
 (.seq (.seq (.reg false [⟨some 11,none,.mov (.t 0)⟩,⟨some 12,none,.len (.t 11)⟩,⟨some 13,none,.mov (.c (.p (.int .i64 0)))⟩] [0,1,12,13] []) (.block 0 (eqL s sh)))
 (.seq (.reg false [⟨some 4,none,.mov (.c (.p (.bool true)))⟩] [4] []) .ret)))),[.tmp 4],false⟩
section
variable {α:Type} [DecidableEq α] {E:Env} (f:FuncId) (s:Nat) (sh:List Bool) (enc:α->List PV)
def eqE (a b:V) (n:Nat) (H:Heap) (B:Nat) (i:Nat):St:=⟨[(0,a),(1,b),(12,vI n),(13,vI i)],[],H,B,[]⟩
def eqX (a b:V) (n:Nat) (H:Heap) (B:Nat):Ex×St:=(.exit 0,⟨[(0,a),(1,b),(12,vI n),(13,vI n),(14,.p (.bool false))],[],H,B,[]⟩)
def eqBad (H:Heap) (B:Nat):Ex×St:=(.ret,⟨[(4,vB false)],[],H,B,[]⟩)
theorem eq_ev (hp:E.prims f=none) (hf:E.fns f=some (eqI s sh)) (hs: ∀x,(enc x).length=s) (hagg: ∀x,aggOr true ((enc x).map .p)=some (.agg ((enc x).map .p))) (heq: ∀x y,q00h sh ((enc x).map .p) ((enc y).map .p)=some (decide (x=y)))
  (a b:List α) (hn:a.length<=9223372036854775806) (H:Heap):clD E (.p (.fn f)) [.p (.sl (a.map enc)),.p (.sl (b.map enc))] H=some (vB (decide (a=b)),none):=by
 rw [q002 E f _ _ _ _ hp hf]
 by_cases hl:a.length=b.length
 ·have key:evD E (eqL s sh) (eqE (.p (.sl (a.map enc))) (.p (.sl (b.map enc))) a.length H H.length 0)=some (rng (step2 (fun x y=>decide (x=y)) b (eqBad H H.length)) (fun _=>eqX (.p (.sl (a.map enc))) (.p (.sl (b.map enc))) a.length H H.length) () 0 a):=by
   unfold eqL
   refine q013 a (fun (_:Unit) i=>eqE (.p (.sl (a.map enc))) (.p (.sl (b.map enc))) a.length H H.length i) (fun _ _=>True) _ (fun _=>eqX (.p (.sl (a.map enc))) (.p (.sl (b.map enc))) a.length H H.length) (fun _ _=>rfl) ?_ ?_ () 0 trivial (Zj _)
   ·rintro _ i x-hx
    have hlt:=(Za.1 hx).1
    have hy:b[i]? =some (b[i]'(by omega)):=Zl (by omega)
    generalize (b[i]'(by omega))=y at hy
    have w:IntKind.i64.wrap ((i:Int)+1)=((i+1:Nat):Int):=w64 (by omega) (by omega)
    have hix:=fun H k=>q00c H enc (k:=k) (s:=s) hx (hs x)
    have hiy:=fun H k=>q00c H enc (k:=k) (s:=s) hy (hs y)
    have hsub: ∀x,subs ((enc x).map V.p) 0 s=some ((enc x).map V.p):=fun x=>by simp [subs,hs x,Zy]
    rw [q04n hy]
    by_cases hxy:x=y
    ·simp [eqE,hlt,hix,hiy,hsub,hagg,heq,hxy,w]
    ·simp [eqE,eqBad,hlt,hix,hiy,hsub,hagg,heq,hxy]
   ·rintro _-
    simp [eqE,eqX]
  rw [q05w (fun x y=>decide (x=y)) b (eqBad H H.length) (eqX (.p (.sl (a.map enc))) (.p (.sl (b.map enc))) a.length H H.length) a 0 (by omega),ZG,q06s a b hl] at key
  have hl':(a.length:Int)=b.length:=by omega
  by_cases h:a=b
  ·rw [if_pos (by simpa using h)] at key
   subst h
   simp [eqE,eqX] at key
   simp [zEa,key]
  ·rw [if_neg (by simpa using h)] at key
   simp [eqE,eqBad,hl] at key
   simp [zEa,hl',key,h]
 ·have hl': ¬(a.length:Int)=b.length:=by omega
  have h:a≠b:=by rintro rfl;exact hl rfl
  simp [zEa,hl',h]
end
end Go.Eng
namespace Go.EnvOf
open Go Go.Eng
set_option maxRecDepth 100000
structure C3 where
 a:Int
 b:Int
 c:Int
 deriving Inhabited,DecidableEq
abbrev vC (x:C3):V:= .agg [vI x.a,vI x.b,vI x.c]
abbrev okC3 (x:C3):Prop:=I64 x.a/\I64 x.b/\I64 x.c
abbrev big:Int:=1073741824
def held (n lo hi:Int):Int:=min (max n lo) hi
theorem q0gz {n lo hi:Int} (h:lo<=hi):lo<=held n lo hi:=by unfold held;omega
theorem q0h0 {n lo hi:Int}:held n lo hi<=hi:=by unfold held;omega
theorem q0Bl (n lo hi:Int) (H:Heap):clD EE (.p (.fn 207)) [vI n,vI lo,vI hi] H=some (vI (held n lo hi),none):=by
 rw [q002 _ _ _ _ _ _ (noP _) fn207]
 simp [zEa,held]
def zipF (lo:Int) (f:Int->Int->Int) (x y:C3):C3:=
 ⟨held (f (held x.a lo big) (held y.a lo big)) lo big,held (f (held x.b lo big) (held y.b lo big)) lo big,held (f (held x.c lo big) (held y.c lo big)) lo big⟩
theorem q0Dy (x y:C3) (lo:Int) (k:Nat) (f:Int->Int->Int) (hl:lo<=big) (H:Heap)
  (h: ∀a b,lo<=a->a<=big->lo<=b->b<=big->clD EE (.p (.fn k)) [vI a,vI b] H=some (vI (f a b),none)):
  clD EE (.p (.fn 208)) [vC x,vC y,vI lo,.p (.fn k)] H=some (vC (zipF lo f x y),none):=by
 rw [q002 _ _ _ _ _ _ (noP _) fn208]
 have w1:IntKind.i64.wrap 1=1:=by decide
 have w2:IntKind.i64.wrap 2=2:=by decide
 have w3:IntKind.i64.wrap 3=3:=by decide
 have hh:=fun n=>q0Bl n lo big H
 have hf:=fun a b=>h (held a lo big) (held b lo big) (q0gz hl) q0h0 (q0gz hl) q0h0
 simp only [big] at hh hf
 simp [zEa,q11w,q003,ixaV,subs,q001,hh,hf,w1,w2,w3,zipF]
def addC (x y:C3):C3:=zipF (-big) (· + ·) x y
theorem q0Bm (x y:C3) (H:Heap):clD EE (.p (.fn 103)) [vC x,vC y] H=some (vC (addC x y),none):=by
 rw [q002 _ _ _ _ _ _ (noP _) fn103]
 have hf: ∀a b:Int,-big<=a->a<=big-> -big<=b->b<=big->clD EE (.p (.fn 209)) [vI a,vI b] H=some (vI (a+b),none):=by
  intro a b h1 h2 h3 h4
  rw [q002 _ _ _ _ _ _ (noP _) fn209]
  simp only [big] at h1 h2 h3 h4
  have w:IntKind.i64.wrap (a+b)=a+b:=w64 (by omega) (by omega)
  simp [zEa,w]
 have key:=q0Dy x y (-big) _ (· + ·) (by decide) H hf
 simp only [big] at key
 simp [zEc,key,addC]
def q129 (x y:C3):C3:=zipF 0 (fun a b=>b-a) x y
theorem q12s (x y:C3) (H:Heap):clD EE (.p (.fn 206)) [vC x,vC y] H=some (vC (q129 x y),none):=by
 rw [q002 _ _ _ _ _ _ (noP _) fn206]
 have hf: ∀a b:Int,0<=a->a<=big->0<=b->b<=big->clD EE (.p (.fn 316)) [vI a,vI b] H=some (vI (b-a),none):=by
  intro a b h1 h2 h3 h4
  rw [q002 _ _ _ _ _ _ (noP _) fn316]
  simp only [big] at h1 h2 h3 h4
  have w:IntKind.i64.wrap (b-a)=b-a:=w64 (by omega) (by omega)
  simp [zEa,w]
 have key:=q0Dy x y 0 _ (fun a b=>b-a) (by decide) H hf
 simp [zEc,key,q129]
def sumC (x:C3):Int:=held x.a (-big) big+held x.b (-big) big+held x.c (-big) big
theorem q13d (x:C3) (H:Heap):clD EE (.p (.fn 99)) [vC x] H=some (vI (sumC x),none):=by
 rw [q002 _ _ _ _ _ _ (noP _) fn99]
 have w1:IntKind.i64.wrap 1=1:=by decide
 have w2:IntKind.i64.wrap 2=2:=by decide
 have w3:IntKind.i64.wrap 3=3:=by decide
 have hh:=fun n=>q0Bl n (-big) big H
 have b:=fun n=>And.intro (q0gz (n:=n) (lo:= -big) (hi:=big) (by decide)) (q0h0 (n:=n) (lo:= -big) (hi:=big))
 have b1:=b x.a
 have b2:=b x.b
 have b3:=b x.c
 unfold sumC
 simp only [big] at hh b1 b2 b3⊢
 have w4:IntKind.i64.wrap (held x.a (-1073741824) 1073741824+held x.b (-1073741824) 1073741824)=held x.a (-1073741824) 1073741824+held x.b (-1073741824) 1073741824:=w64 (by omega) (by omega)
 have w5:IntKind.i64.wrap (held x.a (-1073741824) 1073741824+held x.b (-1073741824) 1073741824+held x.c (-1073741824) 1073741824)=held x.a (-1073741824) 1073741824+held x.b (-1073741824) 1073741824+held x.c (-1073741824) 1073741824:=w64 (by omega) (by omega)
 have w0:IntKind.i64.wrap (held x.a (-1073741824) 1073741824)=held x.a (-1073741824) 1073741824:=w64 (by omega) (by omega)
 simp [zEa,q11y,q003,ixvV,subs,q001,hh,w0,w1,w2,w3,w4,w5]
def inC (x y:C3):Bool:=decide (x.a<=y.a)&&decide (x.b<=y.b)&&decide (x.c<=y.c)
theorem in_ev (x y:C3) (H:Heap):clD EE (.p (.fn 78)) [vC x,vC y] H=some (.p (.bool (inC x y)),none):=by
 rw [q002 _ _ _ _ _ _ (noP _) fn78]
 have w1:IntKind.i64.wrap 1=1:=by decide
 have w2:IntKind.i64.wrap 2=2:=by decide
 have w3:IntKind.i64.wrap 3=3:=by decide
 by_cases h1:y.a<x.a
 ·simp [zEa,q0ey,q003,ixvV,ixaV,subs,q001,w1,w2,w3,inC,h1,show¬x.a<=y.a by omega]
 by_cases h2:y.b<x.b
 ·simp [zEa,q0ey,q003,ixvV,ixaV,subs,q001,w1,w2,w3,inC,h1,h2,show¬x.b<=y.b by omega]
 by_cases h3:y.c<x.c
 ·simp [zEa,q0ey,q003,ixvV,ixaV,subs,q001,w1,w2,w3,inC,h1,h2,h3,show¬x.c<=y.c by omega]
 simp [zEa,q0ey,q003,ixvV,ixaV,subs,q001,w1,w2,w3,inC,h1,h2,h3]
 omega
def growC (s:C3) (i:Nat):C3:=match i with|0=>⟨s.a+1,0,0⟩|1=>⟨s.a,s.b+1,0⟩|_=>⟨s.a,s.b,s.c+1⟩
theorem q18c (s:C3) (i:Nat) (hi:i<3) (ha:0<=s.a/\s.a<=32) (hb:0<=s.b/\s.b<=32) (hc:0<=s.c/\s.c<=32) (H:Heap):clD EE (.p (.fn 362)) [vC s,vI i] H=some (vC (growC s i),none):=by
 rw [q002 _ _ _ _ _ _ (noP _) fn362]
 have wa:IntKind.i64.wrap (s.a+1)=s.a+1:=w64 (by omega) (by omega)
 have wb:IntKind.i64.wrap (s.b+1)=s.b+1:=w64 (by omega) (by omega)
 have wc:IntKind.i64.wrap (s.c+1)=s.c+1:=w64 (by omega) (by omega)
 have w1:IntKind.i64.wrap 1=1:=by decide
 have w2:IntKind.i64.wrap 2=2:=by decide
 have w3:IntKind.i64.wrap 3=3:=by decide
 match i,hi with
 |0,_=>simp [zEc,ixaV,slcaV,clrI,growC,wa,w1]
 |1,_=>simp [zEc,ixaV,slcaV,clrI,growC,wb,w2]
 |2,_=>simp [zEc,ixaV,slcaV,clrI,growC,wc,w3]
def upI (lo hi:Int):List Int:=(List.range (hi+1-lo).toNat).map (fun k:Nat=>lo+k)
theorem q179 {lo hi:Int} (h:hi<lo):upI lo hi=[]:=by
 unfold upI
 have:(hi+1-lo).toNat=0:=by omega
 rw [this];rfl
theorem q170 {lo hi:Int} (h:lo<=hi):upI lo hi=lo::upI (lo+1) hi:=by
 unfold upI
 have:(hi+1-lo).toNat=(hi+1-(lo+1)).toNat+1:=by omega
 rw [this,List.range_succ_eq_map,Zo,List.map_map]
 congr 1
 ·omega
 ·apply List.map_congr_left
  intro k _
  simp only [Function.comp_apply]
  omega
theorem q190 (lo hi:Int):(upI lo hi).length=(hi+1-lo).toNat:=by simp [upI]
def R3 (m:C3) (a b c:Int):List C3:=(upI c m.c).map fun c=>⟨a,b,c⟩
def R2 (m:C3) (a b:Int):List C3:=(upI b m.b).flatMap fun b=>R3 m a b 0
def R1 (m:C3) (a:Int):List C3:=(upI a m.a).flatMap fun a=>R2 m a 0
def q16s (n:Int) (s:C3):Bool:=decide (s.a+s.b+s.c<=n)
def capC (x:C3):C3:=⟨min x.a 32,min x.b 32,min x.c 32⟩
def upL (x:C3) (n:Int):List C3:=(R1 (capC x) 0).filter (q16s n)
theorem q16u {α β:Type} (f:α->List β) (k:Nat) (h: ∀x,(f x).length<=k): ∀l:List α,(l.flatMap f).length<=k*l.length
 |[]=>by simp
 |x::r=>by
  have h1:=h x
  have h2:=q16u f k h r
  simp only [List.flatMap_cons,Zt,Zg,Nat.mul_add]
  omega
theorem q1bw {m:C3} (hm:m.c<=32) (a b:Int) {c:Int} (hc:0<=c):(R3 m a b c).length<=33:=by
 unfold R3;rw [Z0,q190];omega
theorem q1bx {m:C3} (hb:m.b<=32) (hm:m.c<=32) (a:Int) {b:Int} (h:0<=b):(R2 m a b).length<=1089:=by
 have h1:=q16u (fun b=>R3 m a b 0) 33 (fun b=>q1bw hm a b (ZS 0)) (upI b m.b)
 unfold R2
 rw [q190] at h1
 omega
theorem q1by {m:C3} (ha:m.a<=32) (hb:m.b<=32) (hm:m.c<=32) {a:Int} (h:0<=a):(R1 m a).length<=35937:=by
 have h1:=q16u (fun a=>R2 m a 0) 1089 (fun a=>q1bx hb hm a (ZS 0)) (upI a m.a)
 unfold R1
 rw [q190] at h1
 omega
def encC (x:C3):List PV:=[.int .i64 x.a,.int .i64 x.b,.int .i64 x.c]
@[simp] theorem q0Qz (x:C3):(encC x).length=3:=rfl
abbrev vCs (l:List C3):V:= .p (.sl (l.map encC))
abbrev hC (H:Heap) (o:List C3):Heap:=H++[.row 3 (upV (o.map encC))]
abbrev rC (H:Heap) (o:List C3):V:= .row H.length o.length 0 o.length
abbrev lC (x:C3):List V:=[vI x.a,vI x.b,vI x.c]
def rest (m s:C3):List C3:=R3 m s.a s.b s.c++R2 m s.a (s.b+1)++R1 m (s.a+1)
theorem q1bz {m s:C3} (h:s.c<m.c):rest m s=s::rest m ⟨s.a,s.b,s.c+1⟩:=by
 unfold rest
 have e:R3 m s.a s.b s.c=s::R3 m s.a s.b (s.c+1):=by unfold R3;rw [q170 (Int.le_of_lt h)];rfl
 simp only [e,Zd]
theorem q19p {m s:C3} (h:s.c=m.c):R3 m s.a s.b s.c=[s]:=by
 unfold R3;rw [q170 (by omega),q179 (by omega)];rfl
theorem q1c0 {m s:C3} (h:s.c=m.c) (g:s.b<m.b):rest m s=s::rest m ⟨s.a,s.b+1,0⟩:=by
 unfold rest
 have e2:R2 m s.a (s.b+1)=R3 m s.a (s.b+1) 0++R2 m s.a (s.b+1+1):=by unfold R2;rw [q170 (show s.b+1<=m.b by omega)];rfl
 simp only [q19p h,e2,Zd,Zf,Zx]
theorem q1c1 {m s:C3} (h:s.c=m.c) (g:s.b=m.b) (k:s.a<m.a) (hb:0<=m.b):rest m s=s::rest m ⟨s.a+1,0,0⟩:=by
 unfold rest
 have e2:R2 m s.a (s.b+1)=[]:=by unfold R2;rw [q179 (by omega)];rfl
 have e1:R1 m (s.a+1)=R2 m (s.a+1) 0++R1 m (s.a+1+1):=by unfold R1;rw [q170 (show s.a+1<=m.a by omega)];rfl
 have e3:R2 m (s.a+1) 0=R3 m (s.a+1) 0 0++R2 m (s.a+1) (0+1):=by unfold R2;rw [q170 hb];rfl
 simp only [q19p h,e2,e1,e3,Zd,Zf,Zx]
theorem q1b6 {m s:C3} (h:s.c=m.c) (g:s.b=m.b) (k:s.a=m.a):rest m s=[s]:=by
 unfold rest
 have e2:R2 m s.a (s.b+1)=[]:=by unfold R2;rw [q179 (by omega)];rfl
 have e1:R1 m (s.a+1)=[]:=by unfold R1;rw [q179 (by omega)];rfl
 simp only [q19p h,e2,e1,List.append_nil]
theorem q1ap {m:C3} (ha:0<=m.a) (hb:0<=m.b):rest m ⟨0,0,0⟩=R1 m 0:=by
 unfold rest
 have e1:R1 m 0=R2 m 0 0++R1 m (0+1):=by unfold R1;rw [q170 ha];rfl
 have e3:R2 m 0 0=R3 m 0 0 0++R2 m 0 (0+1):=by unfold R2;rw [q170 hb];rfl
 simp only [e1,e3]
theorem q1bo {m:C3} (h:m.a<0\/m.b<0\/m.c<0):R1 m 0=[]:=by
 unfold R1
 rcases h with h|h|h
 ·rw [q179 h];rfl
 ·apply List.flatMap_eq_nil_iff.2
  intro a _
  unfold R2
  rw [q179 h];rfl
 ·apply List.flatMap_eq_nil_iff.2
  intro a _
  unfold R2
  apply List.flatMap_eq_nil_iff.2
  intro b _
  unfold R3
  rw [q179 h];rfl
def u1E (m s:C3) (n:Int) (H:Heap) (o:List C3) (i:Int):St:=⟨[(1,vI n),(2,.lptr 2 0),(7,.p (.fn 78)),(8,.lptr 8 0),(9,rC H o),(10,vI i)],[(2,lC m),(8,lC s)],hC H o,H.length,[]⟩
def u1X (m s:C3) (n:Int) (H:Heap) (o:List C3) (i:Int):Ex×St:=(.exit 4,⟨[(1,vI n),(2,.lptr 2 0),(7,.p (.fn 78)),(8,.lptr 8 0),(9,rC H o),(10,vI i),(53,vB false)],[(2,lC m),(8,lC s)],hC H o,H.length,[]⟩)
structure upto (m s:C3):Prop where
 a:0<=s.a/\s.a<=m.a
 b:0<=s.b/\s.b<=m.b
 c:0<=s.c/\s.c<=m.c
structure m32 (m:C3):Prop where
 a:m.a<=32
 b:m.b<=32
 c:m.c<=32
def place (m s:C3):Int:=if s.c<m.c then 2 else if s.b<m.b then 1 else if s.a<m.a then 0 else-1
theorem u1_lp (m s:C3) (n:Int) (H:Heap) (o:List C3) (hs:upto m s) (hm:m32 m):evD EE q17h (u1E m s n H o 2)=some (u1X m s n H o (place m s)):=by
 obtain ⟨a1,a2⟩:=hs.a
 obtain ⟨b1,b2⟩:=hs.b
 obtain ⟨c1,c2⟩:=hs.c
 obtain ⟨ma,mb,mc⟩:=hm
 have g2:=fun H=>q18c s 2 (by decide) (by omega) (by omega) (by omega) H
 have g1:=fun H=>q18c s 1 (by decide) (by omega) (by omega) (by omega) H
 have g0:=fun H=>q18c s 0 (by decide) (by omega) (by omega) (by omega) H
 have i2:=fun H=>in_ev (growC s 2) m H
 have i1:=fun H=>in_ev (growC s 1) m H
 have i0:=fun H=>in_ev (growC s 0) m H
 have e2:inC (growC s 2) m=decide (s.c<m.c):=by simp [growC,inC,a2,b2];omega
 have e1:inC (growC s 1) m=decide (s.b<m.b):=by simp [growC,inC,a2,show 0<=m.c by omega];omega
 have e0:inC (growC s 0) m=decide (s.a<m.a):=by simp [growC,inC,show 0<=m.b by omega,show 0<=m.c by omega];omega
 rw [e2] at i2
 rw [e1] at i1
 rw [e0] at i0
 simp only [growC] at g2 g1 g0 i2 i1 i0
 have w1:IntKind.i64.wrap 1=1:=by decide
 have w0:IntKind.i64.wrap 0=0:=by decide
 have wm:IntKind.i64.wrap (-1)= -1:=by decide
 simp at g2 g1 g0
 unfold place
 by_cases h2:s.c<m.c
 ·rw [if_pos h2]
  simp [u1E,u1X,q17h,q003,subs,q001,g2,i2,h2]
 by_cases h1:s.b<m.b
 ·rw [if_neg h2,if_pos h1]
  simp [u1E,u1X,q17h,q003,subs,q001,g2,i2,h2,g1,i1,h1,w1]
 by_cases h0:s.a<m.a
 ·rw [if_neg h2,if_neg h1,if_pos h0]
  simp [u1E,u1X,q17h,q003,subs,q001,g2,i2,h2,g1,i1,h1,g0,i0,h0,w1,w0]
 ·rw [if_neg h2,if_neg h1,if_neg h0]
  simp [u1E,u1X,q17h,q003,subs,q001,g2,i2,h2,g1,i1,h1,g0,i0,h0,w1,w0,wm]
def u2E (m:C3) (n:Int) (H:Heap) (s:C3×List C3):St:=⟨[(1,vI n),(2,.lptr 2 0),(7,.p (.fn 78)),(8,.lptr 8 0),(9,rC H s.2)],[(2,lC m),(8,lC s.1)],hC H s.2,H.length,[]⟩
def u2X (H:Heap) (o:List C3):Ex×St:=(.ret,⟨[(4,rC H o)],[],hC H o,H.length,[]⟩)
def q19q:IC->IC| .loop _ _ c=>c|c=>c
def left (m s:C3):Int:=1600*(m.a-s.a)+40*(m.b-s.b)+(m.c-s.c)
theorem u2_lp (m:C3) (n:Int) (H:Heap) (h0:0<=m.a/\0<=m.b/\0<=m.c) (hm:m32 m):
  evD EE q178 (u2E m n H (⟨0,0,0⟩,[]))=some (u2X H ((R1 m 0).filter (q16s n))):=by
 have key: ∀s:C3×List C3,(upto m s.1/\s.2.length+(left m s.1).toNat<=60000)->evD EE q178 (u2E m n H s)=some (u2X H (s.2++(rest m s.1).filter (q16s n))):=by
  unfold q178
  refine q0ta (u2E m n H) (fun s=>upto m s.1/\s.2.length+(left m s.1).toNat<=60000) (fun s=>(left m s.1).toNat) (fun s=>u2X H (s.2++(rest m s.1).filter (q16s n))) (fun _=>rfl) ?_
  rintro ⟨s,o⟩ ⟨hs,ho⟩
  simp only at hs ho⊢
  obtain ⟨a1,a2⟩:=id hs.a
  obtain ⟨b1,b2⟩:=id hs.b
  obtain ⟨c1,c2⟩:=id hs.c
  obtain ⟨ma,mb,mc⟩:=id hm
  have hsum:=fun H=>q13d s H
  have es:sumC s=s.a+s.b+s.c:=by unfold sumC held big;omega
  rw [es] at hsum
  have u1:=fun o=>u1_lp m s n H o hs hm
  have hmo:o.length+1<most:=by unfold most;omega
  let o':=if s.a+s.b+s.c<=n then o++[s] else o
  have ho':o'.length<=o.length+1:=by simp only [o'];split<;>simp
  have hf: ∀r:List C3,o++(s::r).filter (q16s n)=o'++r.filter (q16s n):=by
   intro r
   simp only [o',List.filter_cons,q16s,decide_eq_true_eq]
   split<;>simp
  have step: ∀i:Nat,i<3->place m s=i->evD EE (q19q q178) (u2E m n H (s,o))=some (.normal,u2E m n H (growC s i,o')):=by
   intro i hi hp
   have g:=fun H=>q18c s i hi ⟨by omega,by omega⟩ ⟨by omega,by omega⟩ ⟨by omega,by omega⟩ H
   have hi0: ¬((i:Nat):Int)<0:=by omega
   rw [hp] at u1
   have v1:=u1 (o++[s])
   have v0:=u1 o
   simp [u1E,u1X,rC,hC,lC,encC] at v1 v0
   by_cases hn:s.a+s.b+s.c<=n
   ·simp [q19q,q178,u2E,rC,hC,lC,o',subs,q001,hsum,hn,hmo,encC,v1,g,hi0]
   ·simp [q19q,q178,u2E,rC,hC,lC,o',subs,q001,hsum,hn,v0,g,hi0]
  have hpl:place m s=2/\s.c<m.c\/place m s=1/\ ¬s.c<m.c/\s.b<m.b\/place m s=0/\ ¬s.c<m.c/\ ¬s.b<m.b/\s.a<m.a\/place m s= -1/\ ¬s.c<m.c/\ ¬s.b<m.b/\ ¬s.a<m.a:=by
   unfold place
   by_cases h2:s.c<m.c
   ·simp [h2]
   by_cases h1:s.b<m.b
   ·simp [h2,h1]
   by_cases h0:s.a<m.a<;>simp [h2,h1,h0]
  rcases hpl with ⟨hp,q2⟩|⟨hp,q2,q1⟩|⟨hp,q2,q1,q0⟩|⟨hp,q2,q1,q0⟩
  ·refine .inl ⟨(growC s 2,o'),step 2 (by decide) hp,⟨⟨?_,?_,?_⟩,?_⟩,?_,?_⟩
   all_goals simp only [growC,left] at*
   ·omega
   ·omega
   ·omega
   ·omega
   ·omega
   ·rw [q1bz q2,hf]
  ·refine .inl ⟨(growC s 1,o'),step 1 (by decide) hp,⟨⟨?_,?_,?_⟩,?_⟩,?_,?_⟩
   all_goals simp only [growC,left] at*
   ·omega
   ·omega
   ·omega
   ·omega
   ·omega
   ·rw [q1c0 (by omega) q1,hf]
  ·refine .inl ⟨(growC s 0,o'),step 0 (by decide) hp,⟨⟨?_,?_,?_⟩,?_⟩,?_,?_⟩
   all_goals simp only [growC,left] at*
   ·omega
   ·omega
   ·omega
   ·omega
   ·omega
   ·rw [q1c1 (by omega) (by omega) q0 (by omega),hf]
  ·rw [q1b6 (by omega) (by omega) (by omega),hf]
   refine .inr ⟨?_,by simp [u2X]⟩
   rw [hp] at u1
   have v1:=u1 (o++[s])
   have v0:=u1 o
   simp [u1E,u1X,rC,hC,lC,encC] at v1 v0
   by_cases hn:s.a+s.b+s.c<=n
   ·simp [u2E,u2X,rC,hC,lC,o',subs,q001,hsum,hn,hmo,encC,v1]
   ·simp [u2E,u2X,rC,hC,lC,o',subs,q001,hsum,hn,v0]
 obtain ⟨ma,mb,mc⟩:=hm
 have:=key (⟨0,0,0⟩,[]) ⟨⟨by simp;omega,by simp;omega,by simp;omega⟩,by simp [left];omega⟩
 rw [q1ap h0.1 h0.2.1] at this
 exact this
def u0E (x:C3) (s:C3) (n:Int) (H:Heap) (i:Int):St:=⟨[(1,vI n),(2,.lptr 2 0),(11,vC x),(12,vI i)],[(2,lC s)],H,H.length,[]⟩
theorem u0_lp (x:C3) (n:Int) (H:Heap):evD EE q0X7 (u0E x x n H 0)=some (.exit 0,⟨[(1,vI n),(2,.lptr 2 0),(11,vC x),(12,vI 3),(13,vB false)],[(2,lC (capC x))],H,H.length,[]⟩):=by
 have w1:IntKind.i64.wrap 1=1:=by decide
 have w2:IntKind.i64.wrap 2=2:=by decide
 have w3:IntKind.i64.wrap 3=3:=by decide
 simp [u0E,q0X7,q003,ixvV,ixaV,subs,q001,w1,w2,w3,capC]
theorem q19r (x:C3) (n:Int) (H:Heap):clD EE (.p (.fn 270)) [vC x,vI n] H=some (vCs (upL x n),none):=by
 have k0:=u0_lp x n H
 have hm:m32 (capC x):=⟨by unfold capC;simp only;omega,by unfold capC;simp only;omega,by unfold capC;simp only;omega⟩
 have hin:=fun H=>in_ev ⟨0,0,0⟩ (capC x) H
 have hup:upL x n=(R1 (capC x) 0).filter (q16s n):=rfl
 rw [hup]
 generalize capC x=m at*
 simp [u0E] at k0
 have main:(m≠⟨0,0,0⟩\/ ¬0<=n)->clD EE (.p (.fn 270)) [vC x,vI n] H=some (vCs ((R1 m 0).filter (q16s n)),none):=by
  intro hc
  rw [q002 _ _ _ _ _ _ (noP _) fn270]
  obtain ⟨a,b,c⟩:=m
  have hd': ¬(a=0/\b=0/\c=0/\0<=n):=by
   simp at hc
   omega
  try simp only at k0 hin hm⊢
  by_cases h0:0<=a/\0<=b/\0<=c
  ·have k2:=u2_lp ⟨a,b,c⟩ n H h0 hm
   have ei:inC ⟨0,0,0⟩ ⟨a,b,c⟩=true:=by simp [inC,h0]
   rw [ei] at hin
   generalize (R1 ⟨a,b,c⟩ 0).filter (q16s n)=O at*
   simp [u2E,u2X,rC,hC,lC] at k2
   by_cases z1:a=0
   ·subst z1
    by_cases z2:b=0
    ·subst z2
     by_cases z3:c=0
     ·subst z3
      have hn: ¬0<=n:=by omega
      simp [zEc,k0,k2,hin,hn]
     ·simp [zEc,k0,k2,hin,z3]
    ·simp [zEc,k0,k2,hin,z2]
   ·simp [zEc,k0,k2,hin,z1]
  ·have hR:R1 ⟨a,b,c⟩ 0=[]:=q1bo (by simp only;omega)
   have ei:inC ⟨0,0,0⟩ ⟨a,b,c⟩=false:=by
    unfold inC
    simp only [Bool.and_eq_false_iff,decide_eq_false_iff_not]
    omega
   rw [ei] at hin
   rw [hR]
   by_cases z1:a=0
   ·subst z1
    by_cases z2:b=0
    ·subst z2
     have z3: ¬c=0:=by omega
     simp [zEc,k0,hin,z3]
    ·simp [zEc,k0,hin,z2]
   ·simp [zEc,k0,hin,z1]
 by_cases hz:m=⟨0,0,0⟩
 ·by_cases hn:0<=n
  ·have hR:R1 m 0=[⟨0,0,0⟩]:=by subst hz;rfl
   subst hz
   rw [q002 _ _ _ _ _ _ (noP _) fn270,hR]
   simp [zEc,k0,hn,q16s,encC]
  ·exact main (.inr hn)
 ·exact main (.inl hz)
end Go.EnvOf
