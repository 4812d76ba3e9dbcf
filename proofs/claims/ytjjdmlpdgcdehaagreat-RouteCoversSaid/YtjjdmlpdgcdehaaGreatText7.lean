/- The program's functions and the document's, evaluated. -/
import Derived.KernelRfl
import Derived.Test.YtjjdmlpdgcdehaaGreatText2
import Derived.Test.YtjjdmlpdgcdehaaGreatText6
import Derived.Test.YtjjdmlpdgcdehaaGreatText5
import Derived.Test.YtjjdmlpdgcdehaaGreatText3
import Derived.Test.YtjjdmlpdgcdehaaGreatText4
set_option linter.unusedSimpArgs false
set_option linter.unusedVariables false
namespace Go.EnvOf
open Go Go.Eng
set_option maxRecDepth 100000
theorem q0d7 {j:Job} (h:j.floats.length<=1000000):(snapG j).floats.length<=1000000:=by
 unfold snapG;split
 ·exact h
 ·simpa using h
def cnt (k:Int) (l:List Item):Nat:=(l.filter fun x=>decide (x.k=k)).length
theorem q0dz (k:Int) (x:Item) (r:List Item):cnt k (x::r)=(if x.k=k then 1 else 0)+cnt k r:=by
 unfold cnt
 by_cases h:x.k=k
 ·simp [h];omega
 ·simp [h]
theorem q07c (k:Int) (most:Nat): ∀(l:List Item) (i n:Nat),n<=most->refF k most i n l<0->n+cnt k l=most
 |[],i,n,hn,h=>by
  simp only [refF] at h
  by_cases c:n<most
  ·rw [if_pos c] at h;omega
  ·simp [cnt];omega
 |x::r,i,n,hn,h=>by
  simp only [refF] at h
  rw [q0dz]
  by_cases hk:x.k=k
  ·rw [if_pos hk] at h⊢
   by_cases hx:x.n=n/\n<most
   ·rw [if_pos hx] at h
    have:=q07c k most r (i+1) (n+1) (by omega) h
    omega
   ·rw [if_neg hx] at h;omega
  ·rw [if_neg hk] at h⊢
   have:=q07c k most r (i+1) n hn h
   omega
theorem q0bm (k:Int) (most:Nat): ∀(l:List Item) (i n m:Nat),refF k most i n l<0->refF k (n+cnt k (l.take m)) i n (l.take m)<0
 |[],i,n,m,_=>by simp [refF,cnt]
 |x::r,i,n,0,_=>by simp [refF,cnt]
 |x::r,i,n,m+1,h=>by
  simp only [refF] at h
  rw [ZZ,q0dz]
  by_cases hk:x.k=k
  ·rw [if_pos hk] at h
   by_cases hx:x.n=n/\n<most
   ·rw [if_pos hx] at h
    have ih:=q0bm k most r (i+1) (n+1) m h
    have h2:x.n=n/\n<n+((if x.k=k then 1 else 0)+cnt k (r.take m)):=⟨hx.1,by rw [if_pos hk];omega⟩
    simp only [refF]
    rw [if_pos hk,if_pos h2]
    rw [if_pos hk,show n+(1+cnt k (r.take m))=n+1+cnt k (r.take m) by omega]
    exact ih
   ·rw [if_neg hx] at h;omega
  ·rw [if_neg hk] at h
   have ih:=q0bm k most r (i+1) n m h
   simp only [refF]
   rw [if_neg hk,if_neg hk,Zs]
   exact ih
theorem q0d8 (k:Int) (l:List Item) (m:Nat):cnt k (l.take m)<=cnt k l:=by
 unfold cnt
 conv=>rhs;rw [<-List.take_append_drop m l,List.filter_append,Zt]
 omega
theorem q09s {α:Type} {p:α->Bool} {l:List α} (h:idxF p 0 l<0): ∀x∈l,p x=false:=by
 have:=q09j p 0 l
 have h2:l.any p=false:=by rw [<-this];simp;omega
 intro x hx
 have:=List.any_eq_false.1 h2 x hx
 simpa using this
theorem q0cf {α:Type} {p:α->Bool} {l:List α} (h: ∀x∈l,p x=false):idxF p 0 l<0:=by
 have:=q09j p 0 l
 have h2:l.any p=false:=by rw [List.any_eq_false];intro x hx;rw [h x hx];simp
 rw [h2] at this
 simp at this;exact this
structure Right (j:Job):Prop where
 n1:(j.items.length:Int)<=4096
 n2:(j.floats.length:Int)<=256
 n3:(j.notes.length:Int)<=512
 g:geomF j.g=0
 items: ∀x∈j.items,q016 x=true
 notes: ∀x∈j.notes,q01o x.lines x.pens=false
 floats: ∀x∈j.floats,q01l x=true
 r5:refF 5 j.notes.length 0 0 j.items<0
 r6:refF 6 j.floats.length 0 0 j.items<0
 tall: ∀f∈(snapG j).floats,¬(snapG j).g.first<f.h
theorem q0it (j:Job):(q02q j).1=0↔Right j:=by
 rw [<-q0is]
 constructor
 ·intro h
  unfold q08u at h
  split at h
  ·cases h
  split at h
  ·cases h
  split at h
  ·cases h
  split at h
  ·rename_i hg;exact absurd h hg
  split at h
  ·cases h
  split at h
  ·cases h
  split at h
  ·cases h
  split at h
  ·cases h
  split at h
  ·cases h
  split at h
  ·cases h
  rename_i a1 a2 a3 a4 a5 a6 a7 a8 a9 a10
  refine ⟨by omega,by omega,by omega,by omega,fun x hx=> ?_,fun x hx=> ?_,fun x hx=> ?_,by omega,by omega,fun f hf=> ?_⟩
  ·simpa using q09s (p:=fun x=> !q016 x) (by omega) x hx
  ·exact q09s (p:=fun x:Note=>q01o x.lines x.pens) (by omega) x hx
  ·simpa using q09s (p:=fun x=> !q01l x) (by omega) x hx
  ·have:tallF j<0:=by omega
   simpa using q09s this f hf
 ·intro r
  have i1:=q0cf (p:=fun x=> !q016 x) (l:=j.items) fun x hx=>by rw [r.items x hx];rfl
  have i2:=q0cf (p:=fun x:Note=>q01o x.lines x.pens) (l:=j.notes) r.notes
  have i3:=q0cf (p:=fun x=> !q01l x) (l:=j.floats) fun x hx=>by rw [r.floats x hx];rfl
  have i4:tallF j<0:=q0cf fun f hf=>by simpa using r.tall f hf
  have a1:=r.n1
  have a2:=r.n2
  have a3:=r.n3
  have a4:=r.g
  have a5:=r.r5
  have a6:=r.r6
  unfold q08u
  rw [if_neg (by omega),if_neg (by omega),if_neg (by omega),if_neg (by omega),if_neg (by omega),if_neg (by omega),if_neg (by omega),if_neg (by omega),if_neg (by omega),if_neg (by omega)]
structure Piece where
 n:Int
 frm:Int
 to:Int
 deriving Inhabited,DecidableEq
def q00g (x:Piece):List PV:=[.int .i64 x.n,.int .i64 x.frm,.int .i64 x.to]
@[simp] theorem q0E7 (x:Piece):(q00g x).length=3:=rfl
abbrev q00v (l:List Piece):V:= .p (.sl (l.map q00g))
structure Spot where
 note:Int
 line:Int
 begun:Int
 fresh:Bool
 deriving Inhabited,DecidableEq
abbrev vSpot (s:Spot):V:= .agg [vI s.note,vI s.line,vI s.begun,vB s.fresh]
def nextP (l:List Note) (x:Piece):Int×Int:=if 0<=x.n/\x.n<l.length/\x.to=(rd l x.n).lines.length then (x.n+1,0) else (x.n,x.to)
def nextF (l:List Note) (s:Spot) (p:List Piece):Int×Int:=match p.getLast? with
 |none=>(s.note,s.line)
 |some x=>nextP l x
theorem q0Zr {α:Type} (enc:α->List PV) (s:Nat) (hs: ∀x,(enc x).length=s) {p:List α} {x:α} (h:p.getLast? =some x) (H:Heap) (k:IntKind):ixsI H (.p (.sl (p.map enc))) (.p (.int k ((p.length:Int)-1))) s=some (.eptr ((enc x).map .p) 0):=by
 have hp:p≠[]:=fun e=>by subst e;simp at h
 have hl:0<p.length:=List.length_pos_iff.2 hp
 have e:((p.length:Int)-1).toNat=p.length-1:=by omega
 refine q024 H enc (by omega) ?_ (hs x)
 rw [e,<-List.getLast?_eq_getElem?];exact h
theorem q0Zh (l:List Note) (s:Spot) (p:List Piece) (hl:l.length<=1000000) (hp:p.length<=1000000) (H:Heap):clD EE (.p (.fn 166)) [q00b l,vSpot s,q00v p] H=some (.tup [vI (nextF l s p).1,vI (nextF l s p).2],none):=by
 rw [q002 _ _ _ _ _ _ (noP _) fn166]
 unfold nextF
 cases hx:p.getLast? with
 |none=>
  have:p=[]:=by simpa using hx
  subst this
  simp [zEb]
 |some x=>
  have hp0:p≠[]:=fun e=>by subst e;simp at hx
  have hlen: ¬p.length=0:=by simpa using hp0
  have hpos:0<p.length:=by omega
  have w1:IntKind.i64.wrap ((p.length:Int)-1)=(p.length:Int)-1:=w64 (by omega) (by omega)
  have hix:=fun H k=>q0Zr q00g 3 (fun _=>rfl) hx H k
  simp only [q00g] at hix
  simp only [nextP]
  by_cases a:0<=x.n
  ·by_cases b:x.n<(l.length:Int)
   ·have hin:=fun H k=>q0bw H q00e l k x.n 2 (fun _=>rfl) a b
    simp only [q00e] at hin
    have w2:IntKind.i64.wrap (x.n+1)=x.n+1:=w64 (by omega) (by omega)
    by_cases c:x.to=((rd l x.n).lines.length:Int)
    ·simp [zEc,hp0,w1,hix,a,b,hin,c,w2]
    ·simp [zEc,hp0,w1,hix,a,b,hin,c]
   ·simp [zEc,hp0,w1,hix,a,b]
  ·simp [zEc,hp0,w1,hix,a]
theorem q10u (l:List Note) (s:Spot) (p:List Piece) (hl:l.length<=1000000) (hp:p.length<=1000000) (H:Heap):clD EE (.p (.fn 76)) [q00b l,vSpot s,q00v p] H=some (.agg [vI (nextF l s p).1,vI (nextF l s p).2],none):=by
 rw [q002 _ _ _ _ _ _ (noP _) fn76]
 unfold nextF
 cases hx:p.getLast? with
 |none=>
  have:p=[]:=by simpa using hx
  subst this
  simp [zEc]
 |some x=>
  have hp0:p≠[]:=fun e=>by subst e;simp at hx
  have hlen: ¬p.length=0:=by simpa using hp0
  have hpos:0<p.length:=by omega
  have w1:IntKind.i64.wrap ((p.length:Int)-1)=(p.length:Int)-1:=w64 (by omega) (by omega)
  have hix:=fun H k=>q0Zr q00g 3 (fun _=>rfl) hx H k
  simp only [q00g] at hix
  simp only [nextP]
  by_cases a:0<=x.n
  ·by_cases b:x.n<(l.length:Int)
   ·have hin:=fun H k=>q0bw H q00e l k x.n 2 (fun _=>rfl) a b
    simp only [q00e] at hin
    have w2:IntKind.i64.wrap (x.n+1)=x.n+1:=w64 (by omega) (by omega)
    by_cases c:x.to=((rd l x.n).lines.length:Int)
    ·simp [zEc,hp0,w1,hix,a,b,hin,c,w2]
    ·simp [zEc,hp0,w1,hix,a,b,hin,c]
   ·simp [zEc,hp0,w1,hix,a,b]
  ·simp [zEc,hp0,w1,hix,a]
def q04t (l:List Note) (s:Int) (x:Piece):Int:=if 0<=x.n/\x.n<l.length then min (s+highF (rd l x.n).lines x.frm x.to) far else s
def highP (l:List Note) (p:List Piece) (rule:Int):Int:=if p=[] then 0 else p.foldl (q04t l) (min (max rule 0) far)
theorem q0e0 (L:List Int) (a b:Int):0<=highF L a b:=q0h7 _ (ZS _)
theorem q0e1 (L:List Int) (a b:Int):highF L a b<=far:=q0h8 _ (by unfold far;omega)
theorem q0iu (l:List Note) {s:Int} (x:Piece) (h:0<=s/\s<=far):0<=q04t l s x/\q04t l s x<=far:=by
 unfold q04t
 have h1:=q0e0 (rd l x.n).lines x.frm x.to
 have h2:=q0e1 (rd l x.n).lines x.frm x.to
 unfold far at*
 split<;>omega
def shE (l:List Note) (p:List Piece) (H:Heap) (s:Int) (i:Nat):St:=⟨[(0,q00b l),(7,vI s),(16,q00v p),(17,vI p.length),(18,vI i)],[],H,H.length,[]⟩
def shX (l:List Note) (p:List Piece) (H:Heap) (s:Int):Ex×St:=(.exit 0,⟨[(0,q00b l),(7,vI s),(16,q00v p),(17,vI p.length),(18,vI p.length),(19,vB false)],[],H,H.length,[]⟩)
theorem foldI {α:Type} (f:Int->α->Int): ∀(l:List α) (s:Int) (i:Nat),fold (fun s _ x=>f s x) s i l=l.foldl f s
 |[],_,_=>rfl
 |x::r,s,i=>by simp only [fold,ZT];exact foldI f r _ _
abbrev q0cg (l:List Note):Prop:= ∀n∈l,n.lines.length<=1000000
theorem q05a {α:Type} [Inhabited α] {l:List α} {i:Int} (h0:0<=i) (h1:i<l.length):rd l i∈l:=Zp (q026 l i h0 h1)
theorem q0mu (l:List Note) (p:List Piece) (hl:q0cg l) (hp:p.length<=1000000) (H:Heap) (s:Int) (hs:0<=s/\s<=far):evD EE q0X1 (shE l p H s 0)=some (shX l p H (p.foldl (q04t l) s)):=by
 unfold q0X1
 refine Eq.trans (q00u (E:=EE) p (fun s i=>shE l p H s i) (fun s _=>0<=s/\s<=far) (fun s _ x=>q04t l s x) (fun s=>shX l p H s) (fun _ _=>rfl) ?_ ?_ s 0 hs (Zj _)) (by rw [ZG,foldI])
 ·rintro s i x hs hx
  refine ⟨?_,q0iu l x hs⟩
  have hlt:=(Za.1 hx).1
  have w1:IntKind.i64.wrap ((i:Int)+1)=((i+1:Nat):Int):=w64 (by omega) (by omega)
  have hix:=fun H k=>q00c H q00g (k:=k) (s:=3) hx rfl
  simp only [q00g] at hix
  unfold q04t
  by_cases a:0<=x.n
  ·by_cases b:x.n<(l.length:Int)
   ·have hin:=fun H k=>q0bw H q00e l k x.n 2 (fun _=>rfl) a b
    simp only [q00e] at hin
    have hh:=q0C7 (rd l x.n).lines (rd l x.n).pens x.frm x.to H (by have:=hl _ (q05a a b);omega)
    simp only [note] at hh
    have h1:=q0e0 (rd l x.n).lines x.frm x.to
    have h2:=q0e1 (rd l x.n).lines x.frm x.to
    have w2:IntKind.i64.wrap (s+highF (rd l x.n).lines x.frm x.to)=s+highF (rd l x.n).lines x.frm x.to:=w64 (by unfold far at*;omega) (by unfold far at*;omega)
    simp [shE,hlt,hix,subs,q001,a,b,hin,hh,w1,w2,far]
   ·simp [shE,hlt,hix,subs,q001,a,b,w1]
  ·simp [shE,hlt,hix,subs,q001,a,w1]
 ·rintro s-
  refine ⟨?_,by simp [shX]⟩
  simp [shE,shX]
theorem q0mv (l:List Note) (p:List Piece) (rule:Int) (hl:q0cg l) (hp:p.length<=1000000) (H:Heap):clD EE (.p (.fn 209)) [q00b l,q00v p,vI rule] H=some (vI (highP l p rule),none):=by
 rw [q002 _ _ _ _ _ _ (noP _) fn209]
 have key:=q0mu l p hl hp H (min (max rule 0) far) (by unfold far;omega)
 simp only [shE,shX,far] at key
 unfold highP
 by_cases h:p=[]
 ·subst h;simp [zEa]
 ·simp at key
  simp [zEa,h,key,far]
def rhE (l:List Note) (p:List Piece) (H:Heap) (s:Int) (i:Nat):St:=⟨[(0,q00b l),(1,q00v p),(7,vI s),(8,vI i)],[],H,H.length,[]⟩
def rhX (l:List Note) (p:List Piece) (H:Heap) (s:Int):Ex×St:=(.exit 0,⟨[(0,q00b l),(1,q00v p),(7,vI s),(8,vI p.length),(18,vB false)],[],H,H.length,[]⟩)
theorem q0jv (l:List Note) (p:List Piece) (hl:q0cg l) (hp:p.length<=1000000) (H:Heap) (s:Int) (hs:0<=s/\s<=far):evD EE q0Wu (rhE l p H s 0)=some (rhX l p H (p.foldl (q04t l) s)):=by
 unfold q0Wu
 refine Eq.trans (q00u (E:=EE) p (fun s i=>rhE l p H s i) (fun s _=>0<=s/\s<=far) (fun s _ x=>q04t l s x) (fun s=>rhX l p H s) (fun _ _=>rfl) ?_ ?_ s 0 hs (Zj _)) (by rw [ZG,foldI])
 ·rintro s i x hs hx
  refine ⟨?_,q0iu l x hs⟩
  have hlt:=(Za.1 hx).1
  have w1:IntKind.i64.wrap ((i:Int)+1)=((i+1:Nat):Int):=w64 (by omega) (by omega)
  have hix:=fun H k=>q00c H q00g (k:=k) (s:=3) hx rfl
  simp only [q00g] at hix
  unfold q04t
  by_cases a:0<=x.n
  ·by_cases b:x.n<(l.length:Int)
   ·have hin:=fun H k=>q0bw H q00e l k x.n 2 (fun _=>rfl) a b
    simp only [q00e] at hin
    have hh:=q0yc (rd l x.n).lines (rd l x.n).pens x.frm x.to H (by have:=hl _ (q05a a b);omega)
    simp only [note] at hh
    have h1:=q0e0 (rd l x.n).lines x.frm x.to
    have h2:=q0e1 (rd l x.n).lines x.frm x.to
    have w2:IntKind.i64.wrap (s+highF (rd l x.n).lines x.frm x.to)=s+highF (rd l x.n).lines x.frm x.to:=w64 (by unfold far at*;omega) (by unfold far at*;omega)
    simp [rhE,hlt,hix,subs,a,b,hin,hh,w1,w2,far]
   ·simp [rhE,hlt,hix,subs,a,b,w1]
  ·simp [rhE,hlt,hix,subs,a,w1]
 ·rintro s-
  refine ⟨?_,by simp [rhX]⟩
  simp [rhE,rhX]
theorem q0jw (l:List Note) (p:List Piece) (rule:Int) (hl:q0cg l) (hp:p.length<=1000000) (H:Heap):clD EE (.p (.fn 151)) [q00b l,q00v p,vI rule] H=some (vI (highP l p rule),none):=by
 rw [q002 _ _ _ _ _ _ (noP _) fn151]
 have e:max 0 (min rule far)=min (max rule 0) far:=by unfold far;omega
 have key:=q0jv l p hl hp H (min (max rule 0) far) (by unfold far;omega)
 rw [<-e] at key
 simp only [rhE,rhX,far] at key
 unfold highP
 rw [<-e]
 by_cases h:p=[]
 ·subst h;simp [zEa]
 ·simp at key
  simp [zEa,h,key,far]
theorem q0d9:EE.fns 278=some (eqI 3 [true,true,true]):=by kernel_rfl
theorem q083 (x y:Piece):q00h [true,true,true] ((q00g x).map .p) ((q00g y).map .p)=some (decide (x=y)):=by
 obtain ⟨a,b,c⟩:=x
 obtain ⟨a',b',c'⟩:=y
 simp [q00g,Bool.decide_and]
theorem q0bn (a b:List Piece) (hn:a.length<=1000000) (H:Heap):clD EE (.p (.fn 198)) [q00v a,q00v b] H=some (vB (decide (a=b)),none):=by
 rw [q002 _ _ _ _ _ _ (noP _) fn198]
 have:=eq_ev _ 3 _ q00g (noP _) q0d9 (fun _=>rfl) (fun _=>rfl) q083 a b (by omega) H
 simp [zEa,this]
def q04c (x:Item):Bool:=decide (x.k=2)||decide (x.k=3)
def stayB (l:List Item) (n:Nat):Bool:=match l[n]? with|some x=> !q04c x|none=>true
def seekP (p:Nat->Bool):Nat->Nat->Int
 |0,_=> -1
 |k+1,n=>if p n=true then n else seekP p k (n+1)
def trimN (l:List Item) (a:Nat):Nat:=a+((l.drop a).takeWhile q04c).length
theorem q10v (l:List Item) (a:Nat) (h:a<=l.length):trimN l a<=l.length:=by
 unfold trimN
 have h2:=(List.takeWhile_sublist (l:=l.drop a) q04c).length_le
 simp only [List.length_drop] at h2
 omega
theorem q10w (l:List Item) (a:Nat):a<=trimN l a:=Nat.le_add_right _ _
theorem q0da {l:List Item} {a:Nat} {x:Item} (hx:l[a]? =some x) (h:q04c x=true):trimN l a=trimN l (a+1):=by
 obtain ⟨hl,rfl⟩:=Za.1 hx
 unfold trimN
 rw [ZA hl,List.takeWhile_cons,if_pos h]
 simp only [Zg];omega
theorem q09t {l:List Item} {a:Nat} (h:stayB l a=true):trimN l a=a:=by
 unfold trimN stayB at*
 cases hx:l[a]? with
 |none=>
  have:l.length<=a:=by simpa using hx
  rw [List.drop_eq_nil_of_le this];simp
 |some x=>
  rw [hx] at h
  obtain ⟨hl,rfl⟩:=Za.1 hx
  rw [ZA hl,List.takeWhile_cons,if_neg (by simpa using h)]
  simp
theorem q0ys {l:List Item} {a:Nat} (h:stayB l a=false): ∃x,l[a]? =some x/\q04c x=true:=by
 unfold stayB at h
 cases hx:l[a]? with
 |none=>rw [hx] at h;simp at h
 |some x=>rw [hx] at h;exact ⟨x,rfl,by simpa using h⟩
theorem q0Zx {l:List Item} {a:Nat} (h:stayB l a=false):trimN l a=trimN l (a+1):=by
 obtain ⟨x,hx,hl⟩:=q0ys h
 exact q0da hx hl
theorem q0iv (l:List Item): ∀(k a:Nat),a<=l.length->l.length+1-a=k->seekP (stayB l) k a=trimN l a
 |0,a,h,hk=>by omega
 |k+1,a,h,hk=>by
  simp only [seekP]
  cases hs:stayB l a with
  |true=>rw [if_pos rfl,q09t hs]
  |false=>
   obtain ⟨x,hx,hl⟩:=q0ys hs
   have hlt:=(Za.1 hx).1
   rw [if_neg (by simp),q0iv l k (a+1) (by omega) (by omega),q0da hx hl]
theorem q10i (l:List Item) (n a:Nat) (hn:l.length-a=n):stayB l (trimN l a)=true:=by
 induction n generalizing a with
 |zero=>
  have:stayB l a=true:=by unfold stayB;rw [ZF (by omega)]
  rw [q09t this];exact this
 |succ n ih=>
  cases hs:stayB l a with
  |true=>rw [q09t hs];exact hs
  |false=>rw [q0Zx hs];exact ih (a+1) (by omega)
theorem q0Zy (l:List Item) (a:Nat):trimN l (trimN l a)=trimN l a:=q09t (q10i l _ a rfl)
def putN (l:List Item) (n:Int):Nat:=(min (max n 0) l.length).toNat
theorem q08v (l:List Item) (n:Int):putN l n<=l.length:=by unfold putN;omega
theorem q0Ce {l:List Item} {n:Nat} (h:n<=l.length):putN l n=n:=by unfold putN;omega
def trimF (l:List Item) (n:Int):Nat:=trimN l (putN l n)
theorem q0Zi (l:List Item) (n:Int):trimF l n<=l.length:=q10v _ _ (q08v l n)
def q01a (l:List Item):Int:=cnt 5 l
def addAt (fs:List Float) (c:C3) (x:Item):C3:=if x.k=6 then ofS fs c x.n else c
def q00n (fs:List Float) (l:List Item):C3:=l.foldl (addAt fs) ⟨0,0,0⟩
def dueS (fs:List Float) (s:C3×C3) (x:Item):C3×C3:=(addAt fs s.1 x,if x.k=7 then s.1 else s.2)
def dueP (fs:List Float) (l:List Item):C3:=(l.foldl (dueS fs) (⟨0,0,0⟩,⟨0,0,0⟩)).2
theorem q0Cf (fs:List Float) (l:List Item): ∀s:C3×C3,(l.foldl (dueS fs) s).1=l.foldl (addAt fs) s.1:=by
 induction l with
 |nil=>intro s;rfl
 |cons x r ih=>intro s;simp only [ZT,ih];rfl
theorem q03n {α:Type} {l:List α} {i:Nat} {x:α} (h:l[i]? =some x):l.take (i+1)=l.take i++[x]:=by rw [List.take_add_one,h];rfl
theorem q0oa (l:List Item) (x:Item):q01a (l++[x])=q01a l+if x.k=5 then 1 else 0:=by
 unfold q01a cnt
 by_cases h:x.k=5<;>simp [List.filter_append,h]
theorem q0db (fs:List Float) (l:List Item) (x:Item):q00n fs (l++[x])=addAt fs (q00n fs l) x:=by simp [q00n]
theorem q0bo (fs:List Float) (l:List Item) (x:Item):dueP fs (l++[x])=if x.k=7 then q00n fs l else dueP fs l:=by
 simp only [dueP,List.foldl_append,ZT,List.foldl_nil,dueS,q0Cf];rfl
theorem q0iw (l:List Item):0<=q01a l/\q01a l<=l.length:=by
 unfold q01a cnt
 have:=List.length_filter_le (fun x:Item=>decide (x.k=5)) l
 omega
theorem q0e2 (fs:List Float) (c:C3) (x:Item) (m:Int) (h:0<=c.a/\0<=c.b/\0<=c.c/\c.a<=m/\c.b<=m/\c.c<=m):
  0<=(addAt fs c x).a/\0<=(addAt fs c x).b/\0<=(addAt fs c x).c/\(addAt fs c x).a<=m+1/\(addAt fs c x).b<=m+1/\(addAt fs c x).c<=m+1:=by
 unfold addAt ofS bump
 (repeat' split)<;>(try simp only)<;>omega
theorem q0ix (fs:List Float) (l:List Item):0<=(q00n fs l).a/\0<=(q00n fs l).b/\0<=(q00n fs l).c/\(q00n fs l).a<=l.length/\(q00n fs l).b<=l.length/\(q00n fs l).c<=l.length:=by
 have key: ∀(l:List Item) (c:C3) (m:Int),(0<=c.a/\0<=c.b/\0<=c.c/\c.a<=m/\c.b<=m/\c.c<=m)->
   0<=(l.foldl (addAt fs) c).a/\0<=(l.foldl (addAt fs) c).b/\0<=(l.foldl (addAt fs) c).c/\(l.foldl (addAt fs) c).a<=m+l.length/\(l.foldl (addAt fs) c).b<=m+l.length/\(l.foldl (addAt fs) c).c<=m+l.length:=by
  intro l
  induction l with
  |nil=>intro c m h;simpa using h
  |cons x r ih=>
   intro c m h
   have h1:=ih (addAt fs c x) (m+1) (q0e2 fs c x m h)
   simp only [ZT,Zg]
   omega
 have:=key l ⟨0,0,0⟩ 0 (by simp)
 simpa [q00n] using this
def preL {α:Type} (f:List Item->α) (l:List Item) (n:Nat):List α:=(List.range n).map fun k=>f (l.take k)
theorem q04d {α:Type} (f:List Item->α) (l:List Item) (n:Nat):(preL f l n).length=n:=by simp [preL]
theorem q0v1 {α:Type} (f:List Item->α) (l:List Item) (n:Nat):preL f l (n+1)=preL f l n++[f (l.take n)]:=by simp [preL,List.range_succ]
theorem q04e {α:Type} (f:List Item->α) (l:List Item) (n i:Nat) (h:i<n):(preL f l n)[i]? =some (f (l.take i)):=by simp [preL,h]
def lineN (l:List Note):Int:=(l.map fun n=>(n.lines.length:Int)).sum
theorem q0Ys (l:List Note) (n:Note):lineN (l++[n])=lineN l+n.lines.length:=by simp [lineN]
def q00z (j:Job) (n:Int):Int:=q01a (j.items.take (putN j.items n))
def q01i (j:Job) (n:Int):C3:=q00n j.floats (j.items.take (putN j.items n))
def dueF (j:Job) (n:Int):C3:=dueP j.floats (j.items.take (putN j.items n))
def q03q (j:Job) (s:Stt):Bool:=
 if s.line=0 then decide (s.note=q00z j s.at_) else
 if s.note≠q00z j s.at_-1\/s.note<0\/s.line<1 then false else
 decide (s.line<(rd j.notes s.note).lines.length)&&mayF (rd j.notes s.note).lines (rd j.notes s.note).pens s.line
def zeroC:C3:=⟨0,0,0⟩
def q01g (j:Job) (s:Stt):Bool:=
 if s.at_<0\/(j.items.length:Int)<s.at_\/(trimF j.items s.at_:Int)≠s.at_\/s.col<0\/j.g.cols<s.col then false else
 q03q j s&&inC zeroC s.h&&inC s.h (q01i j s.at_)
def q0Y3 (j:Job):Stt:=⟨trimF j.items 0,0,0,0,zeroC⟩
def allS (j:Job):C3:=q00n j.floats j.items
def doneS (j:Job) (s:Stt):Bool:=q01g j s&&decide (s.at_=j.items.length)&&decide (s.line=0)&&decide (s.note=j.notes.length)&&decide (s.h=allS j)
def q022 (j:Job) (s:Stt):Bool:=q01g j s&&inC (dueF j s.at_) s.h
def highS (j:Job) (s:Stt):Int:=if q01g j s=true then (if s.col<j.g.cols then j.g.first else j.g.high) else 0
def spotS (j:Job) (s:Stt) (to:Int):Spot:=if q01g j s=true then ⟨s.note,s.line,q00z j to,decide (q00z j s.at_<q00z j to)⟩ else ⟨0,0,0,false⟩
def q120 (j:Job) (s:Stt):C3:=if q01g j s=true then q129 s.h (q01i j s.at_) else zeroC
def q0Xw (j:Job) (s:Stt):Int:=if q01g j s=true then s.at_+lineN (j.notes.take s.note.toNat)+s.line+sumC s.h else 0
theorem q09l {n s:Int} (h0:0<=n) (h1:n<=1073741823) (hs:1<=s) (h2:s<=1073741823):0<=upG n s/\upG n s<=4294967296:=by
 have a:=Int.emod_nonneg n (show s≠0 by omega)
 have b:=Int.emod_lt_of_pos n (show 0<s by omega)
 unfold upG upF
 rw [if_neg (by omega)]
 split
 ·simp only [orN];omega
 ·unfold addF
  split<;>simp only [orN]<;>omega
theorem q09m {n s:Int} (h0:0<=n) (h1:n<=1073741823) (hs:1<=s) (h2:s<=1073741823):0<=downG n s/\downG n s<=4294967296:=by
 have a:=Int.emod_nonneg n (show s≠0 by omega)
 have b:=Int.emod_lt_of_pos n (show 0<s by omega)
 have c1:0<=s*(n/s):=Int.mul_nonneg (by omega) (Int.ediv_nonneg h0 (by omega))
 have c2:=Int.emod_add_mul_ediv n s
 unfold downG downF
 rw [if_neg (by omega)]
 unfold subF
 split<;>simp only [orN]<;>omega
theorem q04b {lo hi:Int} {l:List Int} (h: ¬inR lo hi l=false): ∀x∈l,lo<=x/\x<=hi:=by
 intro x hx
 have h1:inR lo hi l=true:=by simpa using h
 unfold inR at h1
 have h2:(l.any fun x=>decide (x<lo)||decide (hi<x))=false:=by simpa using h1
 have:=List.any_eq_false.1 h2 x hx
 simp at this
 omega
structure Tot where
 nat:Int
 s0:Int
 s1:Int
 s2:Int
 s3:Int
 shr:Int
 deriving Inhabited,DecidableEq
def q020 (t:Tot):List PV:=[.int .i64 t.nat,.int .i64 t.s0,.int .i64 t.s1,.int .i64 t.s2,.int .i64 t.s3,.int .i64 t.shr]
@[simp] theorem q0Iv (t:Tot):(q020 t).length=6:=rfl
abbrev vTot (t:Tot):V:= .agg [vI t.nat,vI t.s0,vI t.s1,vI t.s2,vI t.s3,vI t.shr]
def zeroT:Tot:=⟨0,0,0,0,0,0⟩
def addT (a b:Tot):Tot:=⟨a.nat+b.nat,a.s0+b.s0,a.s1+b.s1,a.s2+b.s2,a.s3+b.s3,a.shr+b.shr⟩
def subT (a b:Tot):Tot:=⟨a.nat-b.nat,a.s0-b.s0,a.s1-b.s1,a.s2-b.s2,a.s3-b.s3,a.shr-b.shr⟩
def glueT (h str ord shr:Int):Tot:=⟨h,if ord=0 then str else 0,if ord=1 then str else 0,if ord=2 then str else 0,if ord=3 then str else 0,shr⟩
def totI (x:Item):Tot:=if x.k=1 then ⟨x.h,0,0,0,0,0⟩ else if x.k=2 then glueT x.h x.str x.ord x.shr else zeroT
def totP (l:List Item):Tot:=l.foldl (fun t x=>addT t (totI x)) zeroT
theorem q0iy (l:List Item) (x:Item):totP (l++[x])=addT (totP l) (totI x):=by simp [totP]
def boxI1 (x:Item):Int:=if x.k=1 then x.h else 0
def boxP (l:List Item):Int:=l.foldl (fun t x=>t+boxI1 x) 0
theorem q0v2 (l:List Item) (x:Item):boxP (l++[x])=boxP l+boxI1 x:=by simp [boxP]
structure inT (m:Int) (t:Tot):Prop where
 nat:0<=t.nat/\t.nat<=m
 s0:0<=t.s0/\t.s0<=m
 s1:0<=t.s1/\t.s1<=m
 s2:0<=t.s2/\t.s2<=m
 s3:0<=t.s3/\t.s3<=m
 shr:0<=t.shr/\t.shr<=m
theorem q0mw:inT 0 zeroT:=by constructor<;>simp [zeroT]
theorem q0po {m k:Int} {a b:Tot} (ha:inT m a) (hb:inT k b):inT (m+k) (addT a b):=by
 obtain ⟨⟨a1,a2⟩,⟨a3,a4⟩,⟨a5,a6⟩,⟨a7,a8⟩,⟨a9,b1⟩,⟨b2,b3⟩⟩:=ha
 obtain ⟨⟨c1,c2⟩,⟨c3,c4⟩,⟨c5,c6⟩,⟨c7,c8⟩,⟨c9,d1⟩,⟨d2,d3⟩⟩:=hb
 constructor<;>simp only [addT]<;>omega
structure fairI (x:Item):Prop where
 h:0<=x.h/\x.h<=4294967296
 str:0<=x.str/\x.str<=4294967296
 shr:0<=x.shr/\x.shr<=4294967296
theorem q0ch {x:Item} (f:fairI x):inT 4294967296 (totI x):=by
 have a:=f.h
 have b:=f.str
 have c:=f.shr
 unfold totI
 split
 ·constructor<;>simp only<;>omega
 ·split
  ·unfold glueT;constructor<;>simp only<;>first|omega|(split<;>omega)
  ·constructor<;>simp [zeroT]
theorem q0hb: ∀(l:List Item),(∀x∈l,fairI x)->inT (4294967296*l.length) (totP l):=by
 have key: ∀(l:List Item) (t:Tot) (m:Int),inT m t->(∀x∈l,fairI x)->inT (m+4294967296*l.length) (l.foldl (fun t x=>addT t (totI x)) t):=by
  intro l
  induction l with
  |nil=>intro t m h _;simpa using h
  |cons x r ih=>
   intro t m h hf
   have h1:=ih _ _ (q0po h (q0ch (hf x ZE))) fun y hy=>hf y (Zv _ hy)
   simp only [ZT,Zg]
   have e:m+4294967296*((r.length+1:Nat):Int)=m+4294967296+4294967296*r.length:=by simp only [Int.natCast_add,Int.natCast_one];omega
   rw [e];exact h1
 intro l hf
 have:=key l zeroT 0 q0mw hf
 simpa [totP] using this
theorem q0yt {x:Item} (f:fairI x):0<=boxI1 x/\boxI1 x<=4294967296:=by
 have:=f.h
 unfold boxI1;split<;>omega
theorem q0pp: ∀(l:List Item),(∀x∈l,fairI x)->0<=boxP l/\boxP l<=4294967296*l.length:=by
 have key: ∀(l:List Item) (t m:Int),0<=t->t<=m->(∀x∈l,fairI x)->0<=l.foldl (fun t x=>t+boxI1 x) t/\l.foldl (fun t x=>t+boxI1 x) t<=m+4294967296*l.length:=by
  intro l
  induction l with
  |nil=>intro t m h h2 _;simp;omega
  |cons x r ih=>
   intro t m h h2 hf
   have hx:=q0yt (hf x ZE)
   have h1:=ih (t+boxI1 x) (m+4294967296) (by omega) (by omega) fun y hy=>hf y (Zv _ hy)
   simp only [ZT,Zg]
   have e:m+4294967296*((r.length+1:Nat):Int)=m+4294967296+4294967296*r.length:=by simp only [Int.natCast_add,Int.natCast_one];omega
   rw [e];exact h1
 intro l hf
 have:=key l 0 0 (by omega) (by omega) hf
 simpa [boxP] using this
theorem q0rd {n s:Int} (h0:0<=n) (h1:n<=1073741823) (h2:s<=1073741823):0<=nearG n s/\nearG n s<=4294967296:=by
 unfold nearG
 split
 ·omega
 ·split
  ·exact q09m h0 h1 (by omega) h2
  ·exact q09l h0 h1 (by omega) h2
theorem q0fi {x:Item} (h:q016 x=true):fairI x:=by
 simp [q016,Zb,lenOK,decide_eq_true_eq] at h
 constructor<;>omega
theorem q0re {x:Item} {s:Int} (h:q016 x=true) (h1:1<=s) (h2:s<=1073741823):fairI (itemG s x):=by
 have f:=q0fi h
 simp [q016,Zb,lenOK,decide_eq_true_eq] at h
 unfold itemG
 split
 ·exact ⟨q09l (by omega) (by omega) h1 h2,f.str,f.shr⟩
 ·split
  ·exact ⟨q0rd (by omega) (by omega) h2,by simp,by simp⟩
  ·exact f
theorem q0bp {g:Geom} (h:geomF g=0):0<=g.grid/\g.grid<=536870912/\1<=g.cols/\g.cols<=8/\1<=g.high/\g.high<=1073741823/\0<=g.rule/\g.rule<=536870912/\0<=g.sep/\g.sep<=536870912:=by
 unfold geomF at h
 by_cases q1:inR 1 8 [g.cols]=false
 ·rw [if_pos q1] at h;omega
 rw [if_neg q1] at h
 by_cases q2:inR 1 1073741823 [g.wide,g.high]=false
 ·rw [if_pos q2] at h;omega
 rw [if_neg q2] at h
 by_cases q3:inR 0 1073741823 [g.gap,g.noteMost,g.topMost,g.botMost]=false
 ·rw [if_pos q3] at h;omega
 rw [if_neg q3] at h
 by_cases q4:inR 0 536870912 [g.rule,g.sep,g.grid]=false
 ·rw [if_pos q4] at h;omega
 have a1:=q04b q1 g.cols (by simp)
 have a2:=q04b q2 g.high (by simp)
 have a3:=q04b q4 g.grid (by simp)
 have a4:=q04b q4 g.rule (by simp)
 have a5:=q04b q4 g.sep (by simp)
 omega
theorem q0iz {j:Job} (r:Right j): ∀x∈(snapG j).items,fairI x:=by
 have hg:=q0bp r.g
 unfold snapG
 split
 ·exact fun x hx=>q0fi (r.items x hx)
 ·intro x hx
  obtain ⟨y,hy,rfl⟩:=ZJ.1 hx
  exact q0re (r.items y hy) (by omega) (by omega)
structure Colm where
 k:Int
 frm:Int
 to:Int
 notes:List Piece
 top:List Int
 bot:List Int
 deriving Inhabited,DecidableEq
abbrev vColm (c:Colm):V:= .agg [vI c.k,vI c.frm,vI c.to,q00v c.notes,sli c.top,sli c.bot]
def zeroS:Stt:=⟨0,0,0,0,⟨0,0,0⟩⟩
def nextS (j:Job) (s:Stt) (c:Colm):Stt:=
 if q01g j s=true then ⟨if c.k=1 then trimF j.items c.to else s.at_,min (s.col+1) j.g.cols,(nextF j.notes (spotS j s c.to) c.notes).1,(nextF j.notes (spotS j s c.to) c.notes).2,addC (addC s.h (ofL j.floats c.top)) (ofL j.floats c.bot)⟩ else zeroS
theorem q0yu (s:Int) (x:Item):(itemG s x).k=x.k:=by unfold itemG;(repeat' split)<;>rfl
theorem q0Cg (s:Int) (x:Item):(itemG s x).n=x.n:=by unfold itemG;(repeat' split)<;>rfl
theorem q0fj (j:Job): ∃f:Item->Item,(snapG j).items=j.items.map f/\ ∀x,(f x).k=x.k/\(f x).n=x.n:=by
 unfold snapG
 split
 ·exact ⟨fun x=>x,by simp,fun x=>⟨rfl,rfl⟩⟩
 ·exact ⟨itemG j.g.grid,rfl,fun x=>⟨q0yu _ x,q0Cg _ x⟩⟩
theorem q0j0 (j:Job):(snapG j).notes.length=j.notes.length:=by unfold snapG;split<;>simp
theorem q0v3 (j:Job):(snapG j).floats.length=j.floats.length:=by unfold snapG;split<;>simp
theorem q0v4 (j:Job):(snapG j).items.length=j.items.length:=by unfold snapG;split<;>simp
theorem q0j1 (j:Job):(snapG j).g.cols=j.g.cols:=by unfold snapG;split<;>rfl
theorem q10x {k:Int} {l:List Item} (h: ∀x∈l,x.k≠k):cnt k l=0:=by
 unfold cnt
 rw [ZU,List.filter_eq_nil_iff]
 intro x hx;simpa using h x hx
theorem q0pq (k:Int) (f:Item->Item) (hf: ∀x,(f x).k=x.k) (l:List Item):cnt k (l.map f)=cnt k l:=by
 unfold cnt
 induction l with
 |nil=>rfl
 |cons x r ih=>simp only [Zo,List.filter_cons,hf];split<;>simp [ih]
theorem q0Yv {α:Type} (p:α->Bool) (l:List α):l.take (l.takeWhile p).length=l.takeWhile p:=(List.prefix_iff_eq_take.1 (List.takeWhile_prefix p)).symm
theorem q0Y4 {α:Type} {p:α->Bool}: ∀ {l:List α} {x:α},x∈l.takeWhile p->p x=true
 |y::r,x,h=>by
  rw [List.takeWhile_cons] at h
  split at h
  ·rename_i hy
   rcases ZI.1 h with rfl|h
   ·exact hy
   ·exact q0Y4 h
  ·cases h
theorem q12n (l:List Item):putN l 0=0:=by unfold putN;omega
theorem q12i (l:List Item):trimF l 0=(l.takeWhile q04c).length:=by unfold trimF;rw [q12n];simp [trimN]
theorem q12o {l:List Item} {n:Nat} (h:n<=l.length):trimF l n=trimN l n:=by unfold trimF;rw [q0Ce h]
theorem q12t {c:C3} (h:0<=c.a/\0<=c.b/\0<=c.c):inC zeroC c=true:=by simp [inC,zeroC,h]
theorem q12p {l:List Item} {x:Item} (h:x∈l.take (l.takeWhile q04c).length):x.k=2\/x.k=3:=by
 rw [q0Yv] at h
 simpa [q04c] using q0Y4 h
theorem q12f {J:Job} (hc:1<=J.g.cols):q01g J (q0Y3 J)=true:=by
 have hle:=q0Zi J.items 0
 have h1:trimF J.items (trimF J.items 0:Int)=trimF J.items 0:=by
  rw [q12o hle];exact q0Zy _ _
 have hz:=q12i J.items
 have hb:q00z J (trimF J.items 0:Int)=0:=by
  unfold q00z q01a
  rw [q0Ce hle,q10x];rfl
  intro x hx
  rw [hz] at hx
  have:=q12p hx;omega
 have ha:=q0ix J.floats (J.items.take (putN J.items (trimF J.items 0)))
 have hin:inC zeroC (q01i J (trimF J.items 0:Int))=true:=q12t ⟨ha.1,ha.2.1,ha.2.2.1⟩
 have hin2:inC zeroC zeroC=true:=rfl
 unfold q01g q0Y3
 rw [if_neg (by simp only [h1];omega)]
 simp [q03q,hb,hin,hin2]
def hpOf (H:Heap):Option (Heap×List Nat)->Heap
 |none=>H
 |some x=>x.1
def dsOf:Option (Heap×List Nat)->List Nat
 |none=>[]
 |some x=>x.2
theorem q121 (env:List (Nat×V)) (loc:List (Nat×List V)) (hp:Heap) (base:Nat) (dirty:List Nat) (d:Option Nat) (v:V) (r:Option (Heap×List Nat)) (hv:v.notL=true):callR ⟨env,loc,hp,base,dirty⟩ false d (some (v,r))=some (St.put ⟨env,loc,hpOf hp r,base,(dsOf r).foldr (addD base) dirty⟩ d v):=by
 cases r with
 |none=>simp only [callR,hpOf,dsOf,hv];simp
 |some x=>obtain ⟨H,ds⟩:=x;simp only [callR,hpOf,dsOf,hv];simp
theorem q02y {H:Heap} {q:Nat} {cs:List V} (h:Eng.boxAt H q=some cs):q<H.length:=by
 unfold Eng.boxAt at h
 rcases Z2 q H.length with g|g
 ·exact g
 ·rw [ZF g] at h;cases h
theorem q0yv {B i x:Nat} {d:List Nat} (h:x∈d):x∈addD B i d:=by
 unfold addD
 split
 ·exact Zv _ h
 ·exact h
theorem q0v5 {B x:Nat} {d:List Nat} (h:x<B):x∈addD B x d:=by
 unfold addD
 rw [if_pos h]
 exact ZE
theorem q09u {B x:Nat}: ∀ {ds d:List Nat},x∈ds->x<B->x∈ds.foldr (addD B) d
 |y::ds,d,h,hx=>by
  rcases ZI.1 h with rfl|h
  ·exact q0v5 hx
  ·exact q0yv (q09u h hx)
theorem q06d {B x:Nat}: ∀ {ds d:List Nat},x∈ds.foldr (addD B) d->x∈ds\/x∈d
 |[],_,h=> .inr h
 |y::ds,d,h=>by
  simp only [List.foldr_cons,addD] at h
  split at h
  ·rcases ZI.1 h with rfl|h
   ·exact .inl ZE
   ·rcases q06d h with h|h
    ·exact .inl (Zv _ h)
    ·exact .inr h
  ·rcases q06d h with h|h
   ·exact .inl (Zv _ h)
   ·exact .inr h
theorem rd_of {α:Type} [Inhabited α] {l:List α} {i:Nat} {x:α} (h:l[i]? =some x):rd l i=x:=by
 unfold rd
 simp [List.getD,h]
def encC3 (c:C3):List PV:=[.int .i64 c.a,.int .i64 c.b,.int .i64 c.c]
@[simp] theorem q0Nh (c:C3):(encC3 c).length=3:=rfl
def q00d (l:List Item):V:= .eptr [q006 l] 0
def q00r (l:List Item):V:= .eptr [q006 l,.p (.sl ((preL totP l (l.length+1)).map q020)),sli (preL boxP l (l.length+1))] 0
def vMapW (l:List Item) (fs:List Float):V:= .eptr [q006 l,sli (preL q01a l (l.length+1)),.p (.sl ((preL (q00n fs) l (l.length+1)).map encC3)),.p (.sl ((preL (dueP fs) l (l.length+1)).map encC3))] 0
def q00o (j:Job):V:= .eptr [q00d j.items,q00r j.items,vMapW j.items j.floats] 0
def preN (l:List Note):List Int:=(List.range (l.length+1)).map fun k=>lineN (l.take k)
abbrev cJobW (j:Job):List V:=cGeom j.g++[q006 j.items,q00b j.notes,q005 j.floats]
def vW (j:Job):V:= .eptr (q00o j::(cJobW j++[sli (preN j.notes),vI (allS j).a,vI (allS j).b,vI (allS j).c])) 0
section
variable (l:List Item)
@[simp] theorem q0E8 (k:Nat):q00s (q00d l) k=true:=_root_.id rfl
@[simp] theorem q0Iw (k i:Nat):escV k i (q00d l)=(q00d l):=_root_.id rfl
@[simp] theorem q0G6:outL (q00d l)=(q00d l):=_root_.id rfl
@[simp] theorem q0G7:V.notL (q00d l)=true:=_root_.id rfl
@[simp] theorem q0G8:V.outB (q00d l)=true:=_root_.id rfl
@[simp] theorem q0G9:V.oneB (q00d l)=true:=_root_.id rfl
@[simp] theorem q0E9:V.cells (q00d l)=[(q00d l)] :=_root_.id rfl
@[simp] theorem q0Ea:normA (q00d l)=(q00d l):=_root_.id rfl
@[simp] theorem q0Eb:normC (q00d l)=(q00d l):=_root_.id rfl
@[simp] theorem q0Ec:V.isNil .ptr (q00d l)=some false:=_root_.id rfl
@[simp] theorem q0D0:V.plainR (q00d l)=true:=_root_.id rfl
@[simp] theorem q0D1:V.plainB (q00d l)=true:=_root_.id rfl
@[simp] theorem q0Ix:solN sd (q00d l)=true:=_root_.id rfl
@[simp] theorem q0rf (b d:Nat) (H:Heap):q00w b H d (q00d l)=[] :=by cases d<;>rfl
@[simp] theorem q0Ga (S:St):q01d S (q00d l)=[] :=q0rf _ _ _ _
@[simp] theorem q0Ni (S:St):Eng.freeze S (q00d l)=some (q00d l):=_root_.id rfl
@[simp] theorem q0Iy (S:St):Eng.freezeR S (q00d l)=some (q00d l):=_root_.id rfl
end
section
variable (l:List Item)
@[simp] theorem q0Ed (k:Nat):q00s (q00r l) k=true:=_root_.id rfl
@[simp] theorem q0Iz (k i:Nat):escV k i (q00r l)=(q00r l):=_root_.id rfl
@[simp] theorem q0Gb:outL (q00r l)=(q00r l):=_root_.id rfl
@[simp] theorem q0Gc:V.notL (q00r l)=true:=_root_.id rfl
@[simp] theorem q0Gd:V.outB (q00r l)=true:=_root_.id rfl
@[simp] theorem q0Ge:V.oneB (q00r l)=true:=_root_.id rfl
@[simp] theorem q0Ee:V.cells (q00r l)=[(q00r l)] :=_root_.id rfl
@[simp] theorem q0Ef:normA (q00r l)=(q00r l):=_root_.id rfl
@[simp] theorem q0Eg:normC (q00r l)=(q00r l):=_root_.id rfl
@[simp] theorem q0Eh:V.isNil .ptr (q00r l)=some false:=_root_.id rfl
@[simp] theorem q0D2:V.plainR (q00r l)=true:=_root_.id rfl
@[simp] theorem q0D3:V.plainB (q00r l)=true:=_root_.id rfl
@[simp] theorem q0J0:solN sd (q00r l)=true:=_root_.id rfl
@[simp] theorem q0rg (b d:Nat) (H:Heap):q00w b H d (q00r l)=[] :=by cases d<;>rfl
@[simp] theorem q0Gf (S:St):q01d S (q00r l)=[] :=q0rg _ _ _ _
@[simp] theorem q0Nj (S:St):Eng.freeze S (q00r l)=some (q00r l):=_root_.id rfl
@[simp] theorem q0J1 (S:St):Eng.freezeR S (q00r l)=some (q00r l):=_root_.id rfl
end
section
variable (l:List Item) (fs:List Float)
@[simp] theorem q0Gg (k:Nat):q00s (vMapW l fs) k=true:=_root_.id rfl
@[simp] theorem q0Nk (k i:Nat):escV k i (vMapW l fs)=(vMapW l fs):=_root_.id rfl
@[simp] theorem q0J2:outL (vMapW l fs)=(vMapW l fs):=_root_.id rfl
@[simp] theorem q0J3:V.notL (vMapW l fs)=true:=_root_.id rfl
@[simp] theorem q0J4:V.outB (vMapW l fs)=true:=_root_.id rfl
@[simp] theorem q0J5:V.oneB (vMapW l fs)=true:=_root_.id rfl
@[simp] theorem q0Gh:V.cells (vMapW l fs)=[(vMapW l fs)] :=_root_.id rfl
@[simp] theorem q0Gi:normA (vMapW l fs)=(vMapW l fs):=_root_.id rfl
@[simp] theorem q0Gj:normC (vMapW l fs)=(vMapW l fs):=_root_.id rfl
@[simp] theorem q0Gk:V.isNil .ptr (vMapW l fs)=some false:=_root_.id rfl
@[simp] theorem q0Ei:V.plainR (vMapW l fs)=true:=_root_.id rfl
@[simp] theorem q0Ej:V.plainB (vMapW l fs)=true:=_root_.id rfl
@[simp] theorem q0Nl:solN sd (vMapW l fs)=true:=_root_.id rfl
@[simp] theorem q0v6 (b d:Nat) (H:Heap):q00w b H d (vMapW l fs)=[] :=by cases d<;>rfl
@[simp] theorem q0J6 (S:St):q01d S (vMapW l fs)=[] :=q0v6 _ _ _ _ _
@[simp] theorem q0R2 (S:St):Eng.freeze S (vMapW l fs)=some (vMapW l fs):=_root_.id rfl
@[simp] theorem q0Nm (S:St):Eng.freezeR S (vMapW l fs)=some (vMapW l fs):=_root_.id rfl
end
section
variable (j:Job)
@[simp] theorem q0Ek (k:Nat):q00s (q00o j) k=true:=_root_.id rfl
@[simp] theorem q0J7 (k i:Nat):escV k i (q00o j)=(q00o j):=_root_.id rfl
@[simp] theorem q0Gl:outL (q00o j)=(q00o j):=_root_.id rfl
@[simp] theorem q0Gm:V.notL (q00o j)=true:=_root_.id rfl
@[simp] theorem q0Gn:V.outB (q00o j)=true:=_root_.id rfl
@[simp] theorem q0Go:V.oneB (q00o j)=true:=_root_.id rfl
@[simp] theorem q0El:V.cells (q00o j)=[(q00o j)] :=_root_.id rfl
@[simp] theorem q0Em:normA (q00o j)=(q00o j):=_root_.id rfl
@[simp] theorem q0En:normC (q00o j)=(q00o j):=_root_.id rfl
@[simp] theorem q0Eo:V.isNil .ptr (q00o j)=some false:=_root_.id rfl
@[simp] theorem q0D4:V.plainR (q00o j)=true:=_root_.id rfl
@[simp] theorem q0D5:V.plainB (q00o j)=true:=_root_.id rfl
@[simp] theorem q0J8:solN sd (q00o j)=true:=_root_.id rfl
@[simp] theorem q0rh (b d:Nat) (H:Heap):q00w b H d (q00o j)=[] :=by cases d<;>rfl
@[simp] theorem q0Gp (S:St):q01d S (q00o j)=[] :=q0rh _ _ _ _
@[simp] theorem q0Nn (S:St):Eng.freeze S (q00o j)=some (q00o j):=_root_.id rfl
@[simp] theorem q0J9 (S:St):Eng.freezeR S (q00o j)=some (q00o j):=_root_.id rfl
end
section
variable (j:Job)
@[simp] theorem q0R3 (k:Nat):q00s (vW j) k=true:=_root_.id rfl
@[simp] theorem q0Ti (k i:Nat):escV k i (vW j)=(vW j):=_root_.id rfl
@[simp] theorem q0Sv:outL (vW j)=(vW j):=_root_.id rfl
@[simp] theorem q0Sw:V.notL (vW j)=true:=_root_.id rfl
@[simp] theorem q0Sx:V.outB (vW j)=true:=_root_.id rfl
@[simp] theorem q0Sy:V.oneB (vW j)=true:=_root_.id rfl
@[simp] theorem q0R4:V.cells (vW j)=[(vW j)] :=_root_.id rfl
@[simp] theorem q0R5:normA (vW j)=(vW j):=_root_.id rfl
@[simp] theorem q0R6:normC (vW j)=(vW j):=_root_.id rfl
@[simp] theorem q0R7:V.isNil .ptr (vW j)=some false:=_root_.id rfl
@[simp] theorem q0No:V.plainR (vW j)=true:=_root_.id rfl
@[simp] theorem q0Np:V.plainB (vW j)=true:=_root_.id rfl
@[simp] theorem q0Tj:solN sd (vW j)=true:=_root_.id rfl
@[simp] theorem q0Ep (b d:Nat) (H:Heap):q00w b H d (vW j)=[] :=by cases d<;>rfl
@[simp] theorem q0Sz (S:St):q01d S (vW j)=[] :=q0Ep _ _ _ _
@[simp] theorem vW_fz (S:St):Eng.freeze S (vW j)=some (vW j):=_root_.id rfl
@[simp] theorem q0Tk (S:St):Eng.freezeR S (vW j)=some (vW j):=_root_.id rfl
end
def q02g (l:List Item) (n:Int):Option Item:=if 0<=n/\n<l.length then some (rd l n) else none
theorem q06n (l:List Item) (n:Nat):q02g l n=l[n]? :=by
 unfold q02g
 by_cases h:n<l.length
 ·rw [if_pos ⟨by omega,by omega⟩,Zl h,rd_of (Zl h)]
 ·rw [if_neg (by omega),ZF (by omega)]
theorem q0v7 (x:Item) (H:Heap):clD EE (.p (.fn 292)) [vItem x] H=some (vB (q04c x),none):=by
 rw [q002 _ _ _ _ _ _ (noP _) fn292]
 unfold q04c
 by_cases h:x.k=2<;>simp [zEc,h]
theorem q021 (l:List Item) (H:Heap):clD EE (.p (.fn 138)) [q00d l] H=some (vI l.length,none):=by
 rw [q002 _ _ _ _ _ _ (noP _) fn138]
 simp [q00d,zEc]
theorem q07s (l:List Item) (n:Int) (H:Heap):clD EE (.p (.fn 218)) [q00d l,vI n] H=some (.tup [match q02g l n with|some x=>vItem x|none=> .agg [vI 0,vI 0,vI 0,vI 0,vI 0,vI 0,vI 0],vB (q02g l n).isSome],none):=by
 rw [q002 _ _ _ _ _ _ (noP _) fn218]
 have hl:=fun H=>q021 l H
 unfold q02g
 simp only [q00d] at hl⊢
 by_cases h1:n<0
 ·simp [zEc,h1,show¬0<=n by omega]
 ·by_cases h2:(l.length:Int)<=n
  ·simp [zEc,h1,h2,hl,show¬n<l.length by omega]
  ·have hx:=q026 l n (by omega) (by omega)
   have hix:=fun H k=>q024 H q004 (k:=k) (s:=7) (by omega) hx rfl
   simp [zEc,h1,h2,hl,show 0<=n/\n<l.length by omega,hix,q004]
theorem q0yw (l:List Item) (n:Nat) (H:Heap):clD EE (.p (.fn 257)) [q00d l,vI n] H=some (vB (stayB l n),none):=by
 rw [q002 _ _ _ _ _ _ (noP _) fn257]
 have h:=fun H=>q07s l n H
 rw [q06n] at h
 unfold stayB
 cases hx:l[n]? with
 |none=>
  simp only [hx] at h
  simp only [q00d] at h⊢
  simp [zEc,h]
 |some x=>
  simp only [hx] at h
  have lo:=fun H=>q0v7 x H
  simp only [q00d] at h⊢
  simp [zEc,h,lo]
theorem q0Ch (l:List Item) (hv:V) (p:Nat->Bool) (hl:l.length<=1000000) (H:Heap) (hH: ∀n:Nat,n<=l.length->clD EE hv [vI n] H=some (vB (p n),none)): ∀(k n:Nat),n<=l.length+1->l.length+1-n=k->
  evD EE q0W6 ⟨[(0,q00d l),(2,hv),(7,vI n)],[],H,H.length,[]⟩=some (if seekP p k n= -1 then (.exit 0,⟨[(0,q00d l),(2,hv),(7,vI (l.length+1)),(12,vB false)],[],H,H.length,[]⟩) else (.ret,⟨[(6,vI (seekP p k n))],[],H,H.length,[]⟩)):=by
 intro k
 induction k with
 |zero=>
  intro n h1 h2
  have e:n=l.length+1:=by omega
  subst e
  have hle:=fun H=>q021 l H
  unfold q0W6
  rw [q003]
  simp only [q00d] at hle⊢
  simp [seekP,hle,show¬(l.length:Int)+1<=l.length by omega]
 |succ k ih=>
  intro n h1 h2
  have hle:=fun H=>q021 l H
  have c:(n:Int)<=l.length:=by omega
  have w:IntKind.i64.wrap ((n:Int)+1)=((n+1:Nat):Int):=w64 (by omega) (by omega)
  have hp:=hH n (by omega)
  simp only [seekP]
  by_cases hb:p n=true
  ·rw [hb] at hp
   have hne: ¬(n:Int)= -1:=by omega
   simp only [if_pos hb,if_neg hne]
   unfold q0W6
   rw [q003]
   simp only [q00d] at hle⊢
   simp [hle,c,hp]
  ·have hb':p n=false:=by simpa using hb
   rw [hb'] at hp
   have key:=ih (n+1) (by omega) (by omega)
   simp only [if_neg hb]
   rw [<-key]
   conv=>lhs;unfold q0W6
   rw [q003]
   simp only [q00d] at hle⊢
   simp [hle,c,hp,w]
   rfl
theorem q0hc (l:List Item) (n:Nat) (hv:V) (p:Nat->Bool) (hl:l.length<=1000000) (H:Heap) (hH: ∀n:Nat,n<=l.length->clD EE hv [vI n] H=some (vB (p n),none)) (h1:n<=l.length+1) (ho:hv.outB=true) (hn:normA hv=hv):
  clD EE (.p (.fn 256)) [q00d l,vI n,hv] H=some (vI (seekP p (l.length+1-n) n),none):=by
 rw [q002 _ _ _ _ _ _ (noP _) fn256]
 have k:=q0Ch l hv p hl H hH _ n h1 rfl
 by_cases h:seekP p (l.length+1-n) n= -1
 ·rw [if_pos h] at k
  simp only [q00d] at k⊢
  simp [zEa,k,h]
 ·rw [if_neg h] at k
  simp only [q00d] at k⊢
  simp [zEa,k]
theorem q0Ci (l:List Item) (n:Int) (hl:l.length<=1000000) (H:Heap):clD EE (.p (.fn 161)) [q00d l,vI n] H=some (vI (trimF l n),none):=by
 rw [q002 _ _ _ _ _ _ (noP _) fn161]
 have hle:=fun H=>q021 l H
 have hk:min (max n 0) (l.length:Int)=(putN l n:Int):=by unfold putN;omega
 have hp:=q08v l n
 have s:=fun H=>q0hc l (putN l n) (.fn (.func 257) [q00d l] []) (stayB l) hl H (fun m _=>by rw [q02m];exact q0yw l m H) (by omega) rfl rfl
 have e:=q0iv l _ (putN l n) hp rfl
 rw [e] at s
 unfold trimF
 simp only [q00d] at hle s⊢
 simp [zEa,hle,hk,s]
section
variable (l:List Item) (fs:List Float) (hl:l.length<=1000000)
theorem q0e3 (n:Int) (H:Heap):clD EE (.p (.fn 137)) [vMapW l fs,vI n] H=some (.tup [vI (putN l n),vB true],none):=by
 rw [q002 _ _ _ _ _ _ (noP _) fn137]
 have hk:min (max n 0) (l.length:Int)=(putN l n:Int):=by unfold putN;omega
 simp only [vMapW]
 simp [zEc,hk]
theorem q0e4 (n:Int) (H:Heap):clD EE (.p (.fn 264)) [vMapW l fs,vI n] H=some (vI (q01a (l.take (putN l n))),none):=by
 rw [q002 _ _ _ _ _ _ (noP _) fn264]
 have hp:=fun H=>q0e3 l fs n H
 have hn:=q08v l n
 have hx:=q04e q01a l (l.length+1) (putN l n) (by omega)
 have hix:=fun H k=>q00c H encI (k:=k) (s:=1) hx rfl
 simp only [vMapW] at hp⊢
 simp [zEc,hp,hix,encI]
theorem q09v (n:Int) (H:Heap):clD EE (.p (.fn 58)) [vMapW l fs,vI n] H=some (vC (q00n fs (l.take (putN l n))),none):=by
 rw [q002 _ _ _ _ _ _ (noP _) fn58]
 have hp:=fun H=>q0e3 l fs n H
 have hn:=q08v l n
 have hx:=q04e (q00n fs) l (l.length+1) (putN l n) (by omega)
 have hix:=fun H k=>q00c H encC3 (k:=k) (s:=3) hx rfl
 simp only [vMapW] at hp⊢
 simp [zEc,hp,hix,encC3]
theorem q0v8 (n:Int) (H:Heap):clD EE (.p (.fn 263)) [vMapW l fs,vI n] H=some (vC (dueP fs (l.take (putN l n))),none):=by
 rw [q002 _ _ _ _ _ _ (noP _) fn263]
 have hp:=fun H=>q0e3 l fs n H
 have hn:=q08v l n
 have hx:=q04e (dueP fs) l (l.length+1) (putN l n) (by omega)
 have hix:=fun H k=>q00c H encC3 (k:=k) (s:=3) hx rfl
 simp only [vMapW] at hp⊢
 simp [zEc,hp,hix,encC3]
end
structure okW (j:Job):Prop where
 n1:j.items.length<=1000000
 n2:j.notes.length<=1000000
 n3:j.floats.length<=100000
 lines: ∀n∈j.notes,n.lines.length<=1000000
 cols:I64 j.g.cols/\j.g.cols<=1000
 refs:q01a j.items<=j.notes.length
theorem q03o {j:Job} (w:okW j) (n:Int):q00z j n<=j.notes.length:=by
 have h:=w.refs
 unfold q00z q01a at*
 have:=q0d8 5 j.items (putN j.items n)
 omega
theorem q0bq (j:Job) (n:Int):0<=q00z j n:=(q0iw _).1
section
variable (j:Job) (w:okW j)
theorem q07d (H:Heap):clD EE (.p (.fn 84)) [vW j] H=some (vJob j,none):=by
 rw [q002 _ _ _ _ _ _ (noP _) fn84]
 simp only [vW,cJobW,cGeom,Zd,Zf]
 simp [zEc]
include w in
theorem q0ri (s:Stt) (H:Heap):clD EE (.p (.fn 196)) [vW j,vStt s] H=some (vB (q03q j s),none):=by
 rw [q002 _ _ _ _ _ _ (noP _) fn196]
 have hb:=fun H=>q0e4 j.items j.floats s.at_ H
 have hle:=q03o w s.at_
 have hge:=q0bq j s.at_
 change∀H,clD EE _ _ H=some (vI (q00z j s.at_),none) at hb
 have w1:IntKind.i64.wrap (q00z j s.at_-1)=q00z j s.at_-1:=w64 (by have:=w.n2;omega) (by have:=w.n2;omega)
 unfold q03q
 generalize q00z j s.at_=b at*
 simp only [vW,q00o,cJobW,cGeom,Zd,Zf]
 by_cases h0:s.line=0
 ·simp [zEc,hb,h0]
 ·by_cases h1:s.note=b-1
  ·by_cases h2:s.note<0
   ·simp [zEc,hb,h0,w1,h1,show b-1<0 by omega]
   ·by_cases h3:s.line<1
    ·simp [zEc,hb,h0,w1,h1,show¬b-1<0 by omega,h3]
    ·have hx:=q026 j.notes s.note (by omega) (by omega)
     have hix:=fun H k=>q024 H q00e (k:=k) (s:=2) (by omega) hx rfl
     have hl:=w.lines _ (Zp hx)
     have hm:=fun H=>q0E3 (rd j.notes s.note).lines (rd j.notes s.note).pens s.line H (by omega)
     rw [h1] at hix hm hl⊢
     simp only [q00e] at hix
     simp only [note,sli] at hm
     by_cases h4:s.line<((rd j.notes (b-1)).lines.length:Int)
     ·simp [zEc,hb,h0,w1,h1,show¬b-1<0 by omega,h3,hix,h4,hm]
     ·simp [zEc,hb,h0,w1,h1,show¬b-1<0 by omega,h3,hix,h4]
  ·simp [zEc,hb,h0,w1,h1]
include w in
theorem q03r (s:Stt) (H:Heap):clD EE (.p (.fn 89)) [vW j,vStt s] H=some (vB (q01g j s),none):=by
 rw [q002 _ _ _ _ _ _ (noP _) fn89]
 have hl:=fun H=>q021 j.items H
 have ht:=fun H=>q0Ci j.items s.at_ w.n1 H
 have hc:=fun H=>q0ri j w s H
 have ha:=fun H=>q09v j.items j.floats s.at_ H
 change∀H,clD EE _ _ H=some (vC (q01i j s.at_),none) at ha
 have i1:=fun H=>in_ev zeroC s.h H
 have i2:=fun H=>in_ev s.h (q01i j s.at_) H
 unfold q01g
 simp only [vW,q00o,cJobW,cGeom,Zd,Zf,zeroC] at hc i1⊢
 by_cases h1:s.at_<0
 ·simp [zEc,h1]
 ·by_cases h2:(j.items.length:Int)<s.at_
  ·simp [zEc,h1,hl,h2]
  ·by_cases h3:(trimF j.items s.at_:Int)=s.at_
   ·by_cases h4:s.col<0
    ·simp [zEc,h1,hl,h2,ht,h3,h4]
    ·by_cases h5:j.g.cols<s.col
     ·simp [zEc,h1,hl,h2,ht,h3,h4,h5]
     ·cases c1:q03q j s with
      |false=>simp [zEc,h1,hl,h2,ht,h3,h4,h5,hc,c1]
      |true=>
       cases c2:inC ⟨0,0,0⟩ s.h with
       |false=>simp [zEc,h1,hl,h2,ht,h3,h4,h5,hc,c1,i1,c2]
       |true=>simp [zEc,h1,hl,h2,ht,h3,h4,h5,hc,c1,i1,c2,ha,i2]
   ·simp [zEc,h1,hl,h2,ht,h3]
end
section
variable (j:Job) (w:okW j)
include w in
theorem q07t (s:Stt) (to:Int) (H:Heap):clD EE (.p (.fn 167)) [vW j,vStt s,vI to] H=some (vSpot (spotS j s to),none):=by
 rw [q002 _ _ _ _ _ _ (noP _) fn167]
 have hr:=fun H=>q03r j w s H
 have b1:=fun H=>q0e4 j.items j.floats to H
 have b2:=fun H=>q0e4 j.items j.floats s.at_ H
 change∀H,clD EE _ _ H=some (vI (q00z j to),none) at b1
 change∀H,clD EE _ _ H=some (vI (q00z j s.at_),none) at b2
 unfold spotS
 cases c:q01g j s with
 |false=>
  rw [c] at hr
  simp [zEc,hr]
 |true=>
  rw [c] at hr
  simp only [vW,q00o,cJobW,cGeom,Zd,Zf] at hr⊢
  simp [zEc,hr,b1,b2]
include w in
theorem q0v9 (s:Stt) (H:Heap):clD EE (.p (.fn 212)) [vW j,vStt s] H=some (vI (highS j s),none):=by
 rw [q002 _ _ _ _ _ _ (noP _) fn212]
 have hr:=fun H=>q03r j w s H
 unfold highS
 cases c:q01g j s with
 |false=>
  rw [c] at hr
  simp [zEc,hr]
 |true=>
  rw [c] at hr
  simp only [vW,q00o,cJobW,cGeom,Zd,Zf] at hr⊢
  by_cases h:s.col<j.g.cols
  ·simp [zEc,hr,h]
  ·simp [zEc,hr,h]
include w in
theorem q12j (s:Stt) (H:Heap):clD EE (.p (.fn 104)) [vW j,vStt s] H=some (vC (q120 j s),none):=by
 rw [q002 _ _ _ _ _ _ (noP _) fn104]
 have hr:=fun H=>q03r j w s H
 have ha:=fun H=>q09v j.items j.floats s.at_ H
 change∀H,clD EE _ _ H=some (vC (q01i j s.at_),none) at ha
 have re:=fun H=>q12s s.h (q01i j s.at_) H
 unfold q120
 cases c:q01g j s with
 |false=>
  rw [c] at hr
  simp [zEc,hr,zeroC]
 |true=>
  rw [c] at hr
  simp only [vW,q00o,cJobW,cGeom,Zd,Zf] at hr⊢
  simp [zEc,hr,ha,re]
include w in
theorem q0Zz (H:Heap):clD EE (.p (.fn 81)) [vW j] H=some (vStt (q0Y3 j),none):=by
 rw [q002 _ _ _ _ _ _ (noP _) fn81]
 have ht:=fun H=>q0Ci j.items 0 w.n1 H
 have hp: ∀H,clD EE (.p (.fn 229)) [vW j] H=some (q00o j,none):=by
  intro H
  rw [q002 _ _ _ _ _ _ (noP _) fn229]
  simp only [vW,cJobW,cGeom,Zd,Zf]
  simp [zEc]
 have hq: ∀H,clD EE (.p (.fn 230)) [q00o j] H=some (q00d j.items,none):=by
  intro H
  rw [q002 _ _ _ _ _ _ (noP _) fn230]
  simp only [q00o]
  simp [zEc]
 have hL: ∀H,clD EE (.p (.fn 115)) [vW j] H=some (q00d j.items,none):=by
  intro H
  rw [q002 _ _ _ _ _ _ (noP _) fn115]
  simp [zEc,hp,hq]
 unfold q0Y3
 simp [zEc,hL,ht,zeroC]
include w in
theorem q0j3 (s:Stt) (H:Heap):clD EE (.p (.fn 64)) [vW j,vStt s] H=some (vB (doneS j s),none):=by
 rw [q002 _ _ _ _ _ _ (noP _) fn64]
 have hr:=fun H=>q03r j w s H
 have hl:=fun H=>q021 j.items H
 obtain ⟨sa,sc,sn,sl,⟨x,y,z⟩⟩:=s
 have e:(decide (x=(allS j).a)&&(decide (y=(allS j).b)&&decide (z=(allS j).c)))=decide (C3.mk x y z=allS j):=by
  generalize allS j=q
  obtain ⟨a,b,c⟩:=q
  simp [Bool.decide_and]
 unfold doneS
 simp only [vW,q00o,cJobW,cGeom,Zd,Zf] at hr⊢
 cases c:q01g j ⟨sa,sc,sn,sl,⟨x,y,z⟩⟩ with
 |false=>
  rw [c] at hr
  simp [zEc,hr]
 |true=>
  rw [c] at hr
  by_cases h1:sa=j.items.length
  ·subst h1
   by_cases h2:sl=0
   ·subst h2
    by_cases h3:sn=j.notes.length
    ·subst h3
     simp [zEc,hr,hl,e]
    ·simp [zEc,hr,hl,h3]
   ·simp [zEc,hr,hl,h2]
  ·simp [zEc,hr,hl,h1]
include w in
theorem q100 (s:Stt) (c:Colm) (c1:c.notes.length<=1000000) (c2:c.top.length<=9223372036854775807) (c3:c.bot.length<=9223372036854775807) (H:Heap):clD EE (.p (.fn 83)) [vW j,vStt s,vColm c] H=some (vStt (nextS j s c),none):=by
 rw [q002 _ _ _ _ _ _ (noP _) fn83]
 have hr:=fun H=>q03r j w s H
 have hs:=fun H=>q07t j w s c.to H
 have ht:=fun H=>q0Ci j.items c.to w.n1 H
 have hn:=fun H=>q0Zh j.notes (spotS j s c.to) c.notes w.n2 c1 H
 have o1:=fun H=>q0Xn j.floats c.top H w.n3 c2
 have o2:=fun H=>q0Xn j.floats c.bot H w.n3 c3
 have a1:=fun x y H=>q0Bm x y H
 have k1:IntKind.i64.wrap 1=1:=by decide
 have k2:IntKind.i64.wrap 2=2:=by decide
 unfold nextS
 cases cr:q01g j s with
 |false=>
  rw [cr] at hr
  simp [zEc,hr,zeroS]
 |true=>
  rw [cr] at hr
  have hcol:0<=s.col/\s.col<=j.g.cols:=by
   unfold q01g at cr
   split at cr
   ·cases cr
   ·rename_i h;omega
  have hw:=w.cols
  have w1:IntKind.i64.wrap (s.col+1)=s.col+1:=w64 (by omega) (by omega)
  generalize spotS j s c.to=sp at*
  generalize nextF j.notes sp c.notes=nx at*
  simp only [vW,q00o,cJobW,cGeom,Zd,Zf] at hr hs⊢
  by_cases h1:c.k=1
  ·simp [zEc,hr,hs,ht,hn,w1,h1,q0Zb,q003,ixsI,ixsV,k1,k2,o1,o2,a1]
  ·simp [zEc,hr,hs,ht,hn,w1,h1,q0Zb,q003,ixsI,ixsV,k1,k2,o1,o2,a1]
include w in
theorem q0Z3 (s:Stt) (c:Colm) (c1:c.notes.length<=1000000) (c2:c.top.length<=1000000) (c3:c.bot.length<=1000000) (H:Heap):clD EE (.p (.fn 83)) [vW j,vStt s,vColm c] H=some (vStt (nextS j s c),none):=q100 j w s c c1 (by omega) (by omega) H
end
end Go.EnvOf
namespace Go.Eng
open Go
@[simp] theorem q0T0 (v:V):zR (some (v,none))=zV [] v:=rfl
@[simp] theorem q0T1 (v:V) (H:Heap):zR (some (v,some (H,[])))=zV H v:=rfl
@[simp] theorem q0Ja:zR none=none:=rfl
@[simp] theorem q0Tl (H:Heap) (vs:List V):zV H (.tup vs)=(allO (solV H sd) vs).map .tup:=rfl
@[simp] theorem zV_p (H:Heap) (x:PV):zV H (.p x)=some (.p x):=rfl
@[simp] theorem q0T2 (H:Heap):zV H .nils=some (.p (.sl [])):=rfl
@[simp] theorem q0Eq (H:Heap) (a b c d:Nat):zV H (.row a b c d)=(frz 0 H deep (.row a b c d)).map .p:=rfl
@[simp] theorem q0Tm (H:Heap) (id off:Nat):zV H (.ptr id off)=(Eng.boxAt H id).bind fun cs=>(allO (solV H 5) cs).map fun cs'=> .eptr cs' off:=rfl
@[simp] theorem q0Tn (H:Heap) (d:Nat) (x:PV):solV H d (.p x)=some (.p x):=by cases d<;>rfl
@[simp] theorem q0Nq (H:Heap) (d:Nat):solV H d .nils=some (.p (.sl [])):=by cases d<;>rfl
@[simp] theorem q0R8 (H:Heap) (d a b c e:Nat):solV H d (.row a b c e)=(frz 0 H deep (.row a b c e)).map .p:=by cases d<;>rfl
@[simp] theorem q0Nr (H:Heap) (id off:Nat):solV H sd (.ptr id off)=(Eng.boxAt H id).bind fun cs=>(allO (solV H 5) cs).map fun cs'=> .eptr cs' off:=rfl
@[simp] theorem q0Jb (H:Heap) (id off:Nat):solV H 6 (.ptr id off)=(Eng.boxAt H id).bind fun cs=>(allO (solV H 5) cs).map fun cs'=> .eptr cs' off:=rfl
@[simp] theorem q0Ns (H:Heap) (id off:Nat):solV H 5 (.ptr id off)=(Eng.boxAt H id).bind fun cs=>(allO (solV H 4) cs).map fun cs'=> .eptr cs' off:=rfl
@[simp] theorem q0Jc (a b:Nat):V.plainB (.ptr a b)=false:=rfl
@[simp] theorem q0Jd (a b:Nat):q06z (.ptr a b)=false:=rfl
theorem q04f {H:Heap} {id n s:Nat} {es:List (List PV)} (h:Eng.rowAt H id=some (s,upV es)) (hn:es.length=n):frz 0 H deep (.row id n 0 n)=some (.sl es):=by
 unfold deep
 rw [q056,if_pos (Zj _),h,q09c,if_pos hn]
 simp [<-hn]
end Go.Eng
namespace Go.EnvOf
open Go Go.Eng
set_option maxRecDepth 100000
@[simp] theorem q0D6 (l:List Item):q06z (q00r l)=true:=rfl
@[simp] theorem q0Nt (j:Job):q06z (vW j)=true:=rfl
@[simp] theorem q0Gq (H:Heap) (l:List Item):solV H 5 (q00d l)=some (q00d l):=rfl
@[simp] theorem q0Gr (H:Heap) (j:Job):solV H 5 (q00o j)=some (q00o j):=rfl
@[simp] theorem q0Er (H:Heap) (l:List Item):solV H 4 (q00d l)=some (q00d l):=rfl
@[simp] theorem q0Es (H:Heap) (l:List Item):solV H 4 (q00r l)=some (q00r l):=rfl
@[simp] theorem q0Gs (H:Heap) (l:List Item) (fs:List Float):solV H 4 (vMapW l fs)=some (vMapW l fs):=rfl
theorem q0fk {α:Type} (f:FuncId) (s:Nat) (z:List V) (enc:α->List PV) (hs: ∀x,(enc x).length=s) (hf:EE.fns f=some (q05m s z)) (l:List α) (hm:l.length<most) (hp:EE.prims f=none:=by exact noP _):
  zR (clD EE (.p (.fn f)) [.p (.sl (l.map enc))] [])=some (.p (.sl (l.map enc))):=by
 rw [q05n f s z [] enc hs hf l hm hp]
 cases l with
 |nil=>rfl
 |cons x r=>
  have h:Eng.rowAt ([]++[DObj.row s (upV ((x::r).map enc))]) 0=some (s,upV ((x::r).map enc)):=rfl
  show zV _ (.row 0 (x::r).length 0 (x::r).length)=_
  rw [q0Eq,q04f h (by simp)]
  rfl
theorem q05o (l:List Item) (h:l.length<=1000000):zR (clD EE (.p (.fn 124)) [q006 l] [])=some (q006 l):=q0fk _ 7 _ q004 (fun _=>rfl) fn124 l (by unfold most;omega)
theorem q0jx (l:List Float) (h:l.length<=1000000):zR (clD EE (.p (.fn 125)) [q005 l] [])=some (q005 l):=q0fk _ 3 _ q009 (fun _=>rfl) fn125 l (by unfold most;omega)
theorem q0rj (l:List Int) (h:l.length<=1000000):zR (clD EE (.p (.fn 126)) [sli l] [])=some (sli l):=q0fk _ 1 _ encI (fun _=>rfl) fn126 l (by unfold most;omega)
theorem q0ob (l:List Int) (h:l.length<=1000000):zR (clD EE (.p (.fn 127)) [sli l] [])=some (sli l):=q0fk _ 1 _ encI (fun _=>rfl) fn127 l (by unfold most;omega)
theorem q0rk (l:List Item) (h:l.length<=1000000):zR (clD EE (.p (.fn 56)) [q006 l] [])=some (q00d l):=by
 rw [q002 _ _ _ _ _ _ (noP _) fn56]
 have c:=q05o l h
 simp [zEc,solN,sd,c,allO,q00d]
theorem q0yx (f:FuncId) (x y z:Int) (p q:Nat) (H:Heap) (hf:clD EE (.p (.fn f)) [vI x,vI y] H=some (resT (some z),none)) (h1:Eng.boxAt H p=some [.p (.fn f)]) (h2:Eng.boxAt H q=some [vB true]):
  clD EE (.p (.fn 322)) [vI x,vI y,.ptr p 0,.ptr q 0] H=some (vI z,some (H,[q])):=by
 rw [q002 _ _ _ _ _ _ (noP _) fn322]
 have hlt:=q02y h2
 have e:H.set q (.box [vB true])=H:=by
  unfold Eng.boxAt at h2
  split at h2
  ·rename_i cs h3
   cases h2
   obtain ⟨h4,h5⟩:=Za.1 h3
   rw [<-h5];exact List.set_getElem_self h4
  ·cases h2
 have a1:subs [V.p (PV.fn f)] 0 1=some [V.p (PV.fn f)]:=rfl
 have a2:subs [vB true] 0 1=some [vB true]:=rfl
 have a3:q001 [vB true] 0 [vB true]=some [vB true]:=rfl
 simp only [resT] at hf
 simp [zEa,h1,h2,a1,a2,a3,hf,e,hlt]
theorem q0pr (f:FuncId) (a b c:Tot) (H:Heap) (hf: ∀(x y z:Int) (H:Heap),(x,y,z)∈[(a.nat,b.nat,c.nat),(a.s0,b.s0,c.s0),(a.s1,b.s1,c.s1),(a.s2,b.s2,c.s2),(a.s3,b.s3,c.s3),(a.shr,b.shr,c.shr)]->clD EE (.p (.fn f)) [vI x,vI y] H=some (resT (some z),none)):
  clD EE (.p (.fn 240)) [vTot a,vTot b,.p (.fn f)] H=some (.tup [vTot c,vB true],none):=by
 rw [q002 _ _ _ _ _ _ (noP _) fn240]
 have k: ∀x y z,(x,y,z)∈[(a.nat,b.nat,c.nat),(a.s0,b.s0,c.s0),(a.s1,b.s1,c.s1),(a.s2,b.s2,c.s2),(a.s3,b.s3,c.s3),(a.shr,b.shr,c.shr)]->clD EE (.fn (.func 322) [] [.ptr H.length 0,.ptr (H.length+1) 0]) [vI x,vI y] (H++[.box [.p (.fn f)],.box [vB true]])=some (vI z,some (H++[.box [.p (.fn f)],.box [vB true]],[H.length+1])):=by
  intro x y z hm
  rw [q02m]
  exact q0yx f x y z H.length (H.length+1) _ (hf x y z _ hm) (by simp) (by simp)
 have k0:=k a.nat b.nat c.nat (by simp)
 have k1:=k a.s0 b.s0 c.s0 (by simp)
 have k2:=k a.s1 b.s1 c.s1 (by simp)
 have k3:=k a.s2 b.s2 c.s2 (by simp)
 have k4:=k a.s3 b.s3 c.s3 (by simp)
 have k5:=k a.shr b.shr c.shr (by simp)
 have w1:IntKind.i64.wrap 1=1:=by decide
 have w2:IntKind.i64.wrap 2=2:=by decide
 have w3:IntKind.i64.wrap 3=3:=by decide
 have w4:IntKind.i64.wrap 4=4:=by decide
 have ad:addD H.length (H.length+1) []=[]:=by unfold addD;rw [if_neg (by omega)]
 simp [zEc,k0,k1,k2,k3,k4,k5,q0gd,q003,ixaV,q007,w1,w2,w3,w4,ad]
structure inT64 (t:Tot):Prop where
 nat:I64 t.nat
 s0:I64 t.s0
 s1:I64 t.s1
 s2:I64 t.s2
 s3:I64 t.s3
 shr:I64 t.shr
theorem q04g {m:Int} {t:Tot} (h:inT m t) (hm:m<=9223372036854775807):inT64 t:=by
 obtain ⟨⟨a1,a2⟩,⟨a3,a4⟩,⟨a5,a6⟩,⟨a7,a8⟩,⟨a9,b1⟩,⟨b2,b3⟩⟩:=h
 constructor<;>constructor<;>omega
theorem q0Cj {a b:Int} (h:I64 (a+b)):addF a b=some (a+b):=by unfold addF;rw [if_pos h]
theorem q0Ck {a b:Int} (h:I64 (a-b)):subF a b=some (a-b):=by unfold subF;rw [if_pos h]
theorem q0va (a b:Tot) (ha:inT64 a) (hb:inT64 b) (hc:inT64 (addT a b)) (H:Heap):clD EE (.p (.fn 135)) [vTot a,vTot b] H=some (.tup [vTot (addT a b),vB true],none):=by
 rw [q002 _ _ _ _ _ _ (noP _) fn135]
 have one: ∀(x y:Int) (H:Heap),I64 x->I64 y->I64 (x+y)->clD EE (.p (.fn 241)) [vI x,vI y] H=some (resT (some (x+y)),none):=by
  intro x y H hx hy hz
  rw [q0u8 x y H hx hy,q0Cj hz]
 have h:=fun H=>q0pr 241 a b (addT a b) H (fun x y z H hm=>by
  simp only [ZI,Prod.mk.injEq,List.not_mem_nil,or_false] at hm
  rcases hm with ⟨rfl,rfl,rfl⟩|⟨rfl,rfl,rfl⟩|⟨rfl,rfl,rfl⟩|⟨rfl,rfl,rfl⟩|⟨rfl,rfl,rfl⟩|⟨rfl,rfl,rfl⟩
  ·exact one _ _ _ ha.nat hb.nat hc.nat
  ·exact one _ _ _ ha.s0 hb.s0 hc.s0
  ·exact one _ _ _ ha.s1 hb.s1 hc.s1
  ·exact one _ _ _ ha.s2 hb.s2 hc.s2
  ·exact one _ _ _ ha.s3 hb.s3 hc.s3
  ·exact one _ _ _ ha.shr hb.shr hc.shr)
 generalize addT a b=c at*
 simp [zEc,h]
theorem q0vb (h:Int) (H:Heap):clD EE (.p (.fn 237)) [vI h] H=some (vTot ⟨h,0,0,0,0,0⟩,none):=by
 rw [q002 _ _ _ _ _ _ (noP _) fn237]
 simp [zEc]
theorem q0rl (h str ord shr:Int) (H:Heap):clD EE (.p (.fn 238)) [vI h,vI str,vI ord,vI shr] H=some (vTot (glueT h str ord shr),none):=by
 rw [q002 _ _ _ _ _ _ (noP _) fn238]
 unfold glueT
 by_cases c0:ord=0
 ·simp [zEc,c0,ixaV,q007]
 ·by_cases c1:ord=1
  ·simp [zEc,c1,ixaV,q007]
  ·by_cases c2:ord=2
   ·simp [zEc,c2,ixaV,q007]
   ·by_cases c3:ord=3
    ·simp [zEc,c3,ixaV,q007]
    ·by_cases c4:ord<0
     ·simp [zEc,c0,c1,c2,c3,show¬0<=ord by omega]
     ·simp [zEc,c0,c1,c2,c3,show 0<=ord by omega,show¬ord<4 by omega]
theorem q0mx (x:Item) (H:Heap):clD EE (.p (.fn 133)) [vItem x] H=some (vTot (totI x),none):=by
 rw [q002 _ _ _ _ _ _ (noP _) fn133]
 have b:=fun H=>q0vb x.h H
 have g:=fun H=>q0rl x.h x.str x.ord x.shr H
 unfold totI
 by_cases k1:x.k=1
 ·simp [zEc,k1,b]
 ·by_cases k2:x.k=2
  ·simp only [k2,if_neg (show¬(2:Int)=1 by decide),if_true]
   generalize glueT x.h x.str x.ord x.shr=t at*
   simp [zEc,k2,g]
  ·simp [zEc,k1,k2,zeroT]
theorem q05y (n:Int) (H:Heap) (h:0<=n/\n<=4294967296):clD EE (.p (.fn 239)) [vI n] H=some (vB true,none):=by
 rw [q002 _ _ _ _ _ _ (noP _) fn239]
 simp [zEa,h.1,h.2]
theorem q0yy (t:Tot) (h:inT 4294967296 t) (H:Heap):clD EE (.p (.fn 134)) [vTot t] H=some (vB true,none):=by
 rw [q002 _ _ _ _ _ _ (noP _) fn134]
 have k0:=fun H=>q05y t.nat H h.nat
 have k1:=fun H=>q05y t.s0 H h.s0
 have k2:=fun H=>q05y t.s1 H h.s1
 have k3:=fun H=>q05y t.s2 H h.s2
 have k4:=fun H=>q05y t.s3 H h.s3
 have k5:=fun H=>q05y t.shr H h.shr
 have w1:IntKind.i64.wrap 1=1:=by decide
 have w2:IntKind.i64.wrap 2=2:=by decide
 have w3:IntKind.i64.wrap 3=3:=by decide
 have w4:IntKind.i64.wrap 4=4:=by decide
 simp [zEc,k0,k1,k2,k3,k4,k5,q0g2,q003,ixaV,q007,w1,w2,w3,w4]
def q0fl (x:Item):Bool:=decide (x.k=2)||decide (x.k=3)
def q05z (x:Item):Bool:=decide (x.k=3)&&decide (x.n<= -10000)
theorem q0yz (x:Item) (H:Heap):clD EE (.p (.fn 292)) [vItem x] H=some (vB (q0fl x),none):=by
 rw [q002 _ _ _ _ _ _ (noP _) fn292]
 unfold q0fl
 by_cases h:x.k=2<;>simp [zEc,h]
theorem q0j4 (x:Item) (H:Heap):clD EE (.p (.fn 220)) [vItem x] H=some (vB (q05z x),none):=by
 rw [q002 _ _ _ _ _ _ (noP _) fn220]
 unfold q05z
 by_cases h:x.k=3<;>simp [zEc,h]
end Go.EnvOf
