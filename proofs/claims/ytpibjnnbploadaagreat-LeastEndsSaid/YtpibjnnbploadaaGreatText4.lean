/- The program's functions and the document's, evaluated. -/
import Derived.Test.YtpibjnnbploadaaGreatText3
set_option linter.unusedSimpArgs false
set_option linter.unusedVariables false
namespace Go.EnvOf
open Go Go.Eng
def lenOK (n:Int):Bool:= !(decide (n<0)||decide (1073741823<n))
def q02e (x:Item):Item:=if x.k=1 then ⟨1,x.h,x.f,0,0,0,0⟩ else if x.k=2 then ⟨2,x.h,0,x.str,x.ord,x.shr,0⟩ else if x.k=7 then ⟨7,0,0,0,0,0,0⟩ else ⟨x.k,0,0,0,0,0,x.n⟩
def upTo (m n:Int):Bool:=decide (0≤n)&&decide (n≤m)
def nOk (x:Item):Bool:=if x.k=3 then decide (x.n= -10000)||upTo 10000 x.n else if x.k=4 then upTo 1048576 x.n else if x.k=5 then upTo 511 x.n else if x.k=6 then upTo 255 x.n else upTo 0 x.n
def q01i (x:Item):Bool:=decide (1≤x.k)&&decide (x.k≤7)&&decide (q02e x=x)&&nOk x&&(lenOK x.h&&lenOK x.str&&lenOK x.shr)&&upTo 3 x.f&&upTo 3 x.ord&& !(decide (x.k=2)&&decide (x.h<x.shr))
theorem q08g (m n:Int) (p:Nat) (H:Heap) (hb:Eng.boxAt H p=some [vI m]):clD EE (.p (.fn 488)) [vI n,.ptr p 0] H=some (vB (upTo m n),none):=by
 rw [q002 _ _ _ _ _ _ (noP _) fn488]
 have e:subs [vI m] 0 1=some [vI m]:=rfl
 by_cases c:0≤n
 ·simp [St.enter,q000,hb,e,upTo,c]
 ·simp [St.enter,q000,upTo,c]
theorem q03k (m:Int) (H:Heap):clD EE (.p (.fn 443)) [vI m] H=some (.fn (.func 488) [] [.ptr H.length 0],some (H++[.box [vI m]],[])):=by
 rw [q002 _ _ _ _ _ _ (noP _) fn443]
 simp [St.enter,q000]
theorem q0jq (f:FuncId) (H:Heap):clD EE (.p (.fn 475)) [.p (.fn f)] H=some (.fn (.func 476) [] [.ptr H.length 0],some (H++[.box [.p (.fn f)]],[])):=by
 rw [q002 _ _ _ _ _ _ (noP _) fn475]
 simp [St.enter,q000]
theorem q0i5 (f:FuncId) (g:Int→Item) (x:Item) (p:Nat) (H:Heap) (hb:Eng.boxAt H p=some [.p (.fn f)]) (hg: ∀H',clD EE (.p (.fn f)) [vI x.n] H'=some (vItem (g x.n),none)):
  clD EE (.p (.fn 476)) [vItem x,.ptr p 0] H=some (vItem (g x.n),none):=by
 rw [q002 _ _ _ _ _ _ (noP _) fn476]
 have h:=hg H
 simp [St.enter,q000,hb,subs,h,q001]
theorem q0x6 (h f:Int) (H:Heap):clD EE (.p (.fn 478)) [vI h,vI f] H=some (vItem ⟨1,h,f,0,0,0,0⟩,none):=by
 rw [q002 _ _ _ _ _ _ (noP _) fn478]
 simp [St.enter,q000,subs,q001]
theorem q0vg (h s o r:Int) (H:Heap):clD EE (.p (.fn 480)) [vI h,vI s,vI o,vI r] H=some (vItem ⟨2,h,0,s,o,r,0⟩,none):=by
 rw [q002 _ _ _ _ _ _ (noP _) fn480]
 simp [St.enter,q000,subs,q001]
theorem q0jr (n:Int) (H:Heap):clD EE (.p (.fn 481)) [vI n] H=some (vItem ⟨3,0,0,0,0,0,n⟩,none):=by
 rw [q002 _ _ _ _ _ _ (noP _) fn481]
 simp [St.enter,q000,subs,q001]
theorem q0vh (n:Int) (H:Heap):clD EE (.p (.fn 483)) [vI n] H=some (vItem ⟨4,0,0,0,0,0,n⟩,none):=by
 rw [q002 _ _ _ _ _ _ (noP _) fn483]
 simp [St.enter,q000,subs,q001]
theorem q0i6 (n:Int) (H:Heap):clD EE (.p (.fn 484)) [vI n] H=some (vItem ⟨5,0,0,0,0,0,n⟩,none):=by
 rw [q002 _ _ _ _ _ _ (noP _) fn484]
 simp [St.enter,q000,subs,q001]
theorem q0g0 (n:Int) (H:Heap):clD EE (.p (.fn 485)) [vI n] H=some (vItem ⟨6,0,0,0,0,0,n⟩,none):=by
 rw [q002 _ _ _ _ _ _ (noP _) fn485]
 simp [St.enter,q000,subs,q001]
theorem q0mb (H:Heap):clD EE (.p (.fn 487)) [] H=some (vItem ⟨7,0,0,0,0,0,0⟩,none):=by
 rw [q002 _ _ _ _ _ _ (noP _) fn487]
 simp [St.enter,q000,subs,q001]
theorem q0ru (x:Item) (H:Heap):clD EE (.p (.fn 477)) [vItem x] H=some (vItem ⟨1,x.h,x.f,0,0,0,0⟩,none):=by
 rw [q002 _ _ _ _ _ _ (noP _) fn477]
 simp [St.enter,q000,subs,q001,q0x6]
theorem q0rv (x:Item) (H:Heap):clD EE (.p (.fn 479)) [vItem x] H=some (vItem ⟨2,x.h,0,x.str,x.ord,x.shr,0⟩,none):=by
 rw [q002 _ _ _ _ _ _ (noP _) fn479]
 simp [St.enter,q000,subs,q001,q0vg]
theorem q0rw (x:Item) (H:Heap):clD EE (.p (.fn 486)) [vItem x] H=some (vItem ⟨7,0,0,0,0,0,0⟩,none):=by
 rw [q002 _ _ _ _ _ _ (noP _) fn486]
 simp [St.enter,q000,subs,q001,q0mb]
theorem q0ow (n:Int) (H:Heap):clD EE (.p (.fn 482)) [vI n] H=some (vB (decide (n= -10000)||upTo 10000 n),none):=by
 rw [q002 _ _ _ _ _ _ (noP _) fn482]
 have h:=q08g 10000 n H.length (H++[.box [vI 10000]]) (by simp)
 by_cases c:n= -10000
 ·simp [St.enter,q000,c]
 ·simp [St.enter,q000,c,q03k,h]
def formH:Heap:=[.box [vI 0],.box [vI 0],.box [.p (.fn 481)],.box [.p (.fn 483)],.box [vI 1048576],.box [.p (.fn 484)],.box [vI 511],.box [.p (.fn 485)],.box [vI 255],.box [vI 0]]
def up1 (n:Nat):V:= .fn (.func 488) [] [.ptr n 0]
def num1 (n:Nat):V:= .fn (.func 476) [] [.ptr n 0]
def formV (n:Nat):List (List V):=[[.p (.fn 477),up1 n],[.p (.fn 479),up1 (n+1)],[num1 (n+2),.p (.fn 482)],[num1 (n+3),up1 (n+4)],[num1 (n+5),up1 (n+6)],[num1 (n+7),up1 (n+8)],[.p (.fn 486),up1 (n+9)]]
theorem q0rx (H:Heap):clD EE (.p (.fn 442)) [] H=some (.vsl (formV H.length),some (H++formH,[])):=by
 rw [q002 _ _ _ _ _ _ (noP _) fn442]
 simp [St.enter,q000,q001,q03k,q0jq,formV,formH,up1,num1]
theorem q0ry (x:Item) (h1:1≤x.k) (h7:x.k≤7) (H:Heap): ∃sv nv,(∀H',ixsI H' (.vsl (formV H.length)) (.p (.int .i64 (x.k-1))) 2=some (.eptr [sv,nv] 0))∧sv.oneB=true∧nv.oneB=true∧sv.cells=[sv]∧nv.cells=[nv]∧sv.notL=true∧nv.notL=true∧
  (∀T,clD EE sv [vItem x] (H++(formH++T))=some (vItem (q02e x),none))∧(∀T,clD EE nv [vI x.n] (H++(formH++T))=some (vB (nOk x),none)):=by
 have hk:x.k=1∨x.k=2∨x.k=3∨x.k=4∨x.k=5∨x.k=6∨x.k=7:=by omega
 have up: ∀(i:Nat) (m:Int) T,formH[i]? =some (.box [vI m])→clD EE (up1 (H.length+i)) [vI x.n] (H++(formH++T))=some (vB (upTo m x.n),none):=fun i m T hi=>by
  unfold up1
  rw [q029]
  refine q08g m x.n (H.length+i) _ ?_
  have hlt:=(List.getElem?_eq_some_iff.1 hi).1
  rw [q09l];unfold Eng.boxAt;rw [List.getElem?_append_left hlt,hi]
 have nm: ∀(i:Nat) (f:FuncId) (g:Int→Item) T,formH[i]? =some (.box [.p (.fn f)])→(∀H',clD EE (.p (.fn f)) [vI x.n] H'=some (vItem (g x.n),none))→clD EE (num1 (H.length+i)) [vItem x] (H++(formH++T))=some (vItem (g x.n),none):=fun i f g T hi hg=>by
  unfold num1
  rw [q029]
  refine q0i5 f g x (H.length+i) _ ?_ hg
  have hlt:=(List.getElem?_eq_some_iff.1 hi).1
  rw [q09l];unfold Eng.boxAt;rw [List.getElem?_append_left hlt,hi]
 rcases hk with k|k|k|k|k|k|k
 ·refine ⟨.p (.fn 477),up1 H.length,fun H'=>by simp [k,ixsI,ixsV,formV],rfl,rfl,rfl,rfl,rfl,rfl,fun T=> ?_,fun T=> ?_⟩
  ·rw [q0ru];simp [q02e,k]
  ·rw [show up1 H.length=up1 (H.length+0) from rfl,up 0 0 T rfl];simp [nOk,k]
 ·refine ⟨.p (.fn 479),up1 (H.length+1),fun H'=>by simp [k,ixsI,ixsV,formV],rfl,rfl,rfl,rfl,rfl,rfl,fun T=> ?_,fun T=> ?_⟩
  ·rw [q0rv];simp [q02e,k]
  ·rw [up 1 0 T rfl];simp [nOk,k]
 ·refine ⟨num1 (H.length+2),.p (.fn 482),fun H'=>by simp [k,ixsI,ixsV,formV],rfl,rfl,rfl,rfl,rfl,rfl,fun T=> ?_,fun T=> ?_⟩
  ·rw [nm 2 481 (fun n=>⟨3,0,0,0,0,0,n⟩) T rfl (fun H'=>q0jr x.n H')];simp [q02e,k]
  ·rw [q0ow];simp [nOk,k]
 ·refine ⟨num1 (H.length+3),up1 (H.length+4),fun H'=>by simp [k,ixsI,ixsV,formV],rfl,rfl,rfl,rfl,rfl,rfl,fun T=> ?_,fun T=> ?_⟩
  ·rw [nm 3 483 (fun n=>⟨4,0,0,0,0,0,n⟩) T rfl (fun H'=>q0vh x.n H')];simp [q02e,k]
  ·rw [up 4 1048576 T rfl];simp [nOk,k]
 ·refine ⟨num1 (H.length+5),up1 (H.length+6),fun H'=>by simp [k,ixsI,ixsV,formV],rfl,rfl,rfl,rfl,rfl,rfl,fun T=> ?_,fun T=> ?_⟩
  ·rw [nm 5 484 (fun n=>⟨5,0,0,0,0,0,n⟩) T rfl (fun H'=>q0i6 x.n H')];simp [q02e,k]
  ·rw [up 6 511 T rfl];simp [nOk,k]
 ·refine ⟨num1 (H.length+7),up1 (H.length+8),fun H'=>by simp [k,ixsI,ixsV,formV],rfl,rfl,rfl,rfl,rfl,rfl,fun T=> ?_,fun T=> ?_⟩
  ·rw [nm 7 485 (fun n=>⟨6,0,0,0,0,0,n⟩) T rfl (fun H'=>q0g0 x.n H')];simp [q02e,k]
  ·rw [up 8 255 T rfl];simp [nOk,k]
 ·refine ⟨.p (.fn 486),up1 (H.length+9),fun H'=>by simp [k,ixsI,ixsV,formV],rfl,rfl,rfl,rfl,rfl,rfl,fun T=> ?_,fun T=> ?_⟩
  ·rw [q0rw];simp [q02e,k]
  ·rw [up 9 0 T rfl];simp [nOk,k]
theorem q0rz (n:Int) (H:Heap):clD EE (.p (.fn 490)) [vI n] H=some (vB (!lenOK n),none):=by
 rw [q002 _ _ _ _ _ _ (noP _) fn490]
 by_cases c:n<0
 ·simp [St.enter,q000,lenOK,c]
 ·simp [St.enter,q000,lenOK,c]
theorem q0vi (a b c:Int) (H:Heap):clD EE (.p (.fn 444)) [.p (.sl [[.int .i64 a],[.int .i64 b],[.int .i64 c]])] H=some (vB (lenOK a&&lenOK b&&lenOK c),none):=by
 rw [q002 _ _ _ _ _ _ (noP _) fn444]
 have h:=q0rt (.p (.fn 490)) (fun n=> !lenOK n) [a,b,c] H rfl rfl (by simp) (fun x _=>q0rz x H)
 simp only [sli,List.map_cons,List.map_nil,encI] at h
 simp [St.enter,q000,h]
 cases lenOK a<;>cases lenOK b<;>cases lenOK c<;>rfl
theorem q0js (x y:Item):q008 [true,true,true,true,true,true,true] [vI x.k,vI x.h,vI x.f,vI x.str,vI x.ord,vI x.shr,vI x.n] [vI y.k,vI y.h,vI y.f,vI y.str,vI y.ord,vI y.shr,vI y.n]=some (decide (x=y)):=by
 obtain ⟨a,b,c,d,e,f,g⟩:=x
 obtain ⟨a',b',c',d',e',f',g'⟩:=y
 simp [Bool.decide_and]
theorem q0i7 (x:Item) (H:Heap):clD EE (.p (.fn 402)) [vItem x] H=some (vI (if q01i x=true then 0 else 8),none):=by
 rw [q002 _ _ _ _ _ _ (noP _) fn402]
 by_cases c1:x.k<1
 ·have e:q01i x=false:=by
   have: ¬1≤x.k:=by omega
   simp [q01i,this]
  simp [St.enter,q000,subs,c1,e]
 ·by_cases c7:7<x.k
  ·have e:q01i x=false:=by
    have: ¬x.k≤7:=by omega
    simp [q01i,this]
   simp [St.enter,q000,subs,c1,c7,e]
  ·obtain ⟨sv,nv,f1,f2,f3,f4,f5,f8,f9,f6,f7⟩:=q0ry x (by omega) (by omega) H
   have w:IntKind.i64.wrap (x.k-1)=x.k-1:=w64 (by omega) (by omega)
   have g6:=f6 [.box [vI 3]]
   have g7:=f7 [.box [vI 3]]
   have hb:Eng.boxAt (H++(formH++[.box [vI 3]])) (H.length+formH.length)=some [vI 3]:=by simp
   have t1:=q08g 3 x.f (H.length+formH.length) _ hb
   have t2:=q08g 3 x.ord (H.length+formH.length) _ hb
   have hl:=q0vi x.h x.str x.shr (H++(formH++[.box [vI 3]]))
   have he:=q0js (q02e x) x
   have hf:=q0rx H
   have a1:(1:Int)≤x.k:=by omega
   have a7:x.k≤7:=by omega
   unfold q01i
   simp only [a1,a7,decide_true,Bool.true_and]
   generalize formV H.length=fv at*
   generalize formH=FH at*
   generalize q02e x=y at*
   cases e1:decide (y=x) with
   |false=>
    rw [e1] at he
    simp [-q020,St.enter,q000,subs,q001,c1,c7,hf,f1,f2,f3,f4,f5,f8,f9,w,q03k,g6,he]
   |true=>
    rw [e1] at he
    cases e2:nOk x with
    |false=>
     rw [e2] at g7
     simp [-q020,St.enter,q000,subs,q001,c1,c7,hf,f1,f2,f3,f4,f5,f8,f9,w,q03k,g6,g7,he]
    |true=>
     rw [e2] at g7
     cases e3:(lenOK x.h&&lenOK x.str&&lenOK x.shr) with
     |false=>
      rw [e3] at hl
      simp [-q020,St.enter,q000,subs,q001,c1,c7,hf,f1,f2,f3,f4,f5,f8,f9,w,q03k,g6,g7,he,hl]
     |true=>
      rw [e3] at hl
      cases e4:upTo 3 x.f with
      |false=>
       rw [e4] at t1
       simp [-q020,St.enter,q000,subs,q001,c1,c7,hf,f1,f2,f3,f4,f5,f8,f9,w,q03k,g6,g7,he,hl,t1]
      |true=>
       rw [e4] at t1
       cases e5:upTo 3 x.ord with
       |false=>
        rw [e5] at t2
        simp [-q020,St.enter,q000,subs,q001,c1,c7,hf,f1,f2,f3,f4,f5,f8,f9,w,q03k,g6,g7,he,hl,t1,t2]
       |true=>
        rw [e5] at t2
        by_cases k2:x.k=2
        ·have w1:IntKind.i64.wrap 1=1:=w64 (by omega) (by omega)
         have e21:(2:Int)-1=1:=rfl
         rw [k2] at he
         simp only [vItem,k2,e21] at f1 g6
         by_cases k3:x.h<x.shr
         ·simp [-q020,St.enter,q000,subs,q001,c1,c7,hf,f1,f2,f3,f4,f5,f8,f9,w1,q03k,g6,g7,he,hl,t1,t2,k2,k3]
         ·simp [-q020,St.enter,q000,subs,q001,c1,c7,hf,f1,f2,f3,f4,f5,f8,f9,w1,q03k,g6,g7,he,hl,t1,t2,k2,k3]
        ·simp [-q020,St.enter,q000,subs,q001,c1,c7,hf,f1,f2,f3,f4,f5,f8,f9,w,q03k,g6,g7,he,hl,t1,t2,k2]
end Go.EnvOf
