/- The program's functions and the document's, evaluated. -/
import Derived.KernelRfl
import Derived.Test.YtjjdmlpdgcdehaaGreatText2
import Derived.Test.YtjjdmlpdgcdehaaGreatText3
set_option linter.unusedSimpArgs false
set_option linter.unusedVariables false
namespace Go.EnvOf
open Go Go.Eng
def note (lines pens:List Int):V:= .agg [sli lines,sli pens]
def far:Int:=1125899906842624
def hstep (s x:Int):Int:=min (s+min (max x 0) far) far
end Go.EnvOf
namespace Go.EnvOf
open Go Go.Eng
end Go.EnvOf
namespace Go.EnvOf
open Go Go.Eng
end Go.EnvOf
namespace Go.EnvOf
open Go Go.Eng
def rowsG {α:Type} (s:Nat) (enc:α→List PV) (l:List α):Heap:=if l=[] then [] else [.row s (upV (l.map enc))]
@[simp] theorem q0bj {α:Type} (s:Nat) (enc:α→List PV):rowsG s enc [] =[] :=rfl
def rnH (s:Int) (n:Note):Heap:=rowsG 1 encI (n.lines.map fun x=>upG x s)
def rnVq (s:Int) (l:List Note) (G:Heap):V:=match l with|[]=> .nils|n::r=> .row (G.length+(rnH s n).length) (r.length+1) 0 (r.length+1)
@[simp] theorem q0Ng (s:Int) (l:List Note) (G:Heap):(rnVq s l G).oneB=true:=by cases l<;>rfl
@[simp] theorem q0Iu (s:Int) (l:List Note) (G:Heap):(rnVq s l G).cells=[rnVq s l G] :=by cases l<;>rfl
end Go.EnvOf
namespace Go.EnvOf
open Go Go.Eng
def encN (x:List Int×List Int):List PV:=[.sl (x.1.map encI),.sl (x.2.map encI)]
@[simp] theorem q0R1 (x:List Int×List Int):(encN x).length=2:=rfl
def notes (l:List (List Int×List Int)):V:= .p (.sl (l.map encN))
end Go.EnvOf
namespace Go.EnvOf
open Go Go.Eng
end Go.EnvOf
namespace Go.EnvOf
open Go Go.Eng
set_option maxRecDepth 100000
end Go.EnvOf
namespace Go.EnvOf
open Go Go.Eng
section
variable (j:Job)
end
end Go.EnvOf
namespace Go.EnvOf
open Go Go.Eng
set_option maxRecDepth 100000
end Go.EnvOf
namespace Go.EnvOf
open Go Go.Eng
def cnt (k:Int) (l:List Item):Nat:=(l.filter fun x=>decide (x.k=k)).length
structure Piece where
 n:Int
 frm:Int
 to:Int
 deriving Inhabited,DecidableEq
def q00g (x:Piece):List PV:=[.int .i64 x.n,.int .i64 x.frm,.int .i64 x.to]
@[simp] theorem q0E7 (x:Piece):(q00g x).length=3:=rfl
def q01a (l:List Item):Int:=cnt 5 l
def addAt (fs:List Float) (c:C3) (x:Item):C3:=if x.k=6 then ofS fs c x.n else c
def q00n (fs:List Float) (l:List Item):C3:=l.foldl (addAt fs) ⟨0,0,0⟩
def dueS (fs:List Float) (s:C3×C3) (x:Item):C3×C3:=(addAt fs s.1 x,if x.k=7 then s.1 else s.2)
def dueP (fs:List Float) (l:List Item):C3:=(l.foldl (dueS fs) (⟨0,0,0⟩,⟨0,0,0⟩)).2
def preL {α:Type} (f:List Item→α) (l:List Item) (n:Nat):List α:=(List.range n).map fun k=>f (l.take k)
def lineN (l:List Note):Int:=(l.map fun n=>(n.lines.length:Int)).sum
def allS (j:Job):C3:=q00n j.floats j.items
end Go.EnvOf
namespace Go.EnvOf
open Go Go.Eng
set_option maxRecDepth 100000
structure Tot where
 nat:Int
 s0:Int
 s1:Int
 s2:Int
 s3:Int
 shr:Int
 deriving Inhabited,DecidableEq
def q020 (t:Tot):List PV:=[.int .i64 t.nat,.int .i64 t.s0,.int .i64 t.s1,.int .i64 t.s2,.int .i64 t.s3,.int .i64 t.shr]
@[simp] theorem q0Iv (t:Tot):(q020 t).length=6:=rfl
def zeroT:Tot:=⟨0,0,0,0,0,0⟩
def addT (a b:Tot):Tot:=⟨a.nat+b.nat,a.s0+b.s0,a.s1+b.s1,a.s2+b.s2,a.s3+b.s3,a.shr+b.shr⟩
def glueT (h str ord shr:Int):Tot:=⟨h,if ord=0 then str else 0,if ord=1 then str else 0,if ord=2 then str else 0,if ord=3 then str else 0,shr⟩
def totI (x:Item):Tot:=if x.k=1 then ⟨x.h,0,0,0,0,0⟩ else if x.k=2 then glueT x.h x.str x.ord x.shr else zeroT
def totP (l:List Item):Tot:=l.foldl (fun t x=>addT t (totI x)) zeroT
def boxI1 (x:Item):Int:=if x.k=1 then x.h else 0
def boxP (l:List Item):Int:=l.foldl (fun t x=>t+boxI1 x) 0
structure fairI (x:Item):Prop where
 h:0≤x.h∧x.h≤4294967296
 str:0≤x.str∧x.str≤4294967296
 shr:0≤x.shr∧x.shr≤4294967296
end Go.EnvOf
namespace Go.EnvOf
open Go Go.Eng
set_option maxRecDepth 100000
theorem q02y {H:Heap} {q:Nat} {cs:List V} (h:Eng.boxAt H q=some cs):q<H.length:=by
 unfold Eng.boxAt at h
 rcases Nat.lt_or_ge q H.length with g|g
 ·exact g
 ·rw [List.getElem?_eq_none g] at h;cases h
theorem rd_of {α:Type} [Inhabited α] {l:List α} {i:Nat} {x:α} (h:l[i]? =some x):rd l i=x:=by
 unfold rd
 simp [List.getD,h]
def encC3 (c:C3):List PV:=[.int .i64 c.a,.int .i64 c.b,.int .i64 c.c]
@[simp] theorem q0Nh (c:C3):(encC3 c).length=3:=rfl
def q00d (l:List Item):V:= .eptr [q006 l] 0
def q00r (l:List Item):V:= .eptr [q006 l,.p (.sl ((preL totP l (l.length+1)).map q020)),sli (preL boxP l (l.length+1))] 0
def vMapW (l:List Item) (fs:List Float):V:= .eptr [q006 l,sli (preL q01a l (l.length+1)),.p (.sl ((preL (q00n fs) l (l.length+1)).map encC3)),.p (.sl ((preL (dueP fs) l (l.length+1)).map encC3))] 0
def q00o (j:Job):V:= .eptr [q00d j.items,q00r j.items,vMapW j.items j.floats] 0
def preN (l:List Note):List Int:=(List.range (l.length+1)).map fun k=>lineN (l.take k)
abbrev cJobW (j:Job):List V:=cGeom j.g++[q006 j.items,q00b j.notes,q005 j.floats]
def vW (j:Job):V:= .eptr (q00o j::(cJobW j++[sli (preN j.notes),vI (allS j).a,vI (allS j).b,vI (allS j).c])) 0
section
variable (l:List Item)
@[simp] theorem q0E8 (k:Nat):q00s (q00d l) k=true:=_root_.id rfl
@[simp] theorem q0Iw (k i:Nat):escV k i (q00d l)=(q00d l):=_root_.id rfl
@[simp] theorem q0G6:outL (q00d l)=(q00d l):=_root_.id rfl
@[simp] theorem q0G7:V.notL (q00d l)=true:=_root_.id rfl
@[simp] theorem q0G8:V.outB (q00d l)=true:=_root_.id rfl
@[simp] theorem q0G9:V.oneB (q00d l)=true:=_root_.id rfl
@[simp] theorem q0E9:V.cells (q00d l)=[(q00d l)] :=_root_.id rfl
@[simp] theorem q0Ea:normA (q00d l)=(q00d l):=_root_.id rfl
@[simp] theorem q0Eb:normC (q00d l)=(q00d l):=_root_.id rfl
@[simp] theorem q0Ec:V.isNil .ptr (q00d l)=some false:=_root_.id rfl
@[simp] theorem q0D0:V.plainR (q00d l)=true:=_root_.id rfl
@[simp] theorem q0D1:V.plainB (q00d l)=true:=_root_.id rfl
@[simp] theorem q0Ix:solN sd (q00d l)=true:=_root_.id rfl
@[simp] theorem q0rf (b d:Nat) (H:Heap):q00w b H d (q00d l)=[] :=by cases d<;>rfl
@[simp] theorem q0Ga (S:St):q01d S (q00d l)=[] :=q0rf _ _ _ _
@[simp] theorem q0Ni (S:St):Eng.freeze S (q00d l)=some (q00d l):=_root_.id rfl
@[simp] theorem q0Iy (S:St):Eng.freezeR S (q00d l)=some (q00d l):=_root_.id rfl
end
section
variable (l:List Item)
@[simp] theorem q0Ed (k:Nat):q00s (q00r l) k=true:=_root_.id rfl
@[simp] theorem q0Iz (k i:Nat):escV k i (q00r l)=(q00r l):=_root_.id rfl
@[simp] theorem q0Gb:outL (q00r l)=(q00r l):=_root_.id rfl
@[simp] theorem q0Gc:V.notL (q00r l)=true:=_root_.id rfl
@[simp] theorem q0Gd:V.outB (q00r l)=true:=_root_.id rfl
@[simp] theorem q0Ge:V.oneB (q00r l)=true:=_root_.id rfl
@[simp] theorem q0Ee:V.cells (q00r l)=[(q00r l)] :=_root_.id rfl
@[simp] theorem q0Ef:normA (q00r l)=(q00r l):=_root_.id rfl
@[simp] theorem q0Eg:normC (q00r l)=(q00r l):=_root_.id rfl
@[simp] theorem q0Eh:V.isNil .ptr (q00r l)=some false:=_root_.id rfl
@[simp] theorem q0D2:V.plainR (q00r l)=true:=_root_.id rfl
@[simp] theorem q0D3:V.plainB (q00r l)=true:=_root_.id rfl
@[simp] theorem q0J0:solN sd (q00r l)=true:=_root_.id rfl
@[simp] theorem q0rg (b d:Nat) (H:Heap):q00w b H d (q00r l)=[] :=by cases d<;>rfl
@[simp] theorem q0Gf (S:St):q01d S (q00r l)=[] :=q0rg _ _ _ _
@[simp] theorem q0Nj (S:St):Eng.freeze S (q00r l)=some (q00r l):=_root_.id rfl
@[simp] theorem q0J1 (S:St):Eng.freezeR S (q00r l)=some (q00r l):=_root_.id rfl
end
section
variable (l:List Item) (fs:List Float)
@[simp] theorem q0Gg (k:Nat):q00s (vMapW l fs) k=true:=_root_.id rfl
@[simp] theorem q0Nk (k i:Nat):escV k i (vMapW l fs)=(vMapW l fs):=_root_.id rfl
@[simp] theorem q0J2:outL (vMapW l fs)=(vMapW l fs):=_root_.id rfl
@[simp] theorem q0J3:V.notL (vMapW l fs)=true:=_root_.id rfl
@[simp] theorem q0J4:V.outB (vMapW l fs)=true:=_root_.id rfl
@[simp] theorem q0J5:V.oneB (vMapW l fs)=true:=_root_.id rfl
@[simp] theorem q0Gh:V.cells (vMapW l fs)=[(vMapW l fs)] :=_root_.id rfl
@[simp] theorem q0Gi:normA (vMapW l fs)=(vMapW l fs):=_root_.id rfl
@[simp] theorem q0Gj:normC (vMapW l fs)=(vMapW l fs):=_root_.id rfl
@[simp] theorem q0Gk:V.isNil .ptr (vMapW l fs)=some false:=_root_.id rfl
@[simp] theorem q0Ei:V.plainR (vMapW l fs)=true:=_root_.id rfl
@[simp] theorem q0Ej:V.plainB (vMapW l fs)=true:=_root_.id rfl
@[simp] theorem q0Nl:solN sd (vMapW l fs)=true:=_root_.id rfl
@[simp] theorem q0v6 (b d:Nat) (H:Heap):q00w b H d (vMapW l fs)=[] :=by cases d<;>rfl
@[simp] theorem q0J6 (S:St):q01d S (vMapW l fs)=[] :=q0v6 _ _ _ _ _
@[simp] theorem q0R2 (S:St):Eng.freeze S (vMapW l fs)=some (vMapW l fs):=_root_.id rfl
@[simp] theorem q0Nm (S:St):Eng.freezeR S (vMapW l fs)=some (vMapW l fs):=_root_.id rfl
end
section
variable (j:Job)
@[simp] theorem q0Ek (k:Nat):q00s (q00o j) k=true:=_root_.id rfl
@[simp] theorem q0J7 (k i:Nat):escV k i (q00o j)=(q00o j):=_root_.id rfl
@[simp] theorem q0Gl:outL (q00o j)=(q00o j):=_root_.id rfl
@[simp] theorem q0Gm:V.notL (q00o j)=true:=_root_.id rfl
@[simp] theorem q0Gn:V.outB (q00o j)=true:=_root_.id rfl
@[simp] theorem q0Go:V.oneB (q00o j)=true:=_root_.id rfl
@[simp] theorem q0El:V.cells (q00o j)=[(q00o j)] :=_root_.id rfl
@[simp] theorem q0Em:normA (q00o j)=(q00o j):=_root_.id rfl
@[simp] theorem q0En:normC (q00o j)=(q00o j):=_root_.id rfl
@[simp] theorem q0Eo:V.isNil .ptr (q00o j)=some false:=_root_.id rfl
@[simp] theorem q0D4:V.plainR (q00o j)=true:=_root_.id rfl
@[simp] theorem q0D5:V.plainB (q00o j)=true:=_root_.id rfl
@[simp] theorem q0J8:solN sd (q00o j)=true:=_root_.id rfl
@[simp] theorem q0rh (b d:Nat) (H:Heap):q00w b H d (q00o j)=[] :=by cases d<;>rfl
@[simp] theorem q0Gp (S:St):q01d S (q00o j)=[] :=q0rh _ _ _ _
@[simp] theorem q0Nn (S:St):Eng.freeze S (q00o j)=some (q00o j):=_root_.id rfl
@[simp] theorem q0J9 (S:St):Eng.freezeR S (q00o j)=some (q00o j):=_root_.id rfl
end
section
variable (j:Job)
@[simp] theorem q0R3 (k:Nat):q00s (vW j) k=true:=_root_.id rfl
@[simp] theorem q0Ti (k i:Nat):escV k i (vW j)=(vW j):=_root_.id rfl
@[simp] theorem q0Sv:outL (vW j)=(vW j):=_root_.id rfl
@[simp] theorem q0Sw:V.notL (vW j)=true:=_root_.id rfl
@[simp] theorem q0Sx:V.outB (vW j)=true:=_root_.id rfl
@[simp] theorem q0Sy:V.oneB (vW j)=true:=_root_.id rfl
@[simp] theorem q0R4:V.cells (vW j)=[(vW j)] :=_root_.id rfl
@[simp] theorem q0R5:normA (vW j)=(vW j):=_root_.id rfl
@[simp] theorem q0R6:normC (vW j)=(vW j):=_root_.id rfl
@[simp] theorem q0R7:V.isNil .ptr (vW j)=some false:=_root_.id rfl
@[simp] theorem q0No:V.plainR (vW j)=true:=_root_.id rfl
@[simp] theorem q0Np:V.plainB (vW j)=true:=_root_.id rfl
@[simp] theorem q0Tj:solN sd (vW j)=true:=_root_.id rfl
@[simp] theorem q0Ep (b d:Nat) (H:Heap):q00w b H d (vW j)=[] :=by cases d<;>rfl
@[simp] theorem q0Sz (S:St):q01d S (vW j)=[] :=q0Ep _ _ _ _
@[simp] theorem vW_fz (S:St):Eng.freeze S (vW j)=some (vW j):=_root_.id rfl
@[simp] theorem q0Tk (S:St):Eng.freezeR S (vW j)=some (vW j):=_root_.id rfl
end
section
variable (l:List Item) (fs:List Float) (hl:l.length≤1000000)
end
structure okW (j:Job):Prop where
 n1:j.items.length≤1000000
 n2:j.notes.length≤1000000
 n3:j.floats.length≤100000
 lines: ∀n∈j.notes,n.lines.length≤1000000
 cols:I64 j.g.cols∧j.g.cols≤1000
 refs:q01a j.items≤j.notes.length
section
variable (j:Job) (w:okW j)
include w in
include w in
end
section
variable (j:Job) (w:okW j)
include w in
include w in
include w in
include w in
include w in
include w in
include w in
end
end Go.EnvOf
namespace Go.Eng
open Go
@[simp] theorem q0T0 (v:V):zR (some (v,none))=zV [] v:=rfl
@[simp] theorem q0T1 (v:V) (H:Heap):zR (some (v,some (H,[])))=zV H v:=rfl
@[simp] theorem q0Ja:zR none=none:=rfl
@[simp] theorem q0Tl (H:Heap) (vs:List V):zV H (.tup vs)=(allO (solV H sd) vs).map .tup:=rfl
@[simp] theorem zV_p (H:Heap) (x:PV):zV H (.p x)=some (.p x):=rfl
@[simp] theorem q0T2 (H:Heap):zV H .nils=some (.p (.sl [])):=rfl
@[simp] theorem q0Eq (H:Heap) (a b c d:Nat):zV H (.row a b c d)=(frz 0 H deep (.row a b c d)).map .p:=rfl
@[simp] theorem q0Tm (H:Heap) (id off:Nat):zV H (.ptr id off)=(Eng.boxAt H id).bind fun cs=>(allO (solV H 5) cs).map fun cs'=> .eptr cs' off:=rfl
@[simp] theorem q0Tn (H:Heap) (d:Nat) (x:PV):solV H d (.p x)=some (.p x):=by cases d<;>rfl
@[simp] theorem q0Nq (H:Heap) (d:Nat):solV H d .nils=some (.p (.sl [])):=by cases d<;>rfl
@[simp] theorem q0R8 (H:Heap) (d a b c e:Nat):solV H d (.row a b c e)=(frz 0 H deep (.row a b c e)).map .p:=by cases d<;>rfl
@[simp] theorem q0Nr (H:Heap) (id off:Nat):solV H sd (.ptr id off)=(Eng.boxAt H id).bind fun cs=>(allO (solV H 5) cs).map fun cs'=> .eptr cs' off:=rfl
@[simp] theorem q0Jb (H:Heap) (id off:Nat):solV H 6 (.ptr id off)=(Eng.boxAt H id).bind fun cs=>(allO (solV H 5) cs).map fun cs'=> .eptr cs' off:=rfl
@[simp] theorem q0Ns (H:Heap) (id off:Nat):solV H 5 (.ptr id off)=(Eng.boxAt H id).bind fun cs=>(allO (solV H 4) cs).map fun cs'=> .eptr cs' off:=rfl
@[simp] theorem q0Jc (a b:Nat):V.plainB (.ptr a b)=false:=rfl
@[simp] theorem q0Jd (a b:Nat):q06z (.ptr a b)=false:=rfl
end Go.Eng
namespace Go.EnvOf
open Go Go.Eng
set_option maxRecDepth 100000
@[simp] theorem q0D6 (l:List Item):q06z (q00r l)=true:=rfl
@[simp] theorem q0Nt (j:Job):q06z (vW j)=true:=rfl
@[simp] theorem q0Gq (H:Heap) (l:List Item):solV H 5 (q00d l)=some (q00d l):=rfl
@[simp] theorem q0Gr (H:Heap) (j:Job):solV H 5 (q00o j)=some (q00o j):=rfl
@[simp] theorem q0Er (H:Heap) (l:List Item):solV H 4 (q00d l)=some (q00d l):=rfl
@[simp] theorem q0Es (H:Heap) (l:List Item):solV H 4 (q00r l)=some (q00r l):=rfl
@[simp] theorem q0Gs (H:Heap) (l:List Item) (fs:List Float):solV H 4 (vMapW l fs)=some (vMapW l fs):=rfl
end Go.EnvOf
namespace Go.EnvOf
open Go Go.Eng
set_option maxRecDepth 100000
end Go.EnvOf
namespace Go.EnvOf
open Go Go.Eng
set_option maxRecDepth 100000
end Go.EnvOf
namespace Go.EnvOf
open Go Go.Eng
set_option maxRecDepth 100000
def heldN (n:Int):Int:=min (max n 0) 1125899906842624
def addM (a b:Int):Int:=heldN (heldN a+heldN b)
theorem q0Tq (n:Int):0≤heldN n∧heldN n≤1125899906842624:=by unfold heldN;omega
theorem q0Uz (n:Int) (H:Heap):clD EE (.p (.fn 352)) [vI n] H=some (vI (heldN n),none):=by
 rw [q002 _ _ _ _ _ _ (noP _) fn352]
 unfold heldN
 simp [St.enter,q000]
theorem q0V0 (n:Int) (H:Heap):clD EE (.p (.fn 353)) [vI n] H=some (vI (heldN n),none):=by
 rw [q002 _ _ _ _ _ _ (noP _) fn353]
 unfold heldN
 simp [St.enter,q000]
theorem q0V1 (a b:Int) (H:Heap):clD EE (.p (.fn 299)) [vI a,vI b] H=some (vI (addM a b),none):=by
 rw [q002 _ _ _ _ _ _ (noP _) fn299]
 have h:=fun n H=>q0Uz n H
 have b1:=q0Tq a
 have b2:=q0Tq b
 have w:IntKind.i64.wrap (heldN a+heldN b)=heldN a+heldN b:=w64 (by omega) (by omega)
 unfold addM
 simp [St.enter,q000,h,w]
theorem q0V2 (a b:Int) (H:Heap):clD EE (.p (.fn 300)) [vI a,vI b] H=some (vI (addM a b),none):=by
 rw [q002 _ _ _ _ _ _ (noP _) fn300]
 have h:=fun n H=>q0V0 n H
 have b1:=q0Tq a
 have b2:=q0Tq b
 have w:IntKind.i64.wrap (heldN a+heldN b)=heldN a+heldN b:=w64 (by omega) (by omega)
 unfold addM
 simp [St.enter,q000,h,w]
abbrev vCost (o s:Int):V:= .agg [vI o,vI s]
theorem q0Uk (a b c d:Int) (H:Heap):clD EE (.p (.fn 228)) [vCost a b,vCost c d] H=some (vCost (addM a c) (addM b d),none):=by
 rw [q002 _ _ _ _ _ _ (noP _) fn228]
 have h1:=fun H=>q0V1 a c H
 have h2:=fun H=>q0V2 b d H
 simp [St.enter,q000,subs,q001,h1,h2]
theorem q0Uf (p:Nat) (o s a b:Int) (H:Heap) (h:Eng.boxAt H p=some [vI o,vI s]):clD EE (.p (.fn 110)) [.ptr p 0,vCost a b] H=some (.tup [],some (H.set p (.box [vI (addM o a),vI (addM s b)]),[p])):=by
 rw [q002 _ _ _ _ _ _ (noP _) fn110]
 have hlt:=q02y h
 have k:=fun H=>q0Uk o s a b H
 simp [St.enter,q000,subs,q001,h,k,hlt]
theorem q0U0 (p:Nat) (o s:Int) (H:Heap) (h:Eng.boxAt H p=some [vI o,vI s]):clD EE (.p (.fn 63)) [.ptr p 0] H=some (vCost o s,none):=by
 rw [q002 _ _ _ _ _ _ (noP _) fn63]
 simp [St.enter,q000,subs,q001,h]
def coS (st:Int×Int) (_:Nat) (n:Int):Int×Int:=(addM st.1 0,addM st.2 n)
def q0Tp (over:Bool) (l:List Int):Int×Int:=fold coS (if over=true then (1,0) else (0,0)) 0 l
def coFn (H:Heap):V:= .fn (.func 110) [.ptr H.length 0] []
@[simp] theorem q0Je (H:Heap) (k:Nat):q00s (coFn H) k=true:=rfl
theorem q0Tw (K:Heap) (v:V) (H:Heap):clD EE (coFn K) [v] H=clD EE (.p (.fn 110)) [.ptr K.length 0,v] H:=by unfold coFn;rw [q02m];rfl
def coE (H:Heap) (v:V) (n:Nat) (st:Int×Int) (i:Nat):St:=⟨[(4,.lptr 4 0),(5,.ptr H.length 0),(6,coFn H),(14,v),(15,vI n),(16,vI i)],[(4,[vI 0,vI 0])],H++[.box [vI st.1,vI st.2]],H.length,[]⟩
def coX (H:Heap) (v:V) (n:Nat) (st:Int×Int):Ex×St:=(.exit 0,⟨[(4,.lptr 4 0),(5,.ptr H.length 0),(6,coFn H),(14,v),(15,vI n),(16,vI n),(17,vB false)],[(4,[vI 0,vI 0])],H++[.box [vI st.1,vI st.2]],H.length,[]⟩)
theorem q0Ui (over:Bool) (l:List Int):(q0Tp over l).1=if over=true then 1 else 0:=by
 have: ∀(l:List Int) (i:Nat) (a b:Int),(a=0∨a=1)→(fold coS (a,b) i l).1=a:=by
  intro l
  induction l with
  |nil=>intro i a b _;rfl
  |cons x r ih=>
   intro i a b h
   simp only [fold,coS]
   have:addM a 0=a:=by rcases h with rfl|rfl<;>decide
   rw [this];exact ih (i+1) a _ h
 unfold q0Tp
 cases over with
 |true=>simp only [if_true];exact this l 0 1 0 (.inr rfl)
 |false=>simp only [Bool.false_eq_true,if_false];exact this l 0 0 0 (.inl rfl)
section
variable (j:Job) (w:okW j)
include w in
end
theorem q0fn {α τ:Type} (f:τ→Nat→α→τ): ∀(l:List α) (s:τ) (i n:Nat) (x:α),l[n]? =some x→fold f s i (l.take (n+1))=f (fold f s i (l.take n)) (i+n) x
 |[],s,i,n,x,h=>by simp at h
 |y::r,s,i,0,x,h=>by simp at h;subst h;simp [fold]
 |y::r,s,i,n+1,x,h=>by
  simp only [List.take_succ_cons,fold]
  rw [q0fn f r _ (i+1) n x (by simpa using h)]
  congr 1;omega
theorem q0Uq (n:Int) (H:Heap):clD EE (.p (.fn 67)) [vI n] H=some (vI (heldN n),none):=by
 rw [q002 _ _ _ _ _ _ (noP _) fn67]
 unfold heldN
 by_cases a:n<0
 ·have e:min (max n 0) 1125899906842624=0:=by omega
  rw [e];simp [St.enter,q000,a]
 ·by_cases b:1125899906842624<n
  ·have e:min (max n 0) 1125899906842624=1125899906842624:=by omega
   rw [e];simp [St.enter,q000,a,b]
  ·have e:min (max n 0) 1125899906842624=n:=by omega
   rw [e];simp [St.enter,q000,a,b]
theorem q0Tv (a b c d:Int) (H:Heap):clD EE (.p (.fn 20)) [vCost a b,vCost c d] H=some (vCost (addM a c) (addM b d),none):=by
 rw [q002 _ _ _ _ _ _ (noP _) fn20]
 have h:=fun n H=>q0Uq n H
 have b1:=q0Tq a
 have b2:=q0Tq b
 have b3:=q0Tq c
 have b4:=q0Tq d
 have w1:IntKind.i64.wrap (heldN a+heldN c)=heldN a+heldN c:=w64 (by omega) (by omega)
 have w2:IntKind.i64.wrap (heldN b+heldN d)=heldN b+heldN d:=w64 (by omega) (by omega)
 unfold addM
 simp [St.enter,q000,subs,q001,h,w1,w2]
def rcE (l:List Int) (H:Heap) (st:Int×Int) (i:Nat):St:=⟨[(1,sli l),(4,.lptr 4 0),(5,.lptr 5 0),(6,vI i)],[(4,[vI 0,vI 0]),(5,[vI st.1,vI st.2])],H,H.length,[]⟩
def rcX (l:List Int) (H:Heap) (st:Int×Int):Ex×St:=(.exit 0,⟨[(1,sli l),(4,.lptr 4 0),(5,.lptr 5 0),(6,vI l.length),(12,vB false)],[(4,[vI 0,vI 0]),(5,[vI st.1,vI st.2])],H,H.length,[]⟩)
theorem q0Ul (over:Bool) (l:List Int) (hl:l.length≤1000000) (H:Heap):clD EE (.p (.fn 75)) [vB over,sli l] H=some (vCost (q0Tp over l).1 (q0Tp over l).2,none):=by
 rw [q002 _ _ _ _ _ _ (noP _) fn75]
 have k: ∀st0:Int×Int,evD EE q14s (rcE l H st0 0)=some (rcX l H (fold coS st0 0 l)):=by
  intro st0
  unfold q14s
  refine q00u l (fun st i=>rcE l H st i) (fun _ _=>True) coS (fun st=>rcX l H st) (fun _ _=>rfl) ?_ ?_ st0 0 trivial (Nat.zero_le _)
  ·rintro st i x-hx
   refine ⟨?_,trivial⟩
   have hlt:=(List.getElem?_eq_some_iff.1 hx).1
   have w:IntKind.i64.wrap ((i:Int)+1)=((i+1:Nat):Int):=w64 (by omega) (by omega)
   have hix:=fun H k=>q00c H encI (k:=k) (s:=1) hx rfl
   simp only [encI] at hix
   have ra:=fun H=>q0Tv st.1 st.2 0 x H
   simp [rcE,coS,hlt,hix,encI,subs,q001,w,ra]
  ·rintro st-
   refine ⟨?_,by simp [rcX]⟩
   simp [rcE,rcX]
 unfold q0Tp
 cases over with
 |true=>
  have k1:=k (1,0)
  simp only [if_true]
  generalize fold coS (1,0) 0 l=q at*
  simp [rcE,rcX] at k1
  simp [St.enter,q000,subs,q001,k1]
 |false=>
  have k1:=k (0,0)
  simp only [Bool.false_eq_true,if_false]
  generalize fold coS (0,0) 0 l=q at*
  simp [rcE,rcX] at k1
  simp [St.enter,q000,subs,q001,k1]
end Go.EnvOf
namespace Go.EnvOf
open Go Go.Eng
set_option maxRecDepth 100000
end Go.EnvOf
namespace Go.EnvOf
open Go Go.Eng
set_option maxRecDepth 100000
end Go.EnvOf
namespace Go.EnvOf
open Go Go.Eng
set_option maxRecDepth 100000
end Go.EnvOf
namespace Go.EnvOf
open Go Go.Eng
set_option maxRecDepth 100000
def cutV {α:Type} (enc:α→List PV) (l:List α) (p:Nat):V:=if p=0 then .nils else .p (.sl ((l.take p).map enc))
section
variable {α:Type} (enc:α→List PV) (l:List α) (p:Nat)
@[simp] theorem q0R9:(cutV enc l p).oneB=true:=by unfold cutV;split<;>rfl
@[simp] theorem q0Nu:(cutV enc l p).cells=[cutV enc l p] :=by unfold cutV;split<;>rfl
@[simp] theorem q0Ra:(cutV enc l p).notL=true:=by unfold cutV;split<;>rfl
@[simp] theorem q0Nv:normC (cutV enc l p)= .p (.sl ((l.take p).map enc)):=by
  unfold cutV;split
  ·rename_i h0;subst h0;rfl
  ·rfl
end
end Go.EnvOf
namespace Go.EnvOf
open Go Go.Eng
set_option maxRecDepth 100000
section
variable (j:Job) (w:okW j)
include w in
include w in
end
def fairN (x:Int):Bool:=decide (0≤x)&&decide (x≤1073741823)
def q0Ew (j:Job):List Int:=[j.g.grid,j.g.high,j.g.first,j.g.rule,j.g.sep]++j.items.map (·.h)++j.notes.flatMap (·.lines)++j.floats.map (·.h)
def fairF (j:Job):Bool:= !((q0Ew j).any fun x=> !fairN x)
section
variable {j:Job} (hf:fairF j=true)
include hf
end
end Go.EnvOf
namespace Go.EnvOf
open Go Go.Eng
set_option maxRecDepth 100000
theorem q0Vl (H:Heap) (l:List Int) (hl:l.length≤1000000) (st0:Int×Int):
  evD EE q110 (coE H (sli l) l.length st0 0)=some (coX H (sli l) l.length (fold coS st0 0 l)):=by
 unfold q110
 refine q00u l (fun st i=>coE H (sli l) l.length st i) (fun _ _=>True) coS (fun st=>coX H (sli l) l.length st) (fun _ _=>rfl) ?_ ?_ st0 0 trivial (Nat.zero_le _)
 ·rintro st i x-hx
  refine ⟨?_,trivial⟩
  have hlt:=(List.getElem?_eq_some_iff.1 hx).1
  have w:IntKind.i64.wrap ((i:Int)+1)=((i+1:Nat):Int):=w64 (by omega) (by omega)
  have hix:=fun H k=>q00c H encI (k:=k) (s:=1) hx rfl
  simp only [encI] at hix
  have p:=q0Uf H.length st.1 st.2 0 x (H++[.box [vI st.1,vI st.2]]) (by simp)
  rw [←q0Tw] at p
  have ad:addD H.length H.length []=[]:=by unfold addD;rw [if_neg (by omega)]
  simp [coE,coS,hlt,hix,encI,subs,q001,w,p,ad]
 ·rintro st-
  refine ⟨?_,by simp [coX]⟩
  simp [coE,coX]
theorem q0Um (H:Heap) (over:Bool) (l:List Int) (hl:l.length≤1000000):
  clD EE (.p (.fn 120)) [vB over,sli l] H=some (vCost (q0Tp over l).1 (q0Tp over l).2,none):=by
 rw [q002 _ _ _ _ _ _ (noP _) fn120]
 have ad:addD H.length H.length []=[]:=by unfold addD;rw [if_neg (by omega)]
 have sc:=fun a b=>q0U0 H.length a b (H++[.box [vI a,vI b]]) (by simp)
 have a1:addM 0 1=1:=by decide
 have a0:addM 0 0=0:=by decide
 have k:=fun st=>q0Vl H l hl st
 unfold q0Tp
 cases over with
 |true=>
  have p:=q0Uf H.length 0 0 1 0 (H++[.box [vI 0,vI 0]]) (by simp)
  rw [←q0Tw] at p
  have k1:=k (1,0)
  simp only [if_true]
  generalize fold coS (1,0) 0 l=q at*
  simp [coE,coX,coFn] at k1 p
  simp [St.enter,q000,subs,q001,p,a1,a0,ad,k1,sc]
 |false=>
  have k1:=k (0,0)
  simp only [Bool.false_eq_true,if_false]
  generalize fold coS (0,0) 0 l=q at*
  simp [coE,coX,coFn] at k1
  simp [St.enter,q000,subs,q001,ad,k1,sc]
section
variable (j:Job) (n1:j.items.length≤1000000) (hf: ∀x∈j.items,fairI x)
include n1 hf in
include n1 in
end
section
variable (j:Job) (n1:j.items.length≤1000000) (hf: ∀x∈j.items,fairI x)
include n1 hf in
include n1 hf in
end
theorem q0Ur (a:Int) (H:Heap):clD EE (.p (.fn 390)) [vI a] H=some (vB false,none):=by
 rw [q002 _ _ _ _ _ _ (noP _) fn390]
 simp [St.enter,q000]
theorem q0Vd (a b:Int) (H:Heap):clD EE (.p (.fn 355)) [vI a,vI b] H=some (vI (cmp1 a b),none):=by
 rw [q002 _ _ _ _ _ _ (noP _) fn355]
 have n1:=fun H=>q0Ur a H
 have n2:=fun H=>q0Ur b H
 unfold cmp1
 by_cases h1:a<b
 ·simp [St.enter,q000,n1,n2,h1]
 ·by_cases h2:b<a
  ·simp [St.enter,q000,n1,n2,h1,h2]
  ·simp [St.enter,q000,n1,n2,h1,h2]
def orE (l:List Int) (H:Heap) (i:Nat):St:=⟨[(3,vI 0),(6,sli l),(7,vI l.length),(8,vI i)],[],H,H.length,[]⟩
def orX (l:List Int) (H:Heap):Ex×St:=(.exit 0,⟨[(3,vI 0),(6,sli l),(7,vI l.length),(8,vI l.length),(9,vB false)],[],H,H.length,[]⟩)
def orS (H:Heap) (_:Unit) (_:Nat) (x:Int):Unit⊕(Ex×St):=if x=0 then .inl () else .inr (.ret,⟨[(2,vI x)],[],H,H.length,[]⟩)
theorem or_lp (l:List Int) (H:Heap) (hl:l.length≤1000000):evD EE q16i (orE l H 0)=some (rng (orS H) (fun _=>orX l H) () 0 l):=by
 unfold q16i
 refine q013 l (fun (_:Unit) i=>orE l H i) (fun _ _=>True) (orS H) (fun _=>orX l H) (fun _ _=>rfl) ?_ ?_ () 0 trivial (Nat.zero_le _)
 ·rintro _ i x-hx
  have hlt:=(List.getElem?_eq_some_iff.1 hx).1
  have w:IntKind.i64.wrap ((i:Int)+1)=((i+1:Nat):Int):=w64 (by omega) (by omega)
  have hix:=fun H k=>q00c H encI (k:=k) (s:=1) hx rfl
  by_cases h:x=0
  ·simp only [orS,if_pos h]
   simp [orE,hlt,hix,encI,subs,w,h]
  ·simp only [orS,if_neg h]
   simp [orE,hlt,hix,encI,subs,w,h]
 ·rintro _-
  simp [orE,orX]
theorem q0Us (H:Heap) (fin:Ex×St): ∀(l:List Int) (i:Nat),rng (orS H) (fun _=>fin) () i l=if orL l=0 then fin else (.ret,⟨[(2,vI (orL l))],[],H,H.length,[]⟩)
 |[],_=>by simp [rng,orL]
 |x::r,i=>by
  simp only [rng,orS,orL]
  by_cases h:x=0
  ·simp only [if_pos h];exact q0Us H fin r (i+1)
  ·simp only [if_neg h]
theorem q0V3 (l:List Int) (H:Heap) (hl:l.length≤1000000):clD EE (.p (.fn 354)) [sli l] H=some (vI (orL l),none):=by
 rw [q002 _ _ _ _ _ _ (noP _) fn354]
 have k:=or_lp l H hl
 rw [q0Us] at k
 by_cases h:orL l=0
 ·rw [if_pos h] at k
  simp [orE,orX] at k
  simp [St.enter,q000,k,h]
 ·rw [if_neg h] at k
  simp [orE] at k
  simp [St.enter,q000,k]
def encCo (c:Int×Int):List PV:=[.int .i64 c.1,.int .i64 c.2]
@[simp] theorem q0Vn (c:Int×Int):(encCo c).length=2:=rfl
def cmpCo (a b:Int×Int):Int:=lexC [a.1,a.2] [b.1,b.2]
theorem q0Ug (a:Int) (H:Heap):clD EE (.p (.fn 391)) [vI a] H=some (vB false,none):=by
 rw [q002 _ _ _ _ _ _ (noP _) fn391]
 simp [St.enter,q000]
theorem q0Ut (a b:Int) (H:Heap):clD EE (.p (.fn 356)) [vI a,vI b] H=some (vI (cmp1 a b),none):=by
 rw [q002 _ _ _ _ _ _ (noP _) fn356]
 have n1:=fun H=>q0Ug a H
 have n2:=fun H=>q0Ug b H
 unfold cmp1
 by_cases h1:a<b
 ·simp [St.enter,q000,n1,n2,h1]
 ·by_cases h2:b<a
  ·simp [St.enter,q000,n1,n2,h1,h2]
  ·simp [St.enter,q000,n1,n2,h1,h2]
theorem q0Uu (a b:Int×Int) (H:Heap):clD EE (.p (.fn 301)) [vCost a.1 a.2,vCost b.1 b.2] H=some (vI (cmpCo a b),none):=by
 rw [q002 _ _ _ _ _ _ (noP _) fn301]
 have c1:=fun H=>q0Vd a.1 b.1 H
 have c2:=fun H=>q0Ut a.2 b.2 H
 have o:=fun H=>q0V3 [cmp1 a.1 b.1,cmp1 a.2 b.2] H (by simp)
 have e:orL [cmp1 a.1 b.1,cmp1 a.2 b.2]=cmpCo a b:=by
  unfold cmpCo
  simp only [orL,lexC]
 rw [e] at o
 simp only [sli,List.map_cons,List.map_nil,encI] at o
 simp [St.enter,q000,subs,q001,c1,c2,o]
section
variable (j:Job) (n1:j.items.length≤1000000) (hf: ∀x∈j.items,fairI x) (p B:Nat)
include n1 hf in
include n1 hf in
include n1 hf in
end
theorem q0U6 (a b:Int×Int) (H:Heap):clD EE (.p (.fn 50)) [vCost a.1 a.2,vCost b.1 b.2] H=some (vI (cmpCo a b),none):=by
 rw [q002 _ _ _ _ _ _ (noP _) fn50]
 obtain ⟨a1,a2⟩:=a
 obtain ⟨b1,b2⟩:=b
 unfold cmpCo
 simp only [lexC,cmp1]
 by_cases h1:a1<b1
 ·simp [St.enter,q000,subs,q001,h1]
 ·by_cases h2:b1<a1
  ·have h3: ¬a1=b1:=by omega
   simp [St.enter,q000,subs,q001,h1,h2,h3]
  ·have h3:a1=b1:=by omega
   subst h3
   by_cases h4:a2<b2
   ·simp [St.enter,q000,subs,q001,h4]
   ·by_cases h5:b2<a2
    ·have h6: ¬a2=b2:=by omega
     simp [St.enter,q000,subs,q001,h4,h5,h6]
    ·have h6:a2=b2:=by omega
     subst h6
     simp [St.enter,q000,subs,q001]
structure Lin where
 ov:Bool
 x1:Int
 x2:Int
 x3:Int
 x4:Int
 x5:Int
 x6:Int
 x7:Int
 x8:Int
 deriving Inhabited,DecidableEq
def q0To (x:Lin):List PV:=[.bool x.ov,.int .i64 x.x1,.int .i64 x.x2,.int .i64 x.x3,.int .i64 x.x4,.int .i64 x.x5,.int .i64 x.x6,.int .i64 x.x7,.int .i64 x.x8]
@[simp] theorem q0Vm (x:Lin):(q0To x).length=9:=rfl
abbrev cLin (x:Lin):List V:=[vB x.ov,vI x.x1,vI x.x2,vI x.x3,vI x.x4,vI x.x5,vI x.x6,vI x.x7,vI x.x8]
abbrev vLin (x:Lin):V:= .agg (cLin x)
abbrev vLins (l:List Lin):V:= .p (.sl (l.map q0To))
def nums (x:Lin):List Int:=[x.x1,x.x2,x.x3,x.x4,x.x5,x.x6,x.x7,x.x8]
def costL (x:Lin):Int×Int:=q0Tp x.ov (nums x)
theorem q0Un:costL ⟨false,0,0,0,0,0,0,0,0⟩=(0,0):=by decide
theorem q0Tx (x:Lin) (H:Heap):clD EE (.p (.fn 111)) [vLin x] H=some (vCost (costL x).1 (costL x).2,none):=by
 rw [q002 _ _ _ _ _ _ (noP _) fn111]
 have c:=fun H=>q0Um H x.ov (nums x) (by simp [nums])
 simp only [nums,sli,List.map_cons,List.map_nil,encI] at c
 by_cases z:x=⟨false,0,0,0,0,0,0,0,0⟩
 ·subst z
  have e:=q0Un
  simp [St.enter,q000,subs,q001,e]
 ·have z2: ¬(x.ov=false∧x.x1=0∧x.x2=0∧x.x3=0∧x.x4=0∧x.x5=0∧x.x6=0∧x.x7=0∧x.x8=0):=by
   rintro ⟨h0,h1,h2,h3,h4,h5,h6,h7,h8⟩
   exact z (by cases x;simp_all)
  have e:costL x=q0Tp x.ov [x.x1,x.x2,x.x3,x.x4,x.x5,x.x6,x.x7,x.x8]:=rfl
  rw [e]
  generalize q0Tp x.ov [x.x1,x.x2,x.x3,x.x4,x.x5,x.x6,x.x7,x.x8]=q at*
  simp [St.enter,q000,subs,q001,c,z2]
theorem q0Tt (x:Lin) (H:Heap):clD EE (.p (.fn 122)) [vLin x] H=some (vCost (costL x).1 (costL x).2,none):=by
 rw [q002 _ _ _ _ _ _ (noP _) fn122]
 have c:=fun H=>q0Ul x.ov (nums x) (by simp [nums]) H
 simp only [nums,sli,List.map_cons,List.map_nil,encI] at c
 have e:costL x=q0Tp x.ov [x.x1,x.x2,x.x3,x.x4,x.x5,x.x6,x.x7,x.x8]:=rfl
 rw [e]
 generalize q0Tp x.ov [x.x1,x.x2,x.x3,x.x4,x.x5,x.x6,x.x7,x.x8]=q at*
 simp [St.enter,q000,subs,q001,c]
theorem q0V4 (x:Lin) (H:Heap):clD EE (.p (.fn 43)) [vLin x] H=some (vLin x,none):=by
 rw [q002 _ _ _ _ _ _ (noP _) fn43]
 simp [St.enter,q000,subs,q001]
theorem q0Ve (a b:Int×Int) (H:Heap):clD EE (.p (.fn 121)) [vCost a.1 a.2,vCost b.1 b.2] H=some (vB (decide (cmpCo a b<0)),none):=by
 rw [q002 _ _ _ _ _ _ (noP _) fn121]
 have c: ∀H,clD EE (.p (.fn 231)) [vCost a.1 a.2,vCost b.1 b.2] H=some (vI (cmpCo a b),none):=fun H=>by
  rw [q002 _ _ _ _ _ _ (noP _) fn231]
  have o:=fun H=>q0Uu a b H
  simp [St.enter,q000,subs,q001,o]
 simp [St.enter,q000,subs,q001,c]
def buS (st:Int×Int) (_:Nat) (x:Lin):Int×Int:=(addM st.1 (costL x).1,addM st.2 (costL x).2)
def buE (H:Heap) (v:V) (n:Nat) (st:Int×Int) (i:Nat):St:=⟨[(2,.lptr 2 0),(3,.ptr H.length 0),(4,coFn H),(8,v),(9,vI n),(10,vI i)],[(2,[vI 0,vI 0])],H++[.box [vI st.1,vI st.2]],H.length,[]⟩
def buX (H:Heap) (v:V) (n:Nat) (st:Int×Int):Ex×St:=(.exit 0,⟨[(2,.lptr 2 0),(3,.ptr H.length 0),(4,coFn H),(8,v),(9,vI n),(10,vI n),(11,vB false)],[(2,[vI 0,vI 0])],H++[.box [vI st.1,vI st.2]],H.length,[]⟩)
def sumLi (l:List Lin):Int×Int:=fold buS (0,0) 0 l
theorem bu_lp (H:Heap) (l:List Lin) (hl:l.length≤1000000) (st0:Int×Int):
  evD EE q16k (buE H (vLins l) l.length st0 0)=some (buX H (vLins l) l.length (fold buS st0 0 l)):=by
 unfold q16k
 refine q00u l (fun st i=>buE H (vLins l) l.length st i) (fun _ _=>True) buS (fun st=>buX H (vLins l) l.length st) (fun _ _=>rfl) ?_ ?_ st0 0 trivial (Nat.zero_le _)
 ·rintro st i x-hx
  refine ⟨?_,trivial⟩
  have hlt:=(List.getElem?_eq_some_iff.1 hx).1
  have w:IntKind.i64.wrap ((i:Int)+1)=((i+1:Nat):Int):=w64 (by omega) (by omega)
  have hix:=fun H k=>q00c H q0To (k:=k) (s:=9) hx rfl
  simp only [q0To] at hix
  have p:=q0Uf H.length st.1 st.2 (costL x).1 (costL x).2 (H++[.box [vI st.1,vI st.2]]) (by simp)
  rw [←q0Tw] at p
  have ad:addD H.length H.length []=[]:=by unfold addD;rw [if_neg (by omega)]
  have bc:=fun H=>q0Tx x H
  simp only [buS]
  generalize costL x=q at*
  simp [buE,hlt,hix,q0To,subs,q001,w,p,ad,bc]
 ·rintro st-
  refine ⟨?_,by simp [buX]⟩
  simp [buE,buX]
theorem q0U4 (l:List Lin) (hl:l.length≤1000000) (H:Heap):clD EE (.p (.fn 45)) [vLins l] H=some (vCost (sumLi l).1 (sumLi l).2,none):=by
 rw [q002 _ _ _ _ _ _ (noP _) fn45]
 have ad:addD H.length H.length []=[]:=by unfold addD;rw [if_neg (by omega)]
 have sc:=fun a b=>q0U0 H.length a b (H++[.box [vI a,vI b]]) (by simp)
 have k1:=bu_lp H l hl (0,0)
 unfold sumLi
 generalize fold buS (0,0) 0 l=q at*
 simp [buE,buX,coFn] at k1
 simp [St.enter,q000,subs,q001,ad,k1,sc]
def moS (l:List Lin) (a:Int) (i:Nat) (x:Lin):Int:=if a<0∨cmpCo (costL (rd l a)) (costL x)<0 then i else a
def mostL (l:List Lin):Int:=fold (moS l) (-1) 0 l
theorem q0Uv (l:List Lin) (a:Int) (i:Nat) (x:Lin) (h: -1≤a∧a<i): -1≤moS l a i x∧moS l a i x<(i+1:Nat):=by
 unfold moS;split<;>omega
def moE (l:List Lin) (H:Heap) (a:Int) (i:Nat):St:=⟨[(0,vLins l),(3,vI a),(6,vLins l),(7,vI l.length),(8,vI i)],[],H,H.length,[]⟩
def moX (l:List Lin) (H:Heap) (a:Int):Ex×St:=(.exit 0,⟨[(0,vLins l),(3,vI a),(6,vLins l),(7,vI l.length),(8,vI l.length),(9,vB false)],[],H,H.length,[]⟩)
theorem q0V5 (l:List Lin) (hl:l.length≤1000000) (H:Heap):clD EE (.p (.fn 47)) [vLins l] H=some (vI (mostL l),none):=by
 rw [q002 _ _ _ _ _ _ (noP _) fn47]
 have k:evD EE q16l (moE l H (-1) 0)=some (moX l H (mostL l)):=by
  unfold q16l
  refine q00u l (fun a i=>moE l H a i) (fun a i=> -1≤a∧a<i) (moS l) (fun a=>moX l H a) (fun _ _=>rfl) ?_ ?_ (-1) 0 ⟨by omega,by omega⟩ (Nat.zero_le _)
  ·rintro a i x ⟨h0,h1⟩ hx
   refine ⟨?_,q0Uv l a i x ⟨h0,h1⟩⟩
   have hlt:=(List.getElem?_eq_some_iff.1 hx).1
   have w:IntKind.i64.wrap ((i:Int)+1)=((i+1:Nat):Int):=w64 (by omega) (by omega)
   have hix:=fun H k=>q00c H q0To (k:=k) (s:=9) hx rfl
   have bx:=fun H=>q0Tx x H
   simp only [q0To] at hix
   unfold moS
   by_cases c:a<0
   ·rw [if_pos (.inl c)]
    simp [moE,hlt,hix,q0To,subs,q001,w,c]
   ·have hy:=q026 l a (by omega) (by omega)
    have hiy:=fun H k=>q024 H q0To (k:=k) (s:=9) (by omega:0≤a) hy rfl
    simp only [q0To] at hiy
    have b_y:=fun H=>q0Tx (rd l a) H
    have ls:=fun H=>q0Ve (costL (rd l a)) (costL x) H
    generalize rd l a=y at*
    generalize costL x=cx at*
    generalize costL y=cy at*
    by_cases d:cmpCo cy cx<0
    ·rw [if_pos (.inr d)]
     simp [moE,hlt,hix,hiy,q0To,subs,q001,w,c,bx,b_y,ls,d]
    ·rw [if_neg (by rintro (h|h);exact c h;exact d h)]
     simp [moE,hlt,hix,hiy,q0To,subs,q001,w,c,bx,b_y,ls,d]
  ·rintro a-
   refine ⟨?_,by simp [moX]⟩
   simp [moE,moX]
 generalize mostL l=q at*
 simp [moE,moX] at k
 simp [St.enter,q000,k]
def bqE (v:V) (H:Heap) (st:Int×Int) (i:Nat):St:=⟨[(0,v),(2,.lptr 2 0),(3,.lptr 3 0),(4,vI i)],[(2,[vI 0,vI 0]),(3,[vI st.1,vI st.2])],H,H.length,[]⟩
def bqX (v:V) (n:Nat) (H:Heap) (st:Int×Int):Ex×St:=(.exit 0,⟨[(0,v),(2,.lptr 2 0),(3,.lptr 3 0),(4,vI n),(8,vB false)],[(2,[vI 0,vI 0]),(3,[vI st.1,vI st.2])],H,H.length,[]⟩)
def bmE (v:V) (H:Heap) (a:Int) (i:Nat):St:=⟨[(0,v),(3,vI a),(4,vI i)],[],H,H.length,[]⟩
def bmX (v:V) (n:Nat) (H:Heap) (a:Int):Ex×St:=(.exit 0,⟨[(0,v),(3,vI a),(4,vI n),(8,vB false)],[],H,H.length,[]⟩)
theorem q0Ty {l:List Lin} {n:Nat} {y:Lin} (hy:l[n]? =some y) (h:n<(upV (l.map q0To)).length):(upV (l.map q0To))[n]'h=cLin y:=by
 have:(upV (l.map q0To))[n]? =some (cLin y):=by simp [upV,q0To,hy]
 exact (List.getElem?_eq_some_iff.1 this).2
theorem q0U5 {l:List Lin} {id:Nat} {H:Heap} (hr:Go.Eng.rowAt H id=some (9,upV (l.map q0To))) (n:Nat) (hn:n<l.length):ixsI H (.row id l.length 0 l.length) (vI n) 9=some (.rptr id l.length n 0):=by
 rw [q01f,hr,q0Qw];simp [upV,hn]
theorem q0V6 (l:List Lin) (hl:l.length≤1000000) (id:Nat) (H:Heap) (hr:Go.Eng.rowAt H id=some (9,upV (l.map q0To))):clD EE (.p (.fn 49)) [.row id l.length 0 l.length] H=some (vCost (sumLi l).1 (sumLi l).2,none):=by
 rw [q002 _ _ _ _ _ _ (noP _) fn49]
 have hul:(upV (l.map q0To)).length=l.length:=by simp [upV]
 have k:evD EE q16n (bqE (.row id l.length 0 l.length) H (0,0) 0)=some (bqX (.row id l.length 0 l.length) l.length H (sumLi l)):=by
  unfold q16n
  refine q00u l (fun st i=>bqE (.row id l.length 0 l.length) H st i) (fun _ _=>True) buS (fun st=>bqX (.row id l.length 0 l.length) l.length H st) (fun _ _=>rfl) ?_ ?_ (0,0) 0 trivial (Nat.zero_le _)
  ·rintro st i x-hx
   refine ⟨?_,trivial⟩
   have hlt:=(List.getElem?_eq_some_iff.1 hx).1
   have w:IntKind.i64.wrap ((i:Int)+1)=((i+1:Nat):Int):=w64 (by omega) (by omega)
   have g1:=q0U5 hr i hlt
   have g2:=q0Ty hx
   have bc:=fun H=>q0Tt x H
   have ra:=fun H=>q0Tv st.1 st.2 (costL x).1 (costL x).2 H
   simp only [buS]
   generalize costL x=q at*
   simp [bqE,hlt,g1,g2,hr,hul,subs,q001,w,bc,ra]
  ·rintro st-
   refine ⟨?_,by simp [bqX]⟩
   simp [bqE,bqX]
 generalize sumLi l=q at*
 simp [bqE,bqX] at k
 simp [St.enter,q000,subs,q001,k]
theorem q0Uo (a b:Int×Int):decide (0<cmpCo b a)=decide (cmpCo a b<0):=by
 unfold cmpCo
 simp only [lexC,cmp1]
 by_cases h1:a.1<b.1
 ·have h2: ¬b.1<a.1:=by omega
  simp [h1,h2]
 ·by_cases h2:b.1<a.1
  ·simp [h1,h2]
  ·by_cases h3:a.2<b.2
   ·have h4: ¬b.2<a.2:=by omega
    simp [h1,h2,h3,h4]
   ·by_cases h4:b.2<a.2
    ·simp [h1,h2,h3,h4]
    ·simp [h1,h2,h3,h4]
theorem q0Uw (l:List Lin) (hl:l.length≤1000000) (id:Nat) (H:Heap) (hr:Go.Eng.rowAt H id=some (9,upV (l.map q0To))):clD EE (.p (.fn 48)) [.row id l.length 0 l.length] H=some (vI (mostL l),none):=by
 rw [q002 _ _ _ _ _ _ (noP _) fn48]
 have hul:(upV (l.map q0To)).length=l.length:=by simp [upV]
 have k:evD EE q16m (bmE (.row id l.length 0 l.length) H (-1) 0)=some (bmX (.row id l.length 0 l.length) l.length H (mostL l)):=by
  unfold q16m
  refine q00u l (fun a i=>bmE (.row id l.length 0 l.length) H a i) (fun a i=> -1≤a∧a<i) (moS l) (fun a=>bmX (.row id l.length 0 l.length) l.length H a) (fun _ _=>rfl) ?_ ?_ (-1) 0 ⟨by omega,by omega⟩ (Nat.zero_le _)
  ·rintro a i x ⟨h0,h1⟩ hx
   refine ⟨?_,q0Uv l a i x ⟨h0,h1⟩⟩
   have hlt:=(List.getElem?_eq_some_iff.1 hx).1
   have w:IntKind.i64.wrap ((i:Int)+1)=((i+1:Nat):Int):=w64 (by omega) (by omega)
   have g1:=q0U5 hr i hlt
   have g2:=q0Ty hx
   have bx:=fun H=>q0Tt x H
   unfold moS
   by_cases c:a<0
   ·rw [if_pos (.inl c)]
    simp [bmE,hlt,g1,g2,hr,hul,subs,q001,w,c]
   ·have hy:=q026 l a (by omega) (by omega)
    have ea:((a.toNat:Nat):Int)=a:=by omega
    have ha:a.toNat<l.length:=by omega
    have g3:=q0U5 hr a.toNat ha
    have g4:=q0Ty hy
    rw [ea] at g3
    have b_y:=fun H=>q0Tt (rd l a) H
    have rc:=fun H=>q0U6 (costL x) (costL (rd l a)) H
    have fl:=q0Uo (costL (rd l a)) (costL x)
    generalize rd l a=y at*
    generalize costL x=cx at*
    generalize costL y=cy at*
    by_cases d:cmpCo cy cx<0
    ·rw [if_pos (.inr d)]
     have d2:0<cmpCo cx cy:=by simpa [d] using fl
     simp [bmE,hlt,ha,g1,g2,g3,g4,hr,hul,subs,q001,w,c,bx,b_y,rc,d2]
    ·rw [if_neg (by rintro (h|h);exact c h;exact d h)]
     have d2: ¬0<cmpCo cx cy:=by simpa [d] using fl
     simp [bmE,hlt,ha,g1,g2,g3,g4,hr,hul,subs,q001,w,c,bx,b_y,rc,d2]
  ·rintro a-
   refine ⟨?_,by simp [bmX]⟩
   simp [bmE,bmX]
 generalize mostL l=q at*
 simp [bmE,bmX] at k
 simp [St.enter,q000,k]
theorem q0Tz (a b:Int×Int):cmpCo a b<0↔a.1<b.1∨(a.1=b.1∧a.2<b.2):=by
 unfold cmpCo
 simp only [lexC,cmp1]
 by_cases h1:a.1<b.1
 ·simp [h1]
 ·by_cases h2:b.1<a.1
  ·simp [h1,h2];omega
  ·have h3:a.1=b.1:=by omega
   by_cases h4:a.2<b.2
   ·simp [h3,h4]
   ·by_cases h5:b.2<a.2
    ·simp [h3,h4,h5]
    ·simp [h3,h4,h5]
theorem q0Ux (z:Lin) (r:List Lin):0≤mostL (z::r)∧mostL (z::r)<(z::r).length∧ ¬cmpCo (costL (rd (z::r) (mostL (z::r)))) (costL z)<0:=by
 have key: ∀n,n≤r.length→0≤fold (moS (z::r)) (-1) 0 ((z::r).take (n+1))∧fold (moS (z::r)) (-1) 0 ((z::r).take (n+1))<(n+1:Nat)∧ ¬cmpCo (costL (rd (z::r) (fold (moS (z::r)) (-1) 0 ((z::r).take (n+1))))) (costL z)<0:=by
  intro n
  induction n with
  |zero=>
   intro _
   have e:fold (moS (z::r)) (-1) 0 ((z::r).take (0+1))=0:=by simp [fold,moS]
   rw [e]
   refine ⟨by omega,by omega,?_⟩
   have:rd (z::r) (0:Int)=z:=by simp [rd]
   rw [this,q0Tz];omega
  |succ n ih=>
   intro hn
   obtain ⟨y,hx⟩: ∃y,(z::r)[n+1]? =some y:=⟨_,List.getElem?_eq_getElem (by simp;omega)⟩
   rw [q0fn _ (z::r) _ 0 (n+1) _ hx,Nat.zero_add]
   obtain ⟨h1,h2,h3⟩:=ih (by omega)
   generalize fold (moS (z::r)) (-1) 0 ((z::r).take (n+1))=a at*
   unfold moS
   by_cases c:a<0∨cmpCo (costL (rd (z::r) a)) (costL y)<0
   ·rw [if_pos c]
    refine ⟨by omega,by omega,?_⟩
    have e:rd (z::r) ((n+1:Nat):Int)=y:=rd_of hx
    rw [e]
    have c2:cmpCo (costL (rd (z::r) a)) (costL y)<0:=by rcases c with h|h;exact absurd h (by omega);exact h
    rw [q0Tz] at*
    omega
   ·rw [if_neg c]
    exact ⟨h1,by omega,h3⟩
 have h:=key r.length (Nat.le_refl _)
 have e:(z::r).take (r.length+1)=z::r:=by simp
 rw [e] at h
 exact h
theorem q0U1 {a b:Int} (h:a≤b):heldN a≤heldN b:=by unfold heldN;omega
theorem q0Up {a b:Int} (h:a≤b):addM 0 a≤addM 0 b:=by
 unfold addM;exact q0U1 (by have:=q0U1 h;omega)
theorem q0Uh (x:Lin):addM 0 (costL x).1=(costL x).1:=by
 unfold costL;rw [q0Ui];cases x.ov<;>decide
theorem q0U7 (x:Lin):sumLi [x]=(addM 0 (costL x).1,addM 0 (costL x).2):=rfl
theorem q0V7 {z y:Lin} (h: ¬cmpCo (costL y) (costL z)<0):0≤cmpCo (sumLi [y]) (sumLi [z]):=by
 have g: ¬cmpCo (sumLi [y]) (sumLi [z])<0:=by
  rw [q0Tz] at*
  rw [q0U7,q0U7,q0Uh,q0Uh]
  simp only
  rintro (k|⟨k1,k2⟩)
  ·exact h (.inl k)
  ·have: ¬(costL z).2≤(costL y).2:=fun k=>by have:=q0Up k;omega
   exact h (.inr ⟨k1,by omega⟩)
 omega
theorem q0Vf (l:List Lin) (a:Int) (h0:0≤a) (h1:a<l.length) (H:Heap):slcI H 9 (vLins l) (some (vI a)) (some (vI (a+1)))=some (vLins [rd l a]):=by
 have hh:q066 9 (l.map q0To)=true:=by cases l<;>rfl
 have g:a≤a+1:=by omega
 have g2:a+1≤(l.length:Int):=by omega
 have e:(a+1-a).toNat=1:=by omega
 have hy:=q026 l a h0 h1
 have d:(l.drop a.toNat).take 1=[rd l a]:=by
  rw [List.take_one,List.head?_drop,hy];rfl
 have d2:((l.map q0To).drop a.toNat).take 1=[q0To (rd l a)]:=by rw [←List.map_drop,←List.map_take,d];rfl
 simp [slcI,slcV,hh,h0,g,g2,e,d2]
abbrev rLi (H:Heap) (l:List Lin):V:= .row H.length l.length 0 l.length
abbrev hLi (H:Heap) (l:List Lin):Heap:=H++[.row 9 (upV (l.map q0To))]
def lbE (l:List Lin) (H:Heap) (o:List Lin) (i:Nat):St:=⟨[(0,vLins l),(3,rLi H o),(4,vI i)],[],hLi H o,H.length,[]⟩
def lbX (l:List Lin) (H:Heap) (o:List Lin):Ex×St:=(.exit 0,⟨[(0,vLins l),(3,rLi H o),(4,vI l.length),(13,vB false)],[],hLi H o,H.length,[]⟩)
theorem lb_lp (l:List Lin) (hl:l.length≤60) (H:Heap):evD EE q16j (lbE l H [] 0)=some (lbX l H l):=by
 unfold q16j
 refine Eq.trans (q00u l (fun o i=>lbE l H o i) (fun o i=>o.length=i) (fun o _ x=>o++[x]) (fun o=>lbX l H o) (fun _ _=>rfl) ?_ ?_ [] 0 rfl (Nat.zero_le _)) (by rw [List.drop_zero,q0Ue (fun x=>[x])];simp)
 ·rintro o i x ho hx
  refine ⟨?_,by simp [ho]⟩
  have hlt:=(List.getElem?_eq_some_iff.1 hx).1
  have w:IntKind.i64.wrap ((i:Int)+1)=((i+1:Nat):Int):=w64 (by omega) (by omega)
  have hix:=fun H k=>q00c H q0To (k:=k) (s:=9) hx rfl
  simp only [q0To] at hix
  have ln:=fun H=>q0V4 x H
  have hm:o.length+1<most:=by unfold most;omega
  simp [lbE,hlt,hix,q0To,subs,q001,w,ln,hm]
 ·rintro o-
  refine ⟨?_,by simp [lbX]⟩
  simp [lbE,lbX]
theorem q0Vg (H:Heap):clD EE (.p (.fn 40)) [] H=some (.p (.bool true),none):=q16o H
theorem q0V8 (z:Lin) (r:List Lin) (H:Heap):slcI H 9 (vLins (z::r)) none (some (vI 1))=some (vLins [z]):=by
 have hh:q066 9 ((z::r).map q0To)=true:=rfl
 have g2:(1:Int)≤((r.length+1:Nat):Int):=by omega
 simp [slcI,slcV,q066]
 omega
theorem billSums_ev (l:List Lin):clD EE (.p (.fn 10)) [vLins l] []=some (.p (.bool true),none):=by
 rw [q002 _ _ _ _ _ _ (noP _) fn10]
 have aw:=fun H=>q0Vg H
 by_cases hl:60<l.length
 ·have hl3:(60:Int)<l.length:=by omega
  simp [St.enter,q000,hl3,aw]
 ·have hl2:l.length≤60:=by omega
  have hl3: ¬(60:Int)<l.length:=by omega
  have k:=lb_lp l hl2 []
  have m1:=fun H=>q0V5 l (by omega) H
  have s1:=fun H=>q0U4 l (by omega) H
  have m2:=fun T=>q0Uw l (by omega) 0 (.row 9 (upV (l.map q0To))::T) rfl
  have s2:=fun T=>q0V6 l (by omega) 0 (.row 9 (upV (l.map q0To))::T) rfl
  cases l with
  |nil=>
   have e1:mostL []= -1:=rfl
   have e2:sumLi []=(0,0):=rfl
   rw [e1] at m1 m2
   rw [e2] at s1 s2
   simp only [vLins,List.map_nil] at m1 s1
   simp [lbE,lbX,hLi,rLi] at k m2 s2
   simp [St.enter,q000,k,m1,s1,m2,s2,aw,subs,q001]
  |cons z r=>
   obtain ⟨t0,t1,t2⟩:=q0Ux z r
   have c1:=fun H=>q0Vf (z::r) (mostL (z::r)) t0 t1 H
   have c2:=fun H=>q0V8 z r H
   have u1:=fun H=>q0U4 [rd (z::r) (mostL (z::r))] (by simp) H
   have u2:=fun H=>q0U4 [z] (by simp) H
   have rc:=fun H=>q0U6 (sumLi [rd (z::r) (mostL (z::r))]) (sumLi [z]) H
   have fin:=q0V7 t2
   have w:IntKind.i64.wrap (mostL (z::r)+1)=mostL (z::r)+1:=w64 (by omega) (by omega)
   have n0: ¬mostL (z::r)<0:=by omega
   generalize mostL (z::r)=M at*
   generalize rd (z::r) M=Y at*
   generalize sumLi (z::r)=S at*
   generalize sumLi [Y]=SY at*
   generalize sumLi [z]=SZ at*
   generalize z::r=L at*
   simp only [vLins,List.map_cons,List.map_nil] at u1 u2
   simp [lbE,lbX,hLi,rLi] at k
   simp [St.enter,q000,hl3,k,m1,s1,m2,s2,c1,c2,u1,u2,rc,fin,w,n0,aw,subs,q001]
end Go.EnvOf
