/- The program's functions and the document's, evaluated. -/
import Derived.Test.YtjjdmlpdgcdehaaGreatText1
import Derived.Test.YtjjdmlpdgcdehaaGreatTab
set_option linter.unusedSimpArgs false
set_option linter.unusedVariables false
namespace Go.EnvOf
open Go Go.Eng
abbrev I64 (n:Int):Prop:= -9223372036854775808≤n∧n≤9223372036854775807
structure Item where
 k:Int
 h:Int
 f:Int
 str:Int
 ord:Int
 shr:Int
 n:Int
 deriving Inhabited,DecidableEq
def q004 (x:Item):List PV:=[.int .i64 x.k,.int .i64 x.h,.int .i64 x.f,.int .i64 x.str,.int .i64 x.ord,.int .i64 x.shr,.int .i64 x.n]
@[simp] theorem q0G1 (x:Item):(q004 x).length=7:=rfl
abbrev q006 (l:List Item):V:= .p (.sl (l.map q004))
structure Note where
 lines:List Int
 pens:List Int
 deriving Inhabited,DecidableEq
def q00e (n:Note):List PV:=[.sl (n.lines.map encI),.sl (n.pens.map encI)]
@[simp] theorem q0G2 (n:Note):(q00e n).length=2:=rfl
abbrev q00b (l:List Note):V:= .p (.sl (l.map q00e))
abbrev vNote (n:Note):V:= .agg [sli n.lines,sli n.pens]
structure Float where
 c:Int
 h:Int
 w:Int
 deriving Inhabited,DecidableEq
def q009 (f:Float):List PV:=[.int .i64 f.c,.int .i64 f.h,.int .i64 f.w]
@[simp] theorem q0Dv (f:Float):(q009 f).length=3:=rfl
abbrev q005 (l:List Float):V:= .p (.sl (l.map q009))
structure Geom where
 cols:Int
 wide:Int
 gap:Int
 high:Int
 first:Int
 grid:Int
 rule:Int
 sep:Int
 noteMost:Int
 topMost:Int
 botMost:Int
 topMany:Int
 botMany:Int
 club:Int
 widow:Int
 split:Int
 defer:Int
 spare:Int
 balance:Bool
 deriving Inhabited,DecidableEq
abbrev cGeom (g:Geom):List V:=[.p (.int .i64 g.cols),.p (.int .i64 g.wide),.p (.int .i64 g.gap),.p (.int .i64 g.high),.p (.int .i64 g.first),.p (.int .i64 g.grid),.p (.int .i64 g.rule),.p (.int .i64 g.sep),.p (.int .i64 g.noteMost),.p (.int .i64 g.topMost),
 .p (.int .i64 g.botMost),.p (.int .i64 g.topMany),.p (.int .i64 g.botMany),.p (.int .i64 g.club),.p (.int .i64 g.widow),.p (.int .i64 g.split),.p (.int .i64 g.defer),.p (.int .i64 g.spare),.p (.bool g.balance)]
structure Job where
 g:Geom
 items:List Item
 notes:List Note
 floats:List Float
 deriving Inhabited,DecidableEq
abbrev vJob (j:Job):V:= .agg (cGeom j.g++[q006 j.items,q00b j.notes,q005 j.floats])
end Go.EnvOf
namespace Go.EnvOf
open Go Go.Eng
def figOf (c:Int):Nat→List Float→List Int
 |_,[]=>[]
 |i,f::r=>(if f.c=c then [(i:Int)] else [])++figOf c (i+1) r
end Go.EnvOf
namespace Go.Eng
open Go
section
variable {α:Type} {E:Env} (f:FuncId) (s:Nat) (agg:Bool) (enc:α→List PV) (val:α→V)
end
section
variable {α:Type} [DecidableEq α] {E:Env} (f:FuncId) (s:Nat) (sh:List Bool) (enc:α→List PV)
end
end Go.Eng
namespace Go.EnvOf
open Go Go.Eng
set_option maxRecDepth 100000
structure C3 where
 a:Int
 b:Int
 c:Int
 deriving Inhabited,DecidableEq
def held (n lo hi:Int):Int:=min (max n lo) hi
end Go.EnvOf
namespace Go.EnvOf
open Go Go.Eng
set_option maxRecDepth 100000
def encC (x:C3):List PV:=[.int .i64 x.a,.int .i64 x.b,.int .i64 x.c]
@[simp] theorem q0Qz (x:C3):(encC x).length=3:=rfl
def place (m s:C3):Int:=if s.c<m.c then 2 else if s.b<m.b then 1 else if s.a<m.a then 0 else-1
end Go.EnvOf
