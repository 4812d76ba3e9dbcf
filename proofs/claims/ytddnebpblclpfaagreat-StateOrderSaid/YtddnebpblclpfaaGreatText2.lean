/- The program's functions and the document's, evaluated. -/
import Derived.Test.YtddnebpblclpfaaGreatText1
import Derived.Test.YtddnebpblclpfaaGreatTab
set_option linter.unusedSimpArgs false
set_option linter.unusedVariables false
/- The program's plain data: items, notes, floats, geometries, jobs. -/
namespace Go.EnvOf
open Go Go.Eng

/-- A number that is there. -/
abbrev I64 (n : Int) : Prop := -9223372036854775808 ≤ n ∧ n ≤ 9223372036854775807

structure Item where
  k : Int
  h : Int
  f : Int
  str : Int
  ord : Int
  shr : Int
  n : Int
  deriving Inhabited, DecidableEq
def encItem (x : Item) : List PV := [.int .i64 x.k, .int .i64 x.h, .int .i64 x.f, .int .i64 x.str, .int .i64 x.ord, .int .i64 x.shr, .int .i64 x.n]
@[simp] theorem encItem_len (x : Item) : (encItem x).length = 7 := rfl
structure Note where
  lines : List Int
  pens : List Int
  deriving Inhabited, DecidableEq
def encNote (n : Note) : List PV := [.sl (n.lines.map encI), .sl (n.pens.map encI)]
@[simp] theorem encNote_len (n : Note) : (encNote n).length = 2 := rfl
structure Float where
  c : Int
  h : Int
  w : Int
  deriving Inhabited, DecidableEq
def encFloat (f : Float) : List PV := [.int .i64 f.c, .int .i64 f.h, .int .i64 f.w]
@[simp] theorem encFloat_len (f : Float) : (encFloat f).length = 3 := rfl
structure Geom where
  cols : Int
  wide : Int
  gap : Int
  high : Int
  first : Int
  grid : Int
  rule : Int
  sep : Int
  noteMost : Int
  topMost : Int
  botMost : Int
  topMany : Int
  botMany : Int
  club : Int
  widow : Int
  split : Int
  defer : Int
  spare : Int
  balance : Bool
  deriving Inhabited, DecidableEq
structure Job where
  g : Geom
  items : List Item
  notes : List Note
  floats : List Float
  deriving Inhabited, DecidableEq
end Go.EnvOf

/- Anchors: the first one that is out of order. -/
namespace Go.EnvOf
open Go Go.Eng

/-! ### By the document -/
/-! ### By the program -/
end Go.EnvOf

/- Reckoning with scaled points: sums, differences, multiples; by the program and by the document. -/
namespace Go.EnvOf
open Go Go.Eng

def addF (a b : Int) : Option Int := if -9223372036854775808 ≤ a + b ∧ a + b ≤ 9223372036854775807 then some (a + b) else none
def upF (a s : Int) : Option Int := if s < 1 then none else if a % s = 0 then some a else addF a (s - a % s)
/-! ### On a grid -/
def orN (o : Option Int) (n : Int) : Int := match o with | some a => a | none => n
def upG (n s : Int) : Int := orN (upF n s) n
end Go.EnvOf

/- Searching and comparing lists: the library's functions, whatever the elements are. -/
namespace Go.Eng
open Go

/-! ### IndexFunc -/
section
variable {α : Type} {E : Env} (f : FuncId) (s : Nat) (agg : Bool) (enc : α → List PV) (val : α → V)
end

/-! ### ContainsFunc -/
/-! ### Two lists, side by side -/
/-! ### slices.Equal -/
section
variable {α : Type} [DecidableEq α] {E : Env} (f : FuncId) (s : Nat) (sh : List Bool) (enc : α → List PV)
end
end Go.Eng

/- Geometries that may be. -/
namespace Go.EnvOf
open Go Go.Eng

/-! ### By the document -/
end Go.EnvOf

/- Bounds of lengths on a grid. -/
namespace Go.EnvOf
open Go Go.Eng
set_option maxRecDepth 100000
end Go.EnvOf

/- Floats: those of a class. -/
namespace Go.EnvOf
open Go Go.Eng

/-- The places, from i on, of the floats of a class. -/
def figOf (c : Int) : Nat → List Float → List Int
  | _, [] => []
  | i, f :: r => (if f.c = c then [(i : Int)] else []) ++ figOf c (i + 1) r

end Go.EnvOf

/- Floats: the one at a place. -/
namespace Go.EnvOf
open Go Go.Eng
set_option maxRecDepth 100000
/-! ### The float at a place -/
end Go.EnvOf

/- Jobs on a grid: lengths turned in place. -/
namespace Go.EnvOf
open Go Go.Eng

/-! ### The items -/
/-- The copy of a list. -/
def cloneV {α : Type} (n : Nat) (l : List α) : V := if l = [] then .nils else .row n l.length 0 l.length
/-! ### The notes -/
def rowsH (l : List Int) : Heap := if l = [] then [] else [.row 1 (upV (l.map encI))]
@[simp] theorem cells_cloneV {α : Type} (n : Nat) (l : List α) : (cloneV n l).cells = [cloneV n l] := by unfold cloneV; split <;> rfl
@[simp] theorem oneB_cloneV {α : Type} (n : Nat) (l : List α) : (cloneV n l).oneB = true := by unfold cloneV; split <;> rfl
@[simp] theorem outB_cloneV {α : Type} (n : Nat) (l : List α) : (cloneV n l).outB = true := by unfold cloneV; split <;> rfl
@[simp] theorem notL_cloneV {α : Type} (n : Nat) (l : List α) : (cloneV n l).notL = true := by unfold cloneV; split <;> rfl
@[simp] theorem cloneV_nil {α : Type} (n : Nat) : cloneV n ([] : List α) = .nils := rfl
@[simp] theorem rowsH_nil : rowsH [] = [] := rfl
@[simp] theorem cloneV_cons {α : Type} (n : Nat) (x : α) (r : List α) : cloneV n (x :: r) = .row n (x :: r).length 0 (x :: r).length := rfl
@[simp] theorem rowsH_cons (x : Int) (r : List Int) : rowsH (x :: r) = [.row 1 (upV ((x :: r).map encI))] := rfl
/-! ### The job -/
end Go.EnvOf

/- Jobs: whether all is on the grid. -/
namespace Go.EnvOf
open Go Go.Eng

def off (s n : Int) : Bool := !decide (n.tmod s = 0)
/-! ### By the document -/
end Go.EnvOf

/- Items that may be. -/
namespace Go.EnvOf
open Go Go.Eng

/-! ### The forms -/
/-! ### The check -/
end Go.EnvOf

/- Items that may be, by the document. -/
namespace Go.EnvOf
open Go Go.Eng

end Go.EnvOf
