/- The program's functions and the document's, evaluated. -/
import Derived.Test.YtddnebpblclpfaaGreatEngAll8
import Derived.Test.YtddnebpblclpfaaGreatText3
import Derived.Test.YtddnebpblclpfaaGreatText2
set_option linter.unusedSimpArgs false
set_option linter.unusedVariables false
/- The layer queue: taking the next floats of each class. -/
namespace Go.EnvOf
open Go Go.Eng
set_option maxRecDepth 100000

theorem okEl_upV : ∀ (es : List Int), (upV (es.map encI)).all (okEl 1) = true
  | [] => rfl
  | x :: r => by simp only [List.map_cons, upV_cons, List.all_cons, okEl_upV r, Bool.and_true]; rfl
/-! ### A class's share -/
def okU (n : Nat) (u w : Int) : Prop := 0 ≤ u ∧ 0 ≤ w ∧ u ≤ n ∧ w ≤ n - u
instance (n : Nat) (u w : Int) : Decidable (okU n u w) := inferInstanceAs (Decidable (_ ∧ _))
/-! ### Taking -/
def okT (l : List Float) (x y : C3) : Prop := okU (figOf 0 0 l).length x.a y.a ∧ okU (figOf 1 0 l).length x.b y.b ∧ okU (figOf 2 0 l).length x.c y.c
instance (l : List Float) (x y : C3) : Decidable (okT l x y) := inferInstanceAs (Decidable (_ ∧ _))
end Go.EnvOf

/- The layer queue: counting what was taken; the next ones. -/
namespace Go.EnvOf
open Go Go.Eng
set_option maxRecDepth 100000
/-! ### Equal lists of numbers -/
/-! ### Are these the next ones? -/
end Go.EnvOf

/- Jobs on a grid, by the document. -/
namespace Go.EnvOf
open Go Go.Eng

def rowsG {α : Type} (s : Nat) (enc : α → List PV) (l : List α) : Heap := if l = [] then [] else [.row s (upV (l.map enc))]
@[simp] theorem rowsG_nil {α : Type} (s : Nat) (enc : α → List PV) : rowsG s enc [] = [] := rfl
/-! ### The items -/
/-! ### The floats -/
/-! ### The notes -/
def rnH (s : Int) (n : Note) : Heap := rowsG 1 encI (n.lines.map fun x => upG x s)
def rnVq (s : Int) (l : List Note) (G : Heap) : V := match l with | [] => .nils | n :: r => .row (G.length + (rnH s n).length) (r.length + 1) 0 (r.length + 1)
/-! ### All of it -/
@[simp] theorem oneB_rnVq (s : Int) (l : List Note) (G : Heap) : (rnVq s l G).oneB = true := by cases l <;> rfl
@[simp] theorem cells_rnVq (s : Int) (l : List Note) (G : Heap) : (rnVq s l G).cells = [rnVq s l G] := by cases l <;> rfl
end Go.EnvOf
