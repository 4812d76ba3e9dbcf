/- The program's functions and the document's, evaluated. -/
import Derived.Test.YtddnebpblclpfaaGreatText1
import Derived.Test.YtddnebpblclpfaaGreatTab
set_option linter.unusedSimpArgs false
set_option linter.unusedVariables false
/- The program's plain data: items, notes, floats, geometries, jobs. -/
namespace Go.EnvOf
open Go Go.Eng

/-- A number that is there. -/
abbrev I64 (n : Int) : Prop := -9223372036854775808 ≤ n ∧ n ≤ 9223372036854775807

structure Item where
  k : Int
  h : Int
  f : Int
  str : Int
  ord : Int
  shr : Int
  n : Int
  deriving Inhabited, DecidableEq
def encItem (x : Item) : List PV := [.int .i64 x.k, .int .i64 x.h, .int .i64 x.f, .int .i64 x.str, .int .i64 x.ord, .int .i64 x.shr, .int .i64 x.n]
@[simp] theorem encItem_len (x : Item) : (encItem x).length = 7 := rfl
abbrev vItems (l : List Item) : V := .p (.sl (l.map encItem))
structure Note where
  lines : List Int
  pens : List Int
  deriving Inhabited, DecidableEq
def encNote (n : Note) : List PV := [.sl (n.lines.map encI), .sl (n.pens.map encI)]
@[simp] theorem encNote_len (n : Note) : (encNote n).length = 2 := rfl
structure Float where
  c : Int
  h : Int
  w : Int
  deriving Inhabited, DecidableEq
def encFloat (f : Float) : List PV := [.int .i64 f.c, .int .i64 f.h, .int .i64 f.w]
@[simp] theorem encFloat_len (f : Float) : (encFloat f).length = 3 := rfl
end Go.EnvOf

/- Floats: those of a class. -/
namespace Go.EnvOf
open Go Go.Eng

/-- The places, from i on, of the floats of a class. -/
def figOf (c : Int) : Nat → List Float → List Int
  | _, [] => []
  | i, f :: r => (if f.c = c then [(i : Int)] else []) ++ figOf c (i + 1) r

end Go.EnvOf

/- Floats: the one at a place. -/
namespace Go.EnvOf
open Go Go.Eng
set_option maxRecDepth 100000
/-! ### The float at a place -/
end Go.EnvOf

/- Searching and comparing lists: the library's functions, whatever the elements are. -/
namespace Go.Eng
open Go

/-- A loop that ends as soon as something holds, always alike. -/
def stepB {α ρ : Type} (p : α → Bool) (bad : ρ) (_ : Unit) (_ : Nat) (x : α) : Unit ⊕ ρ := if p x = true then .inr bad else .inl ()
theorem rng_any {α ρ : Type} (p : α → Bool) (bad fin : ρ) : ∀ (l : List α) (i : Nat), rng (stepB p bad) (fun _ => fin) () i l = if l.any p = true then bad else fin
  | [], _ => rfl
  | x :: r, i => by
    simp only [rng, List.any_cons, stepB]
    by_cases h : p x = true
    · simp [h]
    · have ih := rng_any p bad fin r (i + 1)
      simp only [h, Bool.false_eq_true, if_false, Bool.false_or]
      exact ih

/-! ### IndexFunc -/
section
variable {α : Type} {E : Env} (f : FuncId) (s : Nat) (agg : Bool) (enc : α → List PV) (val : α → V)
end

/-! ### ContainsFunc -/
/-! ### Two lists, side by side -/
/-- Whether all pairs are such, up to the shorter one. -/
def all2 {α β : Type} (p : α → β → Bool) : List α → List β → Bool
  | x :: r, y :: s => p x y && all2 p r s
  | _, _ => true
theorem all2_eq {α : Type} [DecidableEq α] : ∀ (a b : List α), a.length = b.length → all2 (fun x y => decide (x = y)) a b = decide (a = b)
  | [], [], _ => rfl
  | x :: r, y :: s, h => by
    have ih := all2_eq r s (by simpa using h)
    simp only [all2, ih]
    by_cases hx : x = y <;> simp [hx]
/-- A loop through two lists at once: its step. -/
def step2 {α β ρ : Type} (p : α → β → Bool) (b : List β) (bad : ρ) (_ : Unit) (i : Nat) (x : α) : Unit ⊕ ρ := match b[i]? with | some y => (if p x y = true then .inl () else .inr bad) | none => .inr bad
theorem step2_some {α β ρ : Type} {p : α → β → Bool} {b : List β} {bad : ρ} {u : Unit} {i : Nat} {x : α} {y : β} (h : b[i]? = some y) : step2 p b bad u i x = if p x y = true then .inl () else .inr bad := by unfold step2; rw [h]
theorem rng_all2 {α β ρ : Type} (p : α → β → Bool) (b : List β) (bad fin : ρ) : ∀ (l : List α) (i : Nat), i + l.length ≤ b.length →
    rng (step2 p b bad) (fun _ => fin) () i l = if all2 p l (b.drop i) = true then fin else bad
  | [], i, _ => by simp [rng, all2]
  | x :: r, i, h => by
    simp only [List.length_cons] at h
    have hi : i < b.length := by omega
    rw [List.drop_eq_getElem_cons hi]
    simp only [rng, all2, step2_some (List.getElem?_eq_getElem hi)]
    by_cases hp : p x b[i] = true
    · have ih := rng_all2 p b bad fin r (i + 1) (by omega)
      simp only [hp, if_true, Bool.true_and]
      exact ih
    · simp [hp]

/-! ### slices.Equal -/
section
variable {α : Type} [DecidableEq α] {E : Env} (f : FuncId) (s : Nat) (sh : List Bool) (enc : α → List PV)
end
end Go.Eng
