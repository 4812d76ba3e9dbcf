/- The program's functions and the document's, evaluated. -/
import Derived.Test.YtpibjnnbploadaaGreatText5
import Derived.Test.YtpibjnnbploadaaGreatText3
import Derived.Test.YtpibjnnbploadaaGreatText2
import Derived.Test.YtpibjnnbploadaaGreatText4
set_option linter.unusedSimpArgs false
set_option linter.unusedVariables false
namespace Go.EnvOf
open Go Go.Eng
set_option maxRecDepth 100000
structure Tot where
 nat : Int
 s0 : Int
 s1 : Int
 s2 : Int
 s3 : Int
 shr : Int
 deriving Inhabited, DecidableEq
def encTot (t : Tot) : List PV := [.int .i64 t.nat, .int .i64 t.s0, .int .i64 t.s1, .int .i64 t.s2, .int .i64 t.s3, .int .i64 t.shr]
@[simp] theorem q0y7 (t : Tot) : (encTot t).length = 6 := rfl
abbrev vTot (t : Tot) : V := .agg [vI t.nat, vI t.s0, vI t.s1, vI t.s2, vI t.s3, vI t.shr]
def zeroT : Tot := ⟨0, 0, 0, 0, 0, 0⟩
def addT (a b : Tot) : Tot := ⟨a.nat + b.nat, a.s0 + b.s0, a.s1 + b.s1, a.s2 + b.s2, a.s3 + b.s3, a.shr + b.shr⟩
def subT (a b : Tot) : Tot := ⟨a.nat - b.nat, a.s0 - b.s0, a.s1 - b.s1, a.s2 - b.s2, a.s3 - b.s3, a.shr - b.shr⟩
def glueT (h str ord shr : Int) : Tot := ⟨h, if ord = 0 then str else 0, if ord = 1 then str else 0, if ord = 2 then str else 0, if ord = 3 then str else 0, shr⟩
def totI (x : Item) : Tot := if x.k = 1 then ⟨x.h, 0, 0, 0, 0, 0⟩ else if x.k = 2 then glueT x.h x.str x.ord x.shr else zeroT
def totP (l : List Item) : Tot := l.foldl (fun t x => addT t (totI x)) zeroT
theorem q0kw (l : List Item) (x : Item) : totP (l ++ [x]) = addT (totP l) (totI x) := by simp [totP]
def boxI1 (x : Item) : Int := if x.k = 1 then x.h else 0
def boxP (l : List Item) : Int := l.foldl (fun t x => t + boxI1 x) 0
theorem q0kx (l : List Item) (x : Item) : boxP (l ++ [x]) = boxP l + boxI1 x := by simp [boxP]
structure inT (m : Int) (t : Tot) : Prop where
 nat : 0 ≤ t.nat ∧ t.nat ≤ m
 s0 : 0 ≤ t.s0 ∧ t.s0 ≤ m
 s1 : 0 ≤ t.s1 ∧ t.s1 ≤ m
 s2 : 0 ≤ t.s2 ∧ t.s2 ≤ m
 s3 : 0 ≤ t.s3 ∧ t.s3 ≤ m
 shr : 0 ≤ t.shr ∧ t.shr ≤ m
theorem q0od : inT 0 zeroT := by constructor <;> simp [zeroT]
theorem q0rr {m k : Int} {a b : Tot} (ha : inT m a) (hb : inT k b) : inT (m + k) (addT a b) := by
 obtain ⟨⟨a1, a2⟩, ⟨a3, a4⟩, ⟨a5, a6⟩, ⟨a7, a8⟩, ⟨a9, b1⟩, ⟨b2, b3⟩⟩ := ha
 obtain ⟨⟨c1, c2⟩, ⟨c3, c4⟩, ⟨c5, c6⟩, ⟨c7, c8⟩, ⟨c9, d1⟩, ⟨d2, d3⟩⟩ := hb
 constructor <;> simp only [addT] <;> omega
structure fairI (x : Item) : Prop where
 h : 0 ≤ x.h ∧ x.h ≤ 4294967296
 str : 0 ≤ x.str ∧ x.str ≤ 4294967296
 shr : 0 ≤ x.shr ∧ x.shr ≤ 4294967296
theorem q09w {x : Item} (f : fairI x) : inT 4294967296 (totI x) := by
 have a := f.h
 have b := f.str
 have c := f.shr
 unfold totI
 split
 ·constructor <;> simp only <;> omega
 ·split
  ·unfold glueT; constructor <;> simp only <;> first | omega | (split <;> omega)
  ·constructor <;> simp [zeroT]
theorem q09x : ∀ (l : List Item), (∀ x ∈ l, fairI x) → inT (4294967296 * l.length) (totP l) := by
 have key : ∀ (l : List Item) (t : Tot) (m : Int), inT m t → (∀ x ∈ l, fairI x) → inT (m + 4294967296 * l.length) (l.foldl (fun t x => addT t (totI x)) t) := by
  intro l
  induction l with
  | nil => intro t m h _; simpa using h
  | cons x r ih =>
    intro t m h hf
    have h1 := ih _ _ (q0rr h (q09w (hf x List.mem_cons_self))) fun y hy => hf y (List.mem_cons_of_mem _ hy)
    simp only [List.foldl_cons, List.length_cons]
    have e : m + 4294967296 * ((r.length + 1 : Nat) : Int) = m + 4294967296 + 4294967296 * r.length := by simp only [Int.natCast_add, Int.natCast_one]; omega
    rw [e]; exact h1
 intro l hf
 have := key l zeroT 0 q0od hf
 simpa [totP] using this
theorem q0oe {x : Item} (f : fairI x) : 0 ≤ boxI1 x ∧ boxI1 x ≤ 4294967296 := by
 have := f.h
 unfold boxI1; split <;> omega
theorem q0h2 : ∀ (l : List Item), (∀ x ∈ l, fairI x) → 0 ≤ boxP l ∧ boxP l ≤ 4294967296 * l.length := by
 have key : ∀ (l : List Item) (t m : Int), 0 ≤ t → t ≤ m → (∀ x ∈ l, fairI x) → 0 ≤ l.foldl (fun t x => t + boxI1 x) t ∧ l.foldl (fun t x => t + boxI1 x) t ≤ m + 4294967296 * l.length := by
  intro l
  induction l with
  | nil => intro t m h h2 _; simp; omega
  | cons x r ih =>
    intro t m h h2 hf
    have hx := q0oe (hf x List.mem_cons_self)
    have h1 := ih (t + boxI1 x) (m + 4294967296) (by omega) (by omega) fun y hy => hf y (List.mem_cons_of_mem _ hy)
    simp only [List.foldl_cons, List.length_cons]
    have e : m + 4294967296 * ((r.length + 1 : Nat) : Int) = m + 4294967296 + 4294967296 * r.length := by simp only [Int.natCast_add, Int.natCast_one]; omega
    rw [e]; exact h1
 intro l hf
 have := key l 0 0 (by omega) (by omega) hf
 simpa [boxP] using this
theorem q0i9 {n s : Int} (h0 : 0 ≤ n) (h1 : n ≤ 1073741823) (h2 : s ≤ 1073741823) : 0 ≤ nearG n s ∧ nearG n s ≤ 4294967296 := by
 unfold nearG
 split
 ·omega
 ·split
  ·exact q053 h0 h1 (by omega) h2
  ·exact q052 h0 h1 (by omega) h2
theorem q09b {x : Item} (h : rightF x = true) : fairI x := by
 simp [rightF, Bool.and_eq_true, lenOK, decide_eq_true_eq] at h
 constructor <;> omega
theorem q0ia {x : Item} {s : Int} (h : rightF x = true) (h1 : 1 ≤ s) (h2 : s ≤ 1073741823) : fairI (itemG s x) := by
 have f := q09b h
 simp [rightF, Bool.and_eq_true, lenOK, decide_eq_true_eq] at h
 unfold itemG
 split
 ·exact ⟨q052 (by omega) (by omega) h1 h2, f.str, f.shr⟩
 ·split
  ·exact ⟨q0i9 (by omega) (by omega) h2, by simp, by simp⟩
  ·exact f
theorem q06j {g : Geom} (h : geomF g = 0) : 0 ≤ g.grid ∧ g.grid ≤ 536870912 ∧ 1 ≤ g.cols ∧ g.cols ≤ 8 ∧ 1 ≤ g.high ∧ g.high ≤ 1073741823 ∧ 0 ≤ g.rule ∧ g.rule ≤ 536870912 ∧ 0 ≤ g.sep ∧ g.sep ≤ 536870912 := by
 unfold geomF at h
 by_cases q1 : inR 1 8 [g.cols] = false
 ·rw [if_pos q1] at h; omega
 rw [if_neg q1] at h
 by_cases q2 : inR 1 1073741823 [g.wide, g.high] = false
 ·rw [if_pos q2] at h; omega
 rw [if_neg q2] at h
 by_cases q3 : inR 0 1073741823 [g.gap, g.noteMost, g.topMost, g.botMost] = false
 ·rw [if_pos q3] at h; omega
 rw [if_neg q3] at h
 by_cases q4 : inR 0 536870912 [g.rule, g.sep, g.grid] = false
 ·rw [if_pos q4] at h; omega
 have a1 := q01t q1 g.cols (by simp)
 have a2 := q01t q2 g.high (by simp)
 have a3 := q01t q4 g.grid (by simp)
 have a4 := q01t q4 g.rule (by simp)
 have a5 := q01t q4 g.sep (by simp)
 omega
theorem q0b3 {j : Job} (r : Right j) : ∀ x ∈ (snapG j).items, fairI x := by
 have hg := q06j r.g
 unfold snapG
 split
 ·exact fun x hx => q09b (r.items x hx)
 ·intro x hx
  obtain ⟨y, hy, rfl⟩ := List.mem_map.1 hx
  exact q0ia (r.items y hy) (by omega) (by omega)
end Go.EnvOf
namespace Go.EnvOf
open Go Go.Eng
set_option maxRecDepth 100000
structure Colm where
 k : Int
 frm : Int
 to : Int
 notes : List Piece
 top : List Int
 bot : List Int
 deriving Inhabited, DecidableEq
abbrev vColm (c : Colm) : V := .agg [vI c.k, vI c.frm, vI c.to, vPieces c.notes, sli c.top, sli c.bot]
theorem q0of (s : Int) (x : Item) : (itemG s x).k = x.k := by unfold itemG; (repeat' split) <;> rfl
theorem q0rs (s : Int) (x : Item) : (itemG s x).n = x.n := by unfold itemG; (repeat' split) <;> rfl
theorem q09c (j : Job) : ∃ f : Item → Item, (snapG j).items = j.items.map f ∧ ∀ x, (f x).k = x.k ∧ (f x).n = x.n := by
 unfold snapG
 split
 ·exact ⟨fun x => x, by simp, fun x => ⟨rfl, rfl⟩⟩
 ·exact ⟨itemG j.g.grid, rfl, fun x => ⟨q0of _ x, q0rs _ x⟩⟩
theorem q0b4 (j : Job) : (snapG j).notes.length = j.notes.length := by unfold snapG; split <;> simp
theorem q0ky (j : Job) : (snapG j).floats.length = j.floats.length := by unfold snapG; split <;> simp
theorem q0kz (j : Job) : (snapG j).items.length = j.items.length := by unfold snapG; split <;> simp
theorem q0b5 (j : Job) : (snapG j).g.cols = j.g.cols := by unfold snapG; split <;> rfl
theorem q0h3 (k : Int) (f : Item → Item) (hf : ∀ x, (f x).k = x.k) (l : List Item) : cnt k (l.map f) = cnt k l := by
 unfold cnt
 induction l with
 | nil => rfl
 | cons x r ih => simp only [List.map_cons, List.filter_cons, hf]; split <;> simp [ih]
end Go.EnvOf
namespace Go.EnvOf
open Go Go.Eng
set_option maxRecDepth 100000
def hpOf (H : Heap) : Option (Heap × List Nat) → Heap
 | none => H
 | some x => x.1
def dsOf : Option (Heap × List Nat) → List Nat
 | none => []
 | some x => x.2
theorem q013 {H : Heap} {q : Nat} {cs : List V} (h : Eng.boxAt H q = some cs) : q < H.length := by
 unfold Eng.boxAt at h
 rcases Nat.lt_or_ge q H.length with g | g
 ·exact g
 ·rw [List.getElem?_eq_none g] at h; cases h
theorem q0og {B i x : Nat} {d : List Nat} (h : x ∈ d) : x ∈ addD B i d := by
 unfold addD
 split
 ·exact List.mem_cons_of_mem _ h
 ·exact h
theorem q0l0 {B x : Nat} {d : List Nat} (h : x < B) : x ∈ addD B x d := by
 unfold addD
 rw [if_pos h]
 exact List.mem_cons_self
theorem q05a {B x : Nat} : ∀ {ds d : List Nat}, x ∈ ds → x < B → x ∈ ds.foldr (addD B) d
 | y :: ds, d, h, hx => by
   rcases List.mem_cons.1 h with rfl | h
   ·exact q0l0 hx
   ·exact q0og (q05a h hx)
theorem q035 {B x : Nat} : ∀ {ds d : List Nat}, x ∈ ds.foldr (addD B) d → x ∈ ds ∨ x ∈ d
 | [], _, h => .inr h
 | y :: ds, d, h => by
   simp only [List.foldr_cons, addD] at h
   split at h
   ·rcases List.mem_cons.1 h with rfl | h
    ·exact .inl List.mem_cons_self
    ·rcases q035 h with h | h
     ·exact .inl (List.mem_cons_of_mem _ h)
     ·exact .inr h
   ·rcases q035 h with h | h
    ·exact .inl (List.mem_cons_of_mem _ h)
    ·exact .inr h
theorem rd_of {α : Type} [Inhabited α] {l : List α} {i : Nat} {x : α} (h : l[i]? = some x) : rd l i = x := by
 unfold rd
 simp [List.getD, h]
end Go.EnvOf
namespace Go.EnvOf
open Go Go.Eng
set_option maxRecDepth 100000
def encC3 (c : C3) : List PV := [.int .i64 c.a, .int .i64 c.b, .int .i64 c.c]
@[simp] theorem q0Cv (c : C3) : (encC3 c).length = 3 := rfl
def vListW (l : List Item) : V := .eptr [vItems l] 0
def vSumsW (l : List Item) : V := .eptr [vItems l, .p (.sl ((preL totP l (l.length + 1)).map encTot)), sli (preL boxP l (l.length + 1))] 0
def vMapW (l : List Item) (fs : List Float) : V := .eptr [vItems l, sli (preL begunP l (l.length + 1)), .p (.sl ((preL (aheadP fs) l (l.length + 1)).map encC3)), .p (.sl ((preL (dueP fs) l (l.length + 1)).map encC3))] 0
def vTextW (j : Job) : V := .eptr [vListW j.items, vSumsW j.items, vMapW j.items j.floats] 0
def preN (l : List Note) : List Int := (List.range (l.length + 1)).map fun k => lineN (l.take k)
abbrev cJobW (j : Job) : List V := cGeom j.g ++ [vItems j.items, vNotes j.notes, vFloats j.floats]
def vW (j : Job) : V := .eptr (vTextW j :: (cJobW j ++ [sli (preN j.notes), vI (allS j).a, vI (allS j).b, vI (allS j).c])) 0
section
variable (l : List Item)
@[simp] theorem q0tj (k : Nat) : staleB (vListW l) k = true := _root_.id rfl
@[simp] theorem q0y8 (k i : Nat) : escV k i (vListW l) = (vListW l) := _root_.id rfl
@[simp] theorem q0vi : outL (vListW l) = (vListW l) := _root_.id rfl
@[simp] theorem q0vj : V.notL (vListW l) = true := _root_.id rfl
@[simp] theorem q0vk : V.outB (vListW l) = true := _root_.id rfl
@[simp] theorem q0vl : V.oneB (vListW l) = true := _root_.id rfl
@[simp] theorem q0tk : V.cells (vListW l) = [(vListW l)] := _root_.id rfl
@[simp] theorem q0tl : normA (vListW l) = (vListW l) := _root_.id rfl
@[simp] theorem q0tm : normC (vListW l) = (vListW l) := _root_.id rfl
@[simp] theorem q0tn : V.isNil .ptr (vListW l) = some false := _root_.id rfl
@[simp] theorem q0sf : V.plainR (vListW l) = true := _root_.id rfl
@[simp] theorem q0sg : V.plainB (vListW l) = true := _root_.id rfl
@[simp] theorem q0y9 : solN sd (vListW l) = true := _root_.id rfl
@[simp] theorem q0ib (b d : Nat) (H : Heap) : rowIds b H d (vListW l) = [] := by cases d <;> rfl
@[simp] theorem q0vm (S : St) : rowIdsR S (vListW l) = [] := q0ib _ _ _ _
@[simp] theorem q0Cw (S : St) : Eng.freeze S (vListW l) = some (vListW l) := _root_.id rfl
@[simp] theorem q0ya (S : St) : Eng.freezeR S (vListW l) = some (vListW l) := _root_.id rfl
end
section
variable (l : List Item)
@[simp] theorem q0to (k : Nat) : staleB (vSumsW l) k = true := _root_.id rfl
@[simp] theorem q0yb (k i : Nat) : escV k i (vSumsW l) = (vSumsW l) := _root_.id rfl
@[simp] theorem q0vn : outL (vSumsW l) = (vSumsW l) := _root_.id rfl
@[simp] theorem q0vo : V.notL (vSumsW l) = true := _root_.id rfl
@[simp] theorem q0vp : V.outB (vSumsW l) = true := _root_.id rfl
@[simp] theorem q0vq : V.oneB (vSumsW l) = true := _root_.id rfl
@[simp] theorem q0tp : V.cells (vSumsW l) = [(vSumsW l)] := _root_.id rfl
@[simp] theorem q0tq : normA (vSumsW l) = (vSumsW l) := _root_.id rfl
@[simp] theorem q0tr : normC (vSumsW l) = (vSumsW l) := _root_.id rfl
@[simp] theorem q0ts : V.isNil .ptr (vSumsW l) = some false := _root_.id rfl
@[simp] theorem q0sh : V.plainR (vSumsW l) = true := _root_.id rfl
@[simp] theorem q0si : V.plainB (vSumsW l) = true := _root_.id rfl
@[simp] theorem q0yc : solN sd (vSumsW l) = true := _root_.id rfl
@[simp] theorem q0ic (b d : Nat) (H : Heap) : rowIds b H d (vSumsW l) = [] := by cases d <;> rfl
@[simp] theorem q0vr (S : St) : rowIdsR S (vSumsW l) = [] := q0ic _ _ _ _
@[simp] theorem q0Cx (S : St) : Eng.freeze S (vSumsW l) = some (vSumsW l) := _root_.id rfl
@[simp] theorem q0yd (S : St) : Eng.freezeR S (vSumsW l) = some (vSumsW l) := _root_.id rfl
end
section
variable (l : List Item) (fs : List Float)
@[simp] theorem q0vs (k : Nat) : staleB (vMapW l fs) k = true := _root_.id rfl
@[simp] theorem q0Cy (k i : Nat) : escV k i (vMapW l fs) = (vMapW l fs) := _root_.id rfl
@[simp] theorem q0ye : outL (vMapW l fs) = (vMapW l fs) := _root_.id rfl
@[simp] theorem q0yf : V.notL (vMapW l fs) = true := _root_.id rfl
@[simp] theorem q0yg : V.outB (vMapW l fs) = true := _root_.id rfl
@[simp] theorem q0yh : V.oneB (vMapW l fs) = true := _root_.id rfl
@[simp] theorem q0vt : V.cells (vMapW l fs) = [(vMapW l fs)] := _root_.id rfl
@[simp] theorem q0vu : normA (vMapW l fs) = (vMapW l fs) := _root_.id rfl
@[simp] theorem q0vv : normC (vMapW l fs) = (vMapW l fs) := _root_.id rfl
@[simp] theorem q0vw : V.isNil .ptr (vMapW l fs) = some false := _root_.id rfl
@[simp] theorem q0tt : V.plainR (vMapW l fs) = true := _root_.id rfl
@[simp] theorem q0tu : V.plainB (vMapW l fs) = true := _root_.id rfl
@[simp] theorem q0Cz : solN sd (vMapW l fs) = true := _root_.id rfl
@[simp] theorem q0l1 (b d : Nat) (H : Heap) : rowIds b H d (vMapW l fs) = [] := by cases d <;> rfl
@[simp] theorem q0yi (S : St) : rowIdsR S (vMapW l fs) = [] := q0l1 _ _ _ _ _
@[simp] theorem q0Gg (S : St) : Eng.freeze S (vMapW l fs) = some (vMapW l fs) := _root_.id rfl
@[simp] theorem q0D0 (S : St) : Eng.freezeR S (vMapW l fs) = some (vMapW l fs) := _root_.id rfl
end
section
variable (j : Job)
@[simp] theorem q0tv (k : Nat) : staleB (vTextW j) k = true := _root_.id rfl
@[simp] theorem q0yj (k i : Nat) : escV k i (vTextW j) = (vTextW j) := _root_.id rfl
@[simp] theorem q0vx : outL (vTextW j) = (vTextW j) := _root_.id rfl
@[simp] theorem q0vy : V.notL (vTextW j) = true := _root_.id rfl
@[simp] theorem q0vz : V.outB (vTextW j) = true := _root_.id rfl
@[simp] theorem q0w0 : V.oneB (vTextW j) = true := _root_.id rfl
@[simp] theorem q0tw : V.cells (vTextW j) = [(vTextW j)] := _root_.id rfl
@[simp] theorem q0tx : normA (vTextW j) = (vTextW j) := _root_.id rfl
@[simp] theorem q0ty : normC (vTextW j) = (vTextW j) := _root_.id rfl
@[simp] theorem q0tz : V.isNil .ptr (vTextW j) = some false := _root_.id rfl
@[simp] theorem q0sj : V.plainR (vTextW j) = true := _root_.id rfl
@[simp] theorem q0sk : V.plainB (vTextW j) = true := _root_.id rfl
@[simp] theorem q0yk : solN sd (vTextW j) = true := _root_.id rfl
@[simp] theorem q0id (b d : Nat) (H : Heap) : rowIds b H d (vTextW j) = [] := by cases d <;> rfl
@[simp] theorem q0w1 (S : St) : rowIdsR S (vTextW j) = [] := q0id _ _ _ _
@[simp] theorem q0D1 (S : St) : Eng.freeze S (vTextW j) = some (vTextW j) := _root_.id rfl
@[simp] theorem q0yl (S : St) : Eng.freezeR S (vTextW j) = some (vTextW j) := _root_.id rfl
end
section
variable (j : Job)
@[simp] theorem q0Gh (k : Nat) : staleB (vW j) k = true := _root_.id rfl
@[simp] theorem q0Iv (k i : Nat) : escV k i (vW j) = (vW j) := _root_.id rfl
@[simp] theorem q0I9 : outL (vW j) = (vW j) := _root_.id rfl
@[simp] theorem q0Ia : V.notL (vW j) = true := _root_.id rfl
@[simp] theorem q0Ib : V.outB (vW j) = true := _root_.id rfl
@[simp] theorem q0Ic : V.oneB (vW j) = true := _root_.id rfl
@[simp] theorem q0Gi : V.cells (vW j) = [(vW j)] := _root_.id rfl
@[simp] theorem q0Gj : normA (vW j) = (vW j) := _root_.id rfl
@[simp] theorem q0Gk : normC (vW j) = (vW j) := _root_.id rfl
@[simp] theorem q0Gl : V.isNil .ptr (vW j) = some false := _root_.id rfl
@[simp] theorem q0D2 : V.plainR (vW j) = true := _root_.id rfl
@[simp] theorem q0D3 : V.plainB (vW j) = true := _root_.id rfl
@[simp] theorem q0Iw : solN sd (vW j) = true := _root_.id rfl
@[simp] theorem q0u0 (b d : Nat) (H : Heap) : rowIds b H d (vW j) = [] := by cases d <;> rfl
@[simp] theorem q0Id (S : St) : rowIdsR S (vW j) = [] := q0u0 _ _ _ _
@[simp] theorem vW_fz (S : St) : Eng.freeze S (vW j) = some (vW j) := _root_.id rfl
@[simp] theorem q0Ix (S : St) : Eng.freezeR S (vW j) = some (vW j) := _root_.id rfl
end
def itemAt (l : List Item) (n : Int) : Option Item := if 0 ≤ n ∧ n < l.length then some (rd l n) else none
theorem q05b (l : List Item) (n : Nat) : itemAt l n = l[n]? := by
 unfold itemAt
 by_cases h : n < l.length
 ·rw [if_pos ⟨by omega, by omega⟩, List.getElem?_eq_getElem h, rd_of (List.getElem?_eq_getElem h)]
 ·rw [if_neg (by omega), List.getElem?_eq_none (by omega)]
theorem q0l2 (x : Item) (H : Heap) : clD EE (.p (.fn 347)) [vItem x] H = some (vB (looseI x), none) := by
 rw [q000 _ _ _ _ _ _ (noP _) fn347]
 unfold looseI
 by_cases h : x.k = 2 <;> simp [St.enter, enumFrom, subs, setSubs, h]
theorem q00o (l : List Item) (H : Heap) : clD EE (.p (.fn 82)) [vListW l] H = some (vI l.length, none) := by
 rw [q000 _ _ _ _ _ _ (noP _) fn82]
 simp [vListW, St.enter, enumFrom, subs, setSubs]
theorem q043 (l : List Item) (n : Int) (H : Heap) : clD EE (.p (.fn 286)) [vListW l, vI n] H = some (.tup [match itemAt l n with | some x => vItem x | none => .agg [vI 0, vI 0, vI 0, vI 0, vI 0, vI 0, vI 0], vB (itemAt l n).isSome], none) := by
 rw [q000 _ _ _ _ _ _ (noP _) fn286]
 have hl := fun H => q00o l H
 unfold itemAt
 simp only [vListW] at hl ⊢
 by_cases h1 : n < 0
 ·simp [St.enter, enumFrom, subs, setSubs, h1, show ¬ 0 ≤ n by omega]
 ·by_cases h2 : (l.length : Int) ≤ n
  ·simp [St.enter, enumFrom, subs, setSubs, h1, h2, hl, show ¬ n < l.length by omega]
  ·have hx := q02d l n (by omega) (by omega)
   have hix := fun H k => q02q H encItem (k := k) (s := 7) (by omega) hx rfl
   simp [St.enter, enumFrom, subs, setSubs, h1, h2, hl, show 0 ≤ n ∧ n < l.length by omega, hix, encItem]
theorem q0oh (l : List Item) (n : Nat) (H : Heap) : clD EE (.p (.fn 218)) [vListW l, vI n] H = some (vB (stayB l n), none) := by
 rw [q000 _ _ _ _ _ _ (noP _) fn218]
 have h := fun H => q043 l n H
 rw [q05b] at h
 unfold stayB
 cases hx : l[n]? with
 | none =>
   simp only [hx] at h
   simp only [vListW] at h ⊢
   simp [St.enter, enumFrom, subs, setSubs, h]
 | some x =>
   simp only [hx] at h
   have lo := fun H => q0l2 x H
   simp only [vListW] at h ⊢
   simp [St.enter, enumFrom, subs, setSubs, h, lo]
theorem q0rt (l : List Item) (hv : V) (p : Nat → Bool) (hl : l.length ≤ 1000000) (H : Heap) (hH : ∀ n : Nat, n ≤ l.length → clD EE hv [vI n] H = some (vB (p n), none)) : ∀ (k n : Nat), n ≤ l.length + 1 → l.length + 1 - n = k →
  evD EE lp217_0 ⟨[(0, vListW l), (2, hv), (7, vI n)], [], H, H.length, []⟩ = some (if seekP p k n = -1 then (.exit 0, ⟨[(0, vListW l), (2, hv), (7, vI (l.length + 1)), (12, vB false)], [], H, H.length, []⟩) else (.ret, ⟨[(6, vI (seekP p k n))], [], H, H.length, []⟩)) := by
 intro k
 induction k with
 | zero =>
   intro n h1 h2
   have e : n = l.length + 1 := by omega
   subst e
   have hle := fun H => q00o l H
   unfold lp217_0
   rw [q003]
   simp only [vListW] at hle ⊢
   simp [seekP, hle, show ¬ (l.length : Int) + 1 ≤ l.length by omega]
 | succ k ih =>
   intro n h1 h2
   have hle := fun H => q00o l H
   have c : (n : Int) ≤ l.length := by omega
   have w : IntKind.i64.wrap ((n : Int) + 1) = ((n + 1 : Nat) : Int) := w64 (by omega) (by omega)
   have hp := hH n (by omega)
   simp only [seekP]
   by_cases hb : p n = true
   ·rw [hb] at hp
    have hne : ¬ (n : Int) = -1 := by omega
    simp only [if_pos hb, if_neg hne]
    unfold lp217_0
    rw [q003]
    simp only [vListW] at hle ⊢
    simp [hle, c, hp]
   ·have hb' : p n = false := by simpa using hb
    rw [hb'] at hp
    have key := ih (n + 1) (by omega) (by omega)
    simp only [if_neg hb]
    rw [← key]
    conv => lhs; unfold lp217_0
    rw [q003]
    simp only [vListW] at hle ⊢
    simp [hle, c, hp, w]
    rfl
theorem q09y (l : List Item) (n : Nat) (hv : V) (p : Nat → Bool) (hl : l.length ≤ 1000000) (H : Heap) (hH : ∀ n : Nat, n ≤ l.length → clD EE hv [vI n] H = some (vB (p n), none)) (h1 : n ≤ l.length + 1) (ho : hv.outB = true) (hn : normA hv = hv) :
  clD EE (.p (.fn 217)) [vListW l, vI n, hv] H = some (vI (seekP p (l.length + 1 - n) n), none) := by
 rw [q000 _ _ _ _ _ _ (noP _) fn217]
 have k := q0rt l hv p hl H hH _ n h1 rfl
 by_cases h : seekP p (l.length + 1 - n) n = -1
 ·rw [if_pos h] at k
  simp only [vListW] at k ⊢
  simp [St.enter, enumFrom, k, h]
 ·rw [if_neg h] at k
  simp only [vListW] at k ⊢
  simp [St.enter, enumFrom, k]
theorem q0ru (l : List Item) (n : Int) (hl : l.length ≤ 1000000) (H : Heap) : clD EE (.p (.fn 87)) [vListW l, vI n] H = some (vI (trimF l n), none) := by
 rw [q000 _ _ _ _ _ _ (noP _) fn87]
 have hle := fun H => q00o l H
 have hk : min (max n 0) (l.length : Int) = (putN l n : Int) := by unfold putN; omega
 have hp := q06w l n
 have s := fun H => q09y l (putN l n) (.fn (.func 218) [vListW l] []) (stayB l) hl H (fun m _ => by rw [q00v]; exact q0oh l m H) (by omega) rfl rfl
 have e := q0az l _ (putN l n) hp rfl
 rw [e] at s
 unfold trimF
 simp only [vListW] at hle s ⊢
 simp [St.enter, enumFrom, hle, hk, s]
section
variable (l : List Item) (fs : List Float) (hl : l.length ≤ 1000000)
theorem q08a (n : Int) (H : Heap) : clD EE (.p (.fn 202)) [vMapW l fs, vI n] H = some (.tup [vI (putN l n), vB true], none) := by
 rw [q000 _ _ _ _ _ _ (noP _) fn202]
 have hk : min (max n 0) (l.length : Int) = (putN l n : Int) := by unfold putN; omega
 simp only [vMapW]
 simp [St.enter, enumFrom, subs, setSubs, hk]
theorem q08b (n : Int) (H : Heap) : clD EE (.p (.fn 254)) [vMapW l fs, vI n] H = some (vI (begunP (l.take (putN l n))), none) := by
 rw [q000 _ _ _ _ _ _ (noP _) fn254]
 have hp := fun H => q08a l fs n H
 have hn := q06w l n
 have hx := q01v begunP l (l.length + 1) (putN l n) (by omega)
 have hix := fun H k => q00a H encI (k := k) (s := 1) hx rfl
 simp only [vMapW] at hp ⊢
 simp [St.enter, enumFrom, subs, setSubs, hp, hix, encI]
theorem q05c (n : Int) (H : Heap) : clD EE (.p (.fn 77)) [vMapW l fs, vI n] H = some (vC (aheadP fs (l.take (putN l n))), none) := by
 rw [q000 _ _ _ _ _ _ (noP _) fn77]
 have hp := fun H => q08a l fs n H
 have hn := q06w l n
 have hx := q01v (aheadP fs) l (l.length + 1) (putN l n) (by omega)
 have hix := fun H k => q00a H encC3 (k := k) (s := 3) hx rfl
 simp only [vMapW] at hp ⊢
 simp [St.enter, enumFrom, subs, setSubs, hp, hix, encC3]
theorem q0l3 (n : Int) (H : Heap) : clD EE (.p (.fn 253)) [vMapW l fs, vI n] H = some (vC (dueP fs (l.take (putN l n))), none) := by
 rw [q000 _ _ _ _ _ _ (noP _) fn253]
 have hp := fun H => q08a l fs n H
 have hn := q06w l n
 have hx := q01v (dueP fs) l (l.length + 1) (putN l n) (by omega)
 have hix := fun H k => q00a H encC3 (k := k) (s := 3) hx rfl
 simp only [vMapW] at hp ⊢
 simp [St.enter, enumFrom, subs, setSubs, hp, hix, encC3]
end
end Go.EnvOf
namespace Go.EnvOf
open Go Go.Eng
set_option maxRecDepth 100000
structure okW (j : Job) : Prop where
 n1 : j.items.length ≤ 1000000
 n2 : j.notes.length ≤ 1000000
 n3 : j.floats.length ≤ 100000
 lines : ∀ n ∈ j.notes, n.lines.length ≤ 1000000
 cols : I64 j.g.cols ∧ j.g.cols ≤ 1000
 refs : begunP j.items ≤ j.notes.length
theorem q01w {j : Job} (w : okW j) (n : Int) : begunF j n ≤ j.notes.length := by
 have h := w.refs
 unfold begunF begunP at *
 have := q07k 5 j.items (putN j.items n)
 omega
theorem q0b6 (j : Job) (n : Int) : 0 ≤ begunF j n := (q0b1 _).1
section
variable (j : Job) (w : okW j)
theorem q03q (H : Heap) : clD EE (.p (.fn 100)) [vW j] H = some (vJob j, none) := by
 rw [q000 _ _ _ _ _ _ (noP _) fn100]
 simp only [vW, cJobW, cGeom, List.cons_append, List.nil_append]
 simp [St.enter, enumFrom, subs, setSubs]
include w in
theorem q0ie (s : Stt) (H : Heap) : clD EE (.p (.fn 132)) [vW j, vStt s] H = some (vB (carriesF j s), none) := by
 rw [q000 _ _ _ _ _ _ (noP _) fn132]
 have hb := fun H => q08b j.items j.floats s.at_ H
 have hle := q01w w s.at_
 have hge := q0b6 j s.at_
 change ∀ H, clD EE _ _ H = some (vI (begunF j s.at_), none) at hb
 have w1 : IntKind.i64.wrap (begunF j s.at_ - 1) = begunF j s.at_ - 1 := w64 (by have := w.n2; omega) (by have := w.n2; omega)
 unfold carriesF
 generalize begunF j s.at_ = b at *
 simp only [vW, vTextW, cJobW, cGeom, List.cons_append, List.nil_append]
 by_cases h0 : s.line = 0
 ·simp [St.enter, enumFrom, subs, setSubs, hb, h0]
 ·by_cases h1 : s.note = b - 1
  ·by_cases h2 : s.note < 0
   ·simp [St.enter, enumFrom, subs, setSubs, hb, h0, w1, h1, show b - 1 < 0 by omega]
   ·by_cases h3 : s.line < 1
    ·simp [St.enter, enumFrom, subs, setSubs, hb, h0, w1, h1, show ¬ b - 1 < 0 by omega, h3]
    ·have hx := q02d j.notes s.note (by omega) (by omega)
     have hix := fun H k => q02q H encNote (k := k) (s := 2) (by omega) hx rfl
     have hl := w.lines _ (List.mem_of_getElem? hx)
     have hm := fun H => q0te (rd j.notes s.note).lines (rd j.notes s.note).pens s.line H (by omega)
     rw [h1] at hix hm hl ⊢
     simp only [encNote] at hix
     simp only [note, sli] at hm
     by_cases h4 : s.line < ((rd j.notes (b - 1)).lines.length : Int)
     ·simp [St.enter, enumFrom, subs, setSubs, hb, h0, w1, h1, show ¬ b - 1 < 0 by omega, h3, hix, h4, hm]
     ·simp [St.enter, enumFrom, subs, setSubs, hb, h0, w1, h1, show ¬ b - 1 < 0 by omega, h3, hix, h4]
  ·simp [St.enter, enumFrom, subs, setSubs, hb, h0, w1, h1]
include w in
theorem q01a (s : Stt) (H : Heap) : clD EE (.p (.fn 38)) [vW j, vStt s] H = some (vB (rightS j s), none) := by
 rw [q000 _ _ _ _ _ _ (noP _) fn38]
 have hl := fun H => q00o j.items H
 have ht := fun H => q0ru j.items s.at_ w.n1 H
 have hc := fun H => q0ie j w s H
 have ha := fun H => q05c j.items j.floats s.at_ H
 change ∀ H, clD EE _ _ H = some (vC (aheadF j s.at_), none) at ha
 have i1 := fun H => in_ev zeroC s.h H
 have i2 := fun H => in_ev s.h (aheadF j s.at_) H
 unfold rightS
 simp only [vW, vTextW, cJobW, cGeom, List.cons_append, List.nil_append, zeroC] at hc i1 ⊢
 by_cases h1 : s.at_ < 0
 ·simp [St.enter, enumFrom, subs, setSubs, h1]
 ·by_cases h2 : (j.items.length : Int) < s.at_
  ·simp [St.enter, enumFrom, subs, setSubs, h1, hl, h2]
  ·by_cases h3 : (trimF j.items s.at_ : Int) = s.at_
   ·by_cases h4 : s.col < 0
    ·simp [St.enter, enumFrom, subs, setSubs, h1, hl, h2, ht, h3, h4]
    ·by_cases h5 : j.g.cols < s.col
     ·simp [St.enter, enumFrom, subs, setSubs, h1, hl, h2, ht, h3, h4, h5]
     ·cases c1 : carriesF j s with
      | false => simp [St.enter, enumFrom, subs, setSubs, h1, hl, h2, ht, h3, h4, h5, hc, c1]
      | true =>
        cases c2 : inC ⟨0, 0, 0⟩ s.h with
        | false => simp [St.enter, enumFrom, subs, setSubs, h1, hl, h2, ht, h3, h4, h5, hc, c1, i1, c2]
        | true => simp [St.enter, enumFrom, subs, setSubs, h1, hl, h2, ht, h3, h4, h5, hc, c1, i1, c2, ha, i2]
   ·simp [St.enter, enumFrom, subs, setSubs, h1, hl, h2, ht, h3]
end
end Go.EnvOf
namespace Go.EnvOf
open Go Go.Eng
set_option maxRecDepth 100000
section
variable (j : Job) (w : okW j)
include w in
theorem q044 (s : Stt) (to : Int) (H : Heap) : clD EE (.p (.fn 121)) [vW j, vStt s, vI to] H = some (vSpot (spotS j s to), none) := by
 rw [q000 _ _ _ _ _ _ (noP _) fn121]
 have hr := fun H => q01a j w s H
 have b1 := fun H => q08b j.items j.floats to H
 have b2 := fun H => q08b j.items j.floats s.at_ H
 change ∀ H, clD EE _ _ H = some (vI (begunF j to), none) at b1
 change ∀ H, clD EE _ _ H = some (vI (begunF j s.at_), none) at b2
 unfold spotS
 cases c : rightS j s with
 | false =>
   rw [c] at hr
   simp [St.enter, enumFrom, subs, setSubs, hr]
 | true =>
   rw [c] at hr
   simp only [vW, vTextW, cJobW, cGeom, List.cons_append, List.nil_append] at hr ⊢
   simp [St.enter, enumFrom, subs, setSubs, hr, b1, b2]
include w in
theorem q0l4 (s : Stt) (H : Heap) : clD EE (.p (.fn 101)) [vW j, vStt s] H = some (vI (highS j s), none) := by
 rw [q000 _ _ _ _ _ _ (noP _) fn101]
 have hr := fun H => q01a j w s H
 unfold highS
 cases c : rightS j s with
 | false =>
   rw [c] at hr
   simp [St.enter, enumFrom, subs, setSubs, hr]
 | true =>
   rw [c] at hr
   simp only [vW, vTextW, cJobW, cGeom, List.cons_append, List.nil_append] at hr ⊢
   by_cases h : s.col < j.g.cols
   ·simp [St.enter, enumFrom, subs, setSubs, hr, h]
   ·simp [St.enter, enumFrom, subs, setSubs, hr, h]
include w in
include w in
include w in
theorem q06k (s : Stt) (H : Heap) : clD EE (.p (.fn 31)) [vW j, vStt s] H = some (vB (doneS j s), none) := by
 rw [q000 _ _ _ _ _ _ (noP _) fn31]
 have hr := fun H => q01a j w s H
 have hl := fun H => q00o j.items H
 obtain ⟨sa, sc, sn, sl, ⟨x, y, z⟩⟩ := s
 have e : (decide (x = (allS j).a) && (decide (y = (allS j).b) && decide (z = (allS j).c))) = decide (C3.mk x y z = allS j) := by
  generalize allS j = q
  obtain ⟨a, b, c⟩ := q
  simp [Bool.decide_and]
 unfold doneS
 simp only [vW, vTextW, cJobW, cGeom, List.cons_append, List.nil_append] at hr ⊢
 cases c : rightS j ⟨sa, sc, sn, sl, ⟨x, y, z⟩⟩ with
 | false =>
   rw [c] at hr
   simp [St.enter, enumFrom, subs, setSubs, hr]
 | true =>
   rw [c] at hr
   by_cases h1 : sa = j.items.length
   ·subst h1
    by_cases h2 : sl = 0
    ·subst h2
     by_cases h3 : sn = j.notes.length
     ·subst h3
      simp [St.enter, enumFrom, subs, setSubs, hr, hl, e]
     ·simp [St.enter, enumFrom, subs, setSubs, hr, hl, h3]
    ·simp [St.enter, enumFrom, subs, setSubs, hr, hl, h2]
   ·simp [St.enter, enumFrom, subs, setSubs, hr, hl, h1]
include w in
end
end Go.EnvOf
namespace Go.Eng
open Go
@[simp] theorem q0Ie (v : V) : zR (some (v, none)) = zV [] v := rfl
@[simp] theorem q0If (v : V) (H : Heap) : zR (some (v, some (H, []))) = zV H v := rfl
@[simp] theorem q0ym : zR none = none := rfl
@[simp] theorem q0Iy (H : Heap) (vs : List V) : zV H (.tup vs) = (allO (solV H sd) vs).map .tup := rfl
@[simp] theorem zV_p (H : Heap) (x : PV) : zV H (.p x) = some (.p x) := rfl
@[simp] theorem q0Ig (H : Heap) : zV H .nils = some (.p (.sl [])) := rfl
@[simp] theorem q0u1 (H : Heap) (a b c d : Nat) : zV H (.row a b c d) = (frz 0 H deep (.row a b c d)).map .p := rfl
@[simp] theorem q0Iz (H : Heap) (id off : Nat) : zV H (.ptr id off) = (Eng.boxAt H id).bind fun cs => (allO (solV H 5) cs).map fun cs' => .eptr cs' off := rfl
@[simp] theorem q0J0 (H : Heap) (d : Nat) (x : PV) : solV H d (.p x) = some (.p x) := by cases d <;> rfl
@[simp] theorem q0D4 (H : Heap) (d : Nat) : solV H d .nils = some (.p (.sl [])) := by cases d <;> rfl
@[simp] theorem q0Gm (H : Heap) (d a b c e : Nat) : solV H d (.row a b c e) = (frz 0 H deep (.row a b c e)).map .p := by cases d <;> rfl
@[simp] theorem q0D5 (H : Heap) (id off : Nat) : solV H sd (.ptr id off) = (Eng.boxAt H id).bind fun cs => (allO (solV H 5) cs).map fun cs' => .eptr cs' off := rfl
@[simp] theorem q0yn (H : Heap) (id off : Nat) : solV H 6 (.ptr id off) = (Eng.boxAt H id).bind fun cs => (allO (solV H 5) cs).map fun cs' => .eptr cs' off := rfl
@[simp] theorem q0D6 (H : Heap) (id off : Nat) : solV H 5 (.ptr id off) = (Eng.boxAt H id).bind fun cs => (allO (solV H 4) cs).map fun cs' => .eptr cs' off := rfl
@[simp] theorem q0yo (a b : Nat) : V.plainB (.ptr a b) = false := rfl
@[simp] theorem q0yp (a b : Nat) : plainT (.ptr a b) = false := rfl
theorem q01x {H : Heap} {id n s : Nat} {es : List (List PV)} (h : Eng.rowAt H id = some (s, upV es)) (hn : es.length = n) : frz 0 H deep (.row id n 0 n) = some (.sl es) := by
 unfold deep
 rw [q09q, if_pos (Nat.zero_le _), h, q0df, if_pos hn]
 simp [← hn]
end Go.Eng
namespace Go.EnvOf
open Go Go.Eng
set_option maxRecDepth 100000
@[simp] theorem q0sl (l : List Item) : plainT (vSumsW l) = true := rfl
@[simp] theorem q0D7 (j : Job) : plainT (vW j) = true := rfl
@[simp] theorem q0w2 (H : Heap) (l : List Item) : solV H 5 (vListW l) = some (vListW l) := rfl
@[simp] theorem q0w3 (H : Heap) (j : Job) : solV H 5 (vTextW j) = some (vTextW j) := rfl
@[simp] theorem q0u2 (H : Heap) (l : List Item) : solV H 4 (vListW l) = some (vListW l) := rfl
@[simp] theorem q0u3 (H : Heap) (l : List Item) : solV H 4 (vSumsW l) = some (vSumsW l) := rfl
@[simp] theorem q0w4 (H : Heap) (l : List Item) (fs : List Float) : solV H 4 (vMapW l fs) = some (vMapW l fs) := rfl
theorem q09d {α : Type} (f : FuncId) (s : Nat) (z : List V) (enc : α → List PV) (hs : ∀ x, (enc x).length = s) (hf : EE.fns f = some (cloneI s z)) (l : List α) (hm : l.length < most) (hp : EE.prims f = none := by exact noP _) :
  zR (clD EE (.p (.fn f)) [.p (.sl (l.map enc))] []) = some (.p (.sl (l.map enc))) := by
 rw [q02l f s z [] enc hs hf l hm hp]
 cases l with
 | nil => rfl
 | cons x r =>
   have h : Eng.rowAt ([] ++ [DObj.row s (upV ((x :: r).map enc))]) 0 = some (s, upV ((x :: r).map enc)) := rfl
   show zV _ (.row 0 (x :: r).length 0 (x :: r).length) = _
   rw [q0u1, q01x h (by simp)]
   rfl
theorem q02m (l : List Item) (h : l.length ≤ 1000000) : zR (clD EE (.p (.fn 189)) [vItems l] []) = some (vItems l) := q09d _ 7 _ encItem (fun _ => rfl) fn189 l (by unfold most; omega)
theorem q0c1 (l : List Float) (h : l.length ≤ 1000000) : zR (clD EE (.p (.fn 190)) [vFloats l] []) = some (vFloats l) := q09d _ 3 _ encFloat (fun _ => rfl) fn190 l (by unfold most; omega)
theorem q0if (l : List Int) (h : l.length ≤ 1000000) : zR (clD EE (.p (.fn 191)) [sli l] []) = some (sli l) := q09d _ 1 _ encI (fun _ => rfl) fn191 l (by unfold most; omega)
theorem q0fp (l : List Int) (h : l.length ≤ 1000000) : zR (clD EE (.p (.fn 192)) [sli l] []) = some (sli l) := q09d _ 1 _ encI (fun _ => rfl) fn192 l (by unfold most; omega)
theorem q0ig (l : List Item) (h : l.length ≤ 1000000) : zR (clD EE (.p (.fn 75)) [vItems l] []) = some (vListW l) := by
 rw [q000 _ _ _ _ _ _ (noP _) fn75]
 have c := q02m l h
 simp [St.enter, enumFrom, subs, setSubs, solN, sd, c, allO, vListW]
end Go.EnvOf
namespace Go.EnvOf
open Go Go.Eng
set_option maxRecDepth 100000
theorem q0oi (f : FuncId) (x y z : Int) (p q : Nat) (H : Heap) (hf : clD EE (.p (.fn f)) [vI x, vI y] H = some (resT (some z), none)) (h1 : Eng.boxAt H p = some [.p (.fn f)]) (h2 : Eng.boxAt H q = some [vB true]) :
  clD EE (.p (.fn 412)) [vI x, vI y, .ptr p 0, .ptr q 0] H = some (vI z, some (H, [q])) := by
 rw [q000 _ _ _ _ _ _ (noP _) fn412]
 have hlt := q013 h2
 have e : H.set q (.box [vB true]) = H := by
  unfold Eng.boxAt at h2
  split at h2
  ·rename_i cs h3
   cases h2
   obtain ⟨h4, h5⟩ := List.getElem?_eq_some_iff.1 h3
   rw [← h5]; exact List.set_getElem_self h4
  ·cases h2
 have a1 : subs [V.p (PV.fn f)] 0 1 = some [V.p (PV.fn f)] := rfl
 have a2 : subs [vB true] 0 1 = some [vB true] := rfl
 have a3 : setSubs [vB true] 0 [vB true] = some [vB true] := rfl
 simp only [resT] at hf
 simp [St.enter, enumFrom, h1, h2, a1, a2, a3, hf, e, hlt]
theorem q0h4 (f : FuncId) (a b c : Tot) (H : Heap) (hf : ∀ (x y z : Int) (H : Heap), (x, y, z) ∈ [(a.nat, b.nat, c.nat), (a.s0, b.s0, c.s0), (a.s1, b.s1, c.s1), (a.s2, b.s2, c.s2), (a.s3, b.s3, c.s3), (a.shr, b.shr, c.shr)] → clD EE (.p (.fn f)) [vI x, vI y] H = some (resT (some z), none)) :
  clD EE (.p (.fn 337)) [vTot a, vTot b, .p (.fn f)] H = some (.tup [vTot c, vB true], none) := by
 rw [q000 _ _ _ _ _ _ (noP _) fn337]
 have k : ∀ x y z, (x, y, z) ∈ [(a.nat, b.nat, c.nat), (a.s0, b.s0, c.s0), (a.s1, b.s1, c.s1), (a.s2, b.s2, c.s2), (a.s3, b.s3, c.s3), (a.shr, b.shr, c.shr)] → clD EE (.fn (.func 412) [] [.ptr H.length 0, .ptr (H.length + 1) 0]) [vI x, vI y] (H ++ [.box [.p (.fn f)], .box [vB true]]) = some (vI z, some (H ++ [.box [.p (.fn f)], .box [vB true]], [H.length + 1])) := by
  intro x y z hm
  rw [q00v]
  exact q0oi f x y z H.length (H.length + 1) _ (hf x y z _ hm) (by simp) (by simp)
 have k0 := k a.nat b.nat c.nat (by simp)
 have k1 := k a.s0 b.s0 c.s0 (by simp)
 have k2 := k a.s1 b.s1 c.s1 (by simp)
 have k3 := k a.s2 b.s2 c.s2 (by simp)
 have k4 := k a.s3 b.s3 c.s3 (by simp)
 have k5 := k a.shr b.shr c.shr (by simp)
 have w1 : IntKind.i64.wrap 1 = 1 := by decide
 have w2 : IntKind.i64.wrap 2 = 2 := by decide
 have w3 : IntKind.i64.wrap 3 = 3 := by decide
 have w4 : IntKind.i64.wrap 4 = 4 := by decide
 have ad : addD H.length (H.length + 1) [] = [] := by unfold addD; rw [if_neg (by omega)]
 simp [St.enter, enumFrom, subs, setSubs, k0, k1, k2, k3, k4, k5, lp337_0, q003, ixaV, shiftV, w1, w2, w3, w4, ad]
structure inT64 (t : Tot) : Prop where
 nat : I64 t.nat
 s0 : I64 t.s0
 s1 : I64 t.s1
 s2 : I64 t.s2
 s3 : I64 t.s3
 shr : I64 t.shr
theorem q03r {m : Int} {t : Tot} (h : inT m t) (hm : m ≤ 9223372036854775807) : inT64 t := by
 obtain ⟨⟨a1, a2⟩, ⟨a3, a4⟩, ⟨a5, a6⟩, ⟨a7, a8⟩, ⟨a9, b1⟩, ⟨b2, b3⟩⟩ := h
 constructor <;> constructor <;> omega
theorem q0rv {a b : Int} (h : I64 (a + b)) : addF a b = some (a + b) := by unfold addF; rw [if_pos h]
theorem q0rw {a b : Int} (h : I64 (a - b)) : subF a b = some (a - b) := by unfold subF; rw [if_pos h]
theorem q0l5 (a b : Tot) (ha : inT64 a) (hb : inT64 b) (hc : inT64 (addT a b)) (H : Heap) : clD EE (.p (.fn 200)) [vTot a, vTot b] H = some (.tup [vTot (addT a b), vB true], none) := by
 rw [q000 _ _ _ _ _ _ (noP _) fn200]
 have one : ∀ (x y : Int) (H : Heap), I64 x → I64 y → I64 (x + y) → clD EE (.p (.fn 338)) [vI x, vI y] H = some (resT (some (x + y)), none) := by
  intro x y H hx hy hz
  rw [q0kf x y H hx hy, q0rv hz]
 have h := fun H => q0h4 338 a b (addT a b) H (fun x y z H hm => by
  simp only [List.mem_cons, Prod.mk.injEq, List.not_mem_nil, or_false] at hm
  rcases hm with ⟨rfl, rfl, rfl⟩ | ⟨rfl, rfl, rfl⟩ | ⟨rfl, rfl, rfl⟩ | ⟨rfl, rfl, rfl⟩ | ⟨rfl, rfl, rfl⟩ | ⟨rfl, rfl, rfl⟩
  ·exact one _ _ _ ha.nat hb.nat hc.nat
  ·exact one _ _ _ ha.s0 hb.s0 hc.s0
  ·exact one _ _ _ ha.s1 hb.s1 hc.s1
  ·exact one _ _ _ ha.s2 hb.s2 hc.s2
  ·exact one _ _ _ ha.s3 hb.s3 hc.s3
  ·exact one _ _ _ ha.shr hb.shr hc.shr)
 generalize addT a b = c at *
 simp [St.enter, enumFrom, subs, setSubs, h]
theorem q0l6 (h : Int) (H : Heap) : clD EE (.p (.fn 334)) [vI h] H = some (vTot ⟨h, 0, 0, 0, 0, 0⟩, none) := by
 rw [q000 _ _ _ _ _ _ (noP _) fn334]
 simp [St.enter, enumFrom, subs, setSubs]
theorem q0ih (h str ord shr : Int) (H : Heap) : clD EE (.p (.fn 335)) [vI h, vI str, vI ord, vI shr] H = some (vTot (glueT h str ord shr), none) := by
 rw [q000 _ _ _ _ _ _ (noP _) fn335]
 unfold glueT
 by_cases c0 : ord = 0
 ·simp [St.enter, enumFrom, subs, setSubs, c0, ixaV, shiftV]
 ·by_cases c1 : ord = 1
  ·simp [St.enter, enumFrom, subs, setSubs, c1, ixaV, shiftV]
  ·by_cases c2 : ord = 2
   ·simp [St.enter, enumFrom, subs, setSubs, c2, ixaV, shiftV]
   ·by_cases c3 : ord = 3
    ·simp [St.enter, enumFrom, subs, setSubs, c3, ixaV, shiftV]
    ·by_cases c4 : ord < 0
     ·simp [St.enter, enumFrom, subs, setSubs, c0, c1, c2, c3, show ¬ 0 ≤ ord by omega]
     ·simp [St.enter, enumFrom, subs, setSubs, c0, c1, c2, c3, show 0 ≤ ord by omega, show ¬ ord < 4 by omega]
theorem q0ea (x : Item) (H : Heap) : clD EE (.p (.fn 198)) [vItem x] H = some (vTot (totI x), none) := by
 rw [q000 _ _ _ _ _ _ (noP _) fn198]
 have b := fun H => q0l6 x.h H
 have g := fun H => q0ih x.h x.str x.ord x.shr H
 unfold totI
 by_cases k1 : x.k = 1
 ·simp [St.enter, enumFrom, subs, setSubs, k1, b]
 ·by_cases k2 : x.k = 2
  ·simp only [k2, if_neg (show ¬ (2 : Int) = 1 by decide), if_true]
   generalize glueT x.h x.str x.ord x.shr = t at *
   simp [St.enter, enumFrom, subs, setSubs, k2, g]
  ·simp [St.enter, enumFrom, subs, setSubs, k1, k2, zeroT]
theorem q02u (n : Int) (H : Heap) (h : 0 ≤ n ∧ n ≤ 4294967296) : clD EE (.p (.fn 336)) [vI n] H = some (vB true, none) := by
 rw [q000 _ _ _ _ _ _ (noP _) fn336]
 simp [St.enter, enumFrom, h.1, h.2]
theorem q0oj (t : Tot) (h : inT 4294967296 t) (H : Heap) : clD EE (.p (.fn 199)) [vTot t] H = some (vB true, none) := by
 rw [q000 _ _ _ _ _ _ (noP _) fn199]
 have k0 := fun H => q02u t.nat H h.nat
 have k1 := fun H => q02u t.s0 H h.s0
 have k2 := fun H => q02u t.s1 H h.s1
 have k3 := fun H => q02u t.s2 H h.s2
 have k4 := fun H => q02u t.s3 H h.s3
 have k5 := fun H => q02u t.shr H h.shr
 have w1 : IntKind.i64.wrap 1 = 1 := by decide
 have w2 : IntKind.i64.wrap 2 = 2 := by decide
 have w3 : IntKind.i64.wrap 3 = 3 := by decide
 have w4 : IntKind.i64.wrap 4 = 4 := by decide
 simp [St.enter, enumFrom, subs, setSubs, k0, k1, k2, k3, k4, k5, lp199_0, q003, ixaV, shiftV, w1, w2, w3, w4]
end Go.EnvOf
namespace Go.EnvOf
open Go Go.Eng
set_option maxRecDepth 100000
def looseX (x : Item) : Bool := decide (x.k = 2) || decide (x.k = 3)
def forcesX (x : Item) : Bool := decide (x.k = 3) && decide (x.n ≤ -10000)
theorem q0ok (x : Item) (H : Heap) : clD EE (.p (.fn 347)) [vItem x] H = some (vB (looseX x), none) := by
 rw [q000 _ _ _ _ _ _ (noP _) fn347]
 unfold looseX
 by_cases h : x.k = 2 <;> simp [St.enter, enumFrom, subs, setSubs, h]
theorem q0b7 (x : Item) (H : Heap) : clD EE (.p (.fn 287)) [vItem x] H = some (vB (forcesX x), none) := by
 rw [q000 _ _ _ _ _ _ (noP _) fn287]
 unfold forcesX
 by_cases h : x.k = 3 <;> simp [St.enter, enumFrom, subs, setSubs, h]
end Go.EnvOf
namespace Go.EnvOf
open Go Go.Eng
set_option maxRecDepth 100000
theorem q03s (j : Job) (H : Heap) : clD EE (.p (.fn 81)) [vW j] H = some (vListW j.items, none) := by
 rw [q000 _ _ _ _ _ _ (noP _) fn81]
 have p : ∀ H, clD EE (.p (.fn 211)) [vW j] H = some (vTextW j, none) := by
  intro H
  rw [q000 _ _ _ _ _ _ (noP _) fn211]
  simp [vW, St.enter, enumFrom, subs, setSubs]
 have q : ∀ H, clD EE (.p (.fn 212)) [vTextW j] H = some (vListW j.items, none) := by
  intro H
  rw [q000 _ _ _ _ _ _ (noP _) fn212]
  simp [vTextW, St.enter, enumFrom, subs, setSubs]
 simp [St.enter, enumFrom, p, q]
theorem q0ol (j : Job) (H : Heap) : clD EE (.p (.fn 105)) [vW j] H = some (vSumsW j.items, none) := by
 rw [q000 _ _ _ _ _ _ (noP _) fn105]
 have p : ∀ H, clD EE (.p (.fn 211)) [vW j] H = some (vTextW j, none) := by
  intro H
  rw [q000 _ _ _ _ _ _ (noP _) fn211]
  simp [vW, St.enter, enumFrom, subs, setSubs]
 have q : ∀ H, clD EE (.p (.fn 235)) [vTextW j] H = some (vSumsW j.items, none) := by
  intro H
  rw [q000 _ _ _ _ _ _ (noP _) fn235]
  simp [vTextW, St.enter, enumFrom, subs, setSubs]
 simp [St.enter, enumFrom, p, q]
def sumT (l : List Item) (a b : Int) : Tot := if max a 0 < min b l.length then subT (totP (l.take (min b l.length).toNat)) (totP (l.take (max a 0).toNat)) else zeroT
theorem q0ii (l : List Item) (H : Heap) : clD EE (.p (.fn 359)) [vSumsW l] H = some (vI l.length, none) := by
 rw [q000 _ _ _ _ _ _ (noP _) fn359]
 simp [vSumsW, St.enter, enumFrom, subs, setSubs]
theorem q0ij (l : List Item) (a b : Int) (H : Heap) : clD EE (.p (.fn 236)) [vSumsW l, vI a, vI b] H = some (.tup [vI (max a 0), vI (min b l.length), vB (decide (max a 0 < min b l.length))], none) := by
 rw [q000 _ _ _ _ _ _ (noP _) fn236]
 have h := fun H => q0ii l H
 simp [St.enter, enumFrom, subs, setSubs, h]
theorem q0l7 (a b : Tot) (ha : inT64 a) (hb : inT64 b) (hc : inT64 (subT a b)) (H : Heap) : clD EE (.p (.fn 290)) [vTot a, vTot b] H = some (.tup [vTot (subT a b), vB true], none) := by
 rw [q000 _ _ _ _ _ _ (noP _) fn290]
 have one : ∀ (x y : Int) (H : Heap), I64 x → I64 y → I64 (x - y) → clD EE (.p (.fn 376)) [vI x, vI y] H = some (resT (some (x - y)), none) := by
  intro x y H hx hy hz
  rw [q0kg x y H hx hy, q0rw hz]
 have h := fun H => q0h4 376 a b (subT a b) H (fun x y z H hm => by
  simp only [List.mem_cons, Prod.mk.injEq, List.not_mem_nil, or_false] at hm
  rcases hm with ⟨rfl, rfl, rfl⟩ | ⟨rfl, rfl, rfl⟩ | ⟨rfl, rfl, rfl⟩ | ⟨rfl, rfl, rfl⟩ | ⟨rfl, rfl, rfl⟩ | ⟨rfl, rfl, rfl⟩
  ·exact one _ _ _ ha.nat hb.nat hc.nat
  ·exact one _ _ _ ha.s0 hb.s0 hc.s0
  ·exact one _ _ _ ha.s1 hb.s1 hc.s1
  ·exact one _ _ _ ha.s2 hb.s2 hc.s2
  ·exact one _ _ _ ha.s3 hb.s3 hc.s3
  ·exact one _ _ _ ha.shr hb.shr hc.shr)
 generalize subT a b = c at *
 simp [St.enter, enumFrom, subs, setSubs, h]
theorem q0rx {m k : Int} {a b : Tot} (ha : inT m a) (hb : inT k b) (hm : m ≤ 9223372036854775807) (hk : k ≤ 9223372036854775807) : inT64 (subT a b) := by
 obtain ⟨⟨a1, a2⟩, ⟨a3, a4⟩, ⟨a5, a6⟩, ⟨a7, a8⟩, ⟨a9, b1⟩, ⟨b2, b3⟩⟩ := ha
 obtain ⟨⟨c1, c2⟩, ⟨c3, c4⟩, ⟨c5, c6⟩, ⟨c7, c8⟩, ⟨c9, d1⟩, ⟨d2, d3⟩⟩ := hb
 constructor <;> constructor <;> simp only [subT] <;> omega
theorem q0eb (l : List Item) (hl : l.length ≤ 1000000) (hf : ∀ x ∈ l, fairI x) (n : Nat) : inT 4294967296000000 (totP (l.take n)) := by
 have h := q09x (l.take n) (fun x hx => hf x (List.mem_of_mem_take hx))
 have hn : (l.take n).length ≤ 1000000 := by rw [List.length_take]; omega
 have hm : 4294967296 * ((l.take n).length : Int) ≤ 4294967296000000 := by omega
 obtain ⟨⟨a1, a2⟩, ⟨a3, a4⟩, ⟨a5, a6⟩, ⟨a7, a8⟩, ⟨a9, b1⟩, ⟨b2, b3⟩⟩ := h
 constructor <;> constructor <;> omega
theorem q0l8 (l : List Item) (hl : l.length ≤ 1000000) (hf : ∀ x ∈ l, fairI x) (a b : Int) (H : Heap) : clD EE (.p (.fn 139)) [vSumsW l, vI a, vI b] H = some (vTot (sumT l a b), none) := by
 rw [q000 _ _ _ _ _ _ (noP _) fn139]
 have hw := fun H => q0ij l a b H
 unfold sumT
 by_cases c : max a 0 < min b l.length
 ·have ha : (preL totP l (l.length + 1))[(max a 0).toNat]? = some (totP (l.take (max a 0).toNat)) := q01v _ _ _ _ (by omega)
  have hb : (preL totP l (l.length + 1))[(min b l.length).toNat]? = some (totP (l.take (min b l.length).toNat)) := q01v _ _ _ _ (by omega)
  have ia := fun H k => q02q H encTot (k := k) (s := 6) (i := max a 0) (by omega) ha rfl
  have ib := fun H k => q02q H encTot (k := k) (s := 6) (i := min b l.length) (by omega) hb rfl
  have i1 := q0eb l hl hf (min b l.length).toNat
  have i2 := q0eb l hl hf (max a 0).toNat
  have hs := fun H => q0l7 _ _ (q03r i1 (by omega)) (q03r i2 (by omega)) (q0rx i1 i2 (by omega) (by omega)) H
  rw [if_pos c]
  generalize totP (l.take (min b l.length).toNat) = t1 at *
  generalize totP (l.take (max a 0).toNat) = t2 at *
  generalize subT t1 t2 = t3 at *
  generalize max a 0 = a' at *
  generalize min b l.length = b' at *
  simp only [encTot] at ia ib
  simp only [vSumsW] at hw ⊢
  simp [St.enter, enumFrom, subs, setSubs, hw, c, ia, ib, hs]
 ·rw [if_neg c]
  simp [St.enter, enumFrom, subs, setSubs, hw, c, zeroT]
end Go.EnvOf
namespace Go.EnvOf
open Go Go.Eng
set_option maxRecDepth 100000
structure Setg where
 how : Int
 ord : Int
 by_ : Int
 of_ : Int
 left : Int
 deriving Inhabited, DecidableEq
def zeroG : Setg := ⟨0, 0, 0, 0, 0⟩
abbrev vSet (s : Setg) : V := .agg [vI s.how, vI s.ord, vI s.by_, vI s.of_, vI s.left]
def fairL (n : Int) : Bool := decide (0 ≤ n) && decide (n ≤ 1125899906842624)
def fieldsT (t : Tot) : Bool := fairL t.s0 && fairL t.s1 && fairL t.s2 && fairL t.s3 && fairL t.nat && fairL t.shr
def rightG (t : Tot) (h : Int) : Bool := fieldsT t && decide (-1125899906842624 ≤ h) && decide (h ≤ 1125899906842624)
def ordT (t : Tot) : Int := if t.s3 ≠ 0 then 3 else if t.s2 ≠ 0 then 2 else if t.s1 ≠ 0 then 1 else 0
def strT (t : Tot) (o : Int) : Int := if o = 3 then t.s3 else if o = 2 then t.s2 else if o = 1 then t.s1 else t.s0
def gsetOf (t : Tot) (h : Int) (last : Bool) : Setg :=
 if rightG t h = true then
  if h - t.nat = 0 then zeroG
  else if 0 < h - t.nat ∧ 0 < strT t (ordT t) ∧ ¬ (last = true ∧ ordT t = 0) then ⟨1, ordT t, h - t.nat, strT t (ordT t), 0⟩
  else if 0 < h - t.nat then ⟨0, 0, 0, 0, h - t.nat⟩
  else if 0 ≤ t.shr + (h - t.nat) then ⟨2, 0, -(h - t.nat), t.shr, 0⟩
  else ⟨3, 0, t.shr, t.shr, t.shr + (h - t.nat)⟩
 else zeroG
theorem q0om (n : Int) (H : Heap) : clD EE (.p (.fn 231)) [vI n] H = some (vB (fairL n), none) := by
 rw [q000 _ _ _ _ _ _ (noP _) fn231]
 unfold fairL
 by_cases h : 0 ≤ n <;> simp [St.enter, enumFrom, h]
theorem q0ik (t : Tot) (H : Heap) : clD EE (.p (.fn 232)) [vTot t] H = some (vB (fieldsT t), none) := by
 rw [q000 _ _ _ _ _ _ (noP _) fn232]
 have f := fun n H => q0om n H
 have w1 : IntKind.i64.wrap 1 = 1 := by decide
 have w2 : IntKind.i64.wrap 2 = 2 := by decide
 have w3 : IntKind.i64.wrap 3 = 3 := by decide
 have w4 : IntKind.i64.wrap 4 = 4 := by decide
 unfold fieldsT
 cases c0 : fairL t.s0 with
 | false => simp [St.enter, enumFrom, subs, setSubs, f, lp232_0, q003, ixvV, ixaV, shiftV, w1, w2, w3, w4, c0]
 | true =>
   cases c1 : fairL t.s1 with
   | false => simp [St.enter, enumFrom, subs, setSubs, f, lp232_0, q003, ixvV, ixaV, shiftV, w1, w2, w3, w4, c0, c1]
   | true =>
     cases c2 : fairL t.s2 with
     | false => simp [St.enter, enumFrom, subs, setSubs, f, lp232_0, q003, ixvV, ixaV, shiftV, w1, w2, w3, w4, c0, c1, c2]
     | true =>
       cases c3 : fairL t.s3 with
       | false => simp [St.enter, enumFrom, subs, setSubs, f, lp232_0, q003, ixvV, ixaV, shiftV, w1, w2, w3, w4, c0, c1, c2, c3]
       | true =>
         cases c4 : fairL t.nat <;> simp [St.enter, enumFrom, subs, setSubs, f, lp232_0, q003, ixvV, ixaV, shiftV, w1, w2, w3, w4, c0, c1, c2, c3, c4]
theorem q0l9 (t : Tot) (h : Int) (H : Heap) : clD EE (.p (.fn 288)) [vTot t, vI h] H = some (vB (rightG t h), none) := by
 rw [q000 _ _ _ _ _ _ (noP _) fn288]
 have f := fun H => q0ik t H
 unfold rightG
 cases c : fieldsT t with
 | false => simp [St.enter, enumFrom, subs, setSubs, f, c]
 | true => by_cases d : -1125899906842624 ≤ h <;> simp [St.enter, enumFrom, subs, setSubs, f, c, d]
theorem q0ry (t : Tot) (H : Heap) : clD EE (.p (.fn 289)) [vTot t] H = some (vI (ordT t), none) := by
 rw [q000 _ _ _ _ _ _ (noP _) fn289]
 have w0 : IntKind.i64.wrap 0 = 0 := by decide
 have w1 : IntKind.i64.wrap 1 = 1 := by decide
 have w2 : IntKind.i64.wrap 2 = 2 := by decide
 unfold ordT
 by_cases c3 : t.s3 = 0
 ·by_cases c2 : t.s2 = 0
  ·by_cases c1 : t.s1 = 0
   ·simp [St.enter, enumFrom, subs, setSubs, lp289_0, q003, ixaV, shiftV, w0, w1, w2, c3, c2, c1]
   ·simp [St.enter, enumFrom, subs, setSubs, lp289_0, q003, ixaV, shiftV, w0, w1, w2, c3, c2, c1]
  ·simp [St.enter, enumFrom, subs, setSubs, lp289_0, q003, ixaV, shiftV, w0, w1, w2, c3, c2]
 ·simp [St.enter, enumFrom, subs, setSubs, lp289_0, q003, ixaV, shiftV, w0, w1, w2, c3]
theorem q0la {t : Tot} {h : Int} (r : rightG t h = true) : (0 ≤ t.nat ∧ t.nat ≤ 1125899906842624) ∧ (0 ≤ t.shr ∧ t.shr ≤ 1125899906842624) ∧ -1125899906842624 ≤ h ∧ h ≤ 1125899906842624 := by
 unfold rightG fieldsT fairL at r
 simp at r
 omega
theorem q0lb (t : Tot) (h : Int) (last : Bool) (H : Heap) : clD EE (.p (.fn 138)) [vTot t, vI h, vB last] H = some (vSet (gsetOf t h last), none) := by
 rw [q000 _ _ _ _ _ _ (noP _) fn138]
 have r := fun H => q0l9 t h H
 have o := fun H => q0ry t H
 unfold gsetOf
 cases c : rightG t h with
 | false => simp [St.enter, enumFrom, subs, setSubs, r, c, zeroG]
 | true =>
   have bd := q0la c
   obtain ⟨need, hneed⟩ : ∃ n, h - t.nat = n := ⟨_, rfl⟩
   have w1 : IntKind.i64.wrap (h - t.nat) = need := by rw [hneed]; exact w64 (by omega) (by omega)
   have w2 : IntKind.i64.wrap (t.shr + need) = t.shr + need := w64 (by omega) (by omega)
   have w3 : IntKind.i64.wrap (-need) = -need := w64 (by omega) (by omega)
   have ho : (ordT t = 0 ∧ strT t (ordT t) = t.s0) ∨ (ordT t = 1 ∧ strT t (ordT t) = t.s1) ∨ (ordT t = 2 ∧ strT t (ordT t) = t.s2) ∨ (ordT t = 3 ∧ strT t (ordT t) = t.s3) := by
    unfold ordT
    (repeat' split) <;> simp [strT]
   simp only [hneed]
   clear hneed bd
   generalize strT t (ordT t) = str at *
   generalize ordT t = od at *
   simp only [if_true]
   by_cases n0 : need = 0
   ·subst n0
    simp [St.enter, enumFrom, subs, setSubs, r, c, o, w1, zeroG]
   ·by_cases n1 : 0 < need
    ·rcases ho with ⟨rfl, rfl⟩ | ⟨rfl, rfl⟩ | ⟨rfl, rfl⟩ | ⟨rfl, rfl⟩
     ·by_cases s : 0 < t.s0
      ·cases last <;> simp [St.enter, enumFrom, subs, setSubs, ixaV, shiftV, r, c, o, w1, w2, n0, n1, s]
      ·simp [St.enter, enumFrom, subs, setSubs, ixaV, shiftV, r, c, o, w1, w2, n0, n1, s]
     ·by_cases s : 0 < t.s1
      ·cases last <;> simp [St.enter, enumFrom, subs, setSubs, ixaV, shiftV, r, c, o, w1, w2, n0, n1, s]
      ·simp [St.enter, enumFrom, subs, setSubs, ixaV, shiftV, r, c, o, w1, w2, n0, n1, s]
     ·by_cases s : 0 < t.s2
      ·cases last <;> simp [St.enter, enumFrom, subs, setSubs, ixaV, shiftV, r, c, o, w1, w2, n0, n1, s]
      ·simp [St.enter, enumFrom, subs, setSubs, ixaV, shiftV, r, c, o, w1, w2, n0, n1, s]
     ·by_cases s : 0 < t.s3
      ·cases last <;> simp [St.enter, enumFrom, subs, setSubs, ixaV, shiftV, r, c, o, w1, w2, n0, n1, s]
      ·simp [St.enter, enumFrom, subs, setSubs, ixaV, shiftV, r, c, o, w1, w2, n0, n1, s]
    ·by_cases n2 : 0 ≤ t.shr + need
     ·simp [St.enter, enumFrom, subs, setSubs, r, c, o, w1, w2, w3, n0, n1, n2]
     ·simp [St.enter, enumFrom, subs, setSubs, r, c, o, w1, w2, n0, n1, n2]
def highA (g : Geom) (fs : List Float) (a b : List Int) : Int := IntKind.i64.wrap (highQ fs a g.sep + highQ fs b g.sep)
def stackA (g : Geom) (fs : List Float) (a : List Int) : Int := if highQ fs a g.sep = 0 then 0 else IntKind.i64.wrap (highQ fs a g.sep - min (max g.sep 0) 1125899906842624)
theorem q0fq (g : Geom) (fs : List Float) (a b : List Int) (ha : a.length ≤ 1000000) (hb : b.length ≤ 1000000) (H : Heap) : clD EE (.p (.fn 135)) [vGeom g, vFloats fs, .agg [sli a, sli b]] H = some (vI (highA g fs a b), none) := by
 rw [q000 _ _ _ _ _ _ (noP _) fn135]
 have h1 := fun H => q051 fs a g.sep H ha
 have h2 := fun H => q051 fs b g.sep H hb
 unfold highA
 simp [St.enter, enumFrom, subs, setSubs, h1, h2]
theorem q0ec (g : Geom) (fs : List Float) (a : List Int) (ha : a.length ≤ 1000000) (H : Heap) : clD EE (.p (.fn 136)) [vGeom g, vFloats fs, sli a] H = some (vI (stackA g fs a), none) := by
 rw [q000 _ _ _ _ _ _ (noP _) fn136]
 have h1 := fun H => q051 fs a g.sep H ha
 unfold stackA
 by_cases c : highQ fs a g.sep = 0 <;> simp [St.enter, enumFrom, subs, setSubs, h1, c]
def lastC (l : List Item) (c : Colm) : Bool := decide (c.k = 1) && (decide (c.to = l.length) || match itemAt l c.to with | some x => decide (0 < c.to) && forcesX x | none => false)
theorem q0on (j : Job) (c : Colm) (H : Heap) : clD EE (.p (.fn 137)) [vW j, vColm c] H = some (vB (lastC j.items c), none) := by
 rw [q000 _ _ _ _ _ _ (noP _) fn137]
 have l1 := fun H => q03s j H
 have l2 := fun H => q00o j.items H
 have l3 := fun H => q043 j.items c.to H
 have f := fun x H => q0b7 x H
 unfold lastC
 by_cases k : c.k = 1
 ·by_cases e : c.to = j.items.length
  ·cases h : itemAt j.items c.to with
   | none => rw [h] at l3; simp [St.enter, enumFrom, subs, setSubs, l1, l2, l3, k, ← e]
   | some x => rw [h] at l3; simp [St.enter, enumFrom, subs, setSubs, l1, l2, l3, k, ← e]
  ·cases h : itemAt j.items c.to with
   | none => rw [h] at l3; simp [St.enter, enumFrom, subs, setSubs, l1, l2, l3, k, e]
   | some x =>
     rw [h] at l3
     by_cases p : 0 < c.to <;> simp [St.enter, enumFrom, subs, setSubs, l1, l2, l3, k, e, p, f]
 ·simp [St.enter, enumFrom, subs, setSubs, k]
structure Fcts where
 notes : Int
 floats : Int
 room : Int
 last : Bool
 over : Bool
 set_ : Setg
def zeroF : Fcts := ⟨0, 0, 0, false, false, zeroG⟩
abbrev vFcts (f : Fcts) : V := .agg [vI f.notes, vI f.floats, vI f.room, vB f.last, vB f.over, vI f.set_.how, vI f.set_.ord, vI f.set_.by_, vI f.set_.of_, vI f.set_.left]
def floatsC (j : Job) (c : Colm) : Int := if c.k = 1 then highA j.g j.floats c.top c.bot else if c.k = 2 then stackA j.g j.floats c.top else 0
def roomC (j : Job) (s : Stt) (c : Colm) : Int := IntKind.i64.wrap (IntKind.i64.wrap (highS j s - highP j.notes c.notes j.g.rule) - floatsC j c)
def fullC (j : Job) (c : Colm) : Bool := decide (0 < c.notes.length) && decide (j.g.noteMost < highP j.notes c.notes j.g.rule)
def setC (j : Job) (s : Stt) (c : Colm) : Setg := gsetOf (sumT j.items s.at_ c.to) (roomC j s c) (lastC j.items c)
def factsC (j : Job) (s : Stt) (c : Colm) : Fcts :=
 if rightS j s = true then
  ⟨highP j.notes c.notes j.g.rule, floatsC j c, roomC j s c, lastC j.items c,
   if c.k = 1 then fullC j c || decide ((setC j s c).how = 3) else fullC j c || decide (roomC j s c < 0),
   if c.k = 1 then setC j s c else zeroG⟩
 else zeroF
theorem q0oo (j : Job) (w : okW j) (hf : ∀ x ∈ j.items, fairI x) (s : Stt) (c : Colm) (c1 : c.notes.length ≤ 1000000) (c2 : c.top.length ≤ 1000000) (c3 : c.bot.length ≤ 1000000) (H : Heap) :
  clD EE (.p (.fn 39)) [vW j, vStt s, vColm c] H = some (vFcts (factsC j s c), none) := by
 rw [q000 _ _ _ _ _ _ (noP _) fn39]
 have r := fun H => q01a j w s H
 have pl := fun H => q03q j H
 have sh := fun H => q0e9 j.notes c.notes j.g.rule w.lines c1 H
 have ah := fun H => q0fq j.g j.floats c.top c.bot c2 c3 H
 have as := fun H => q0ec j.g j.floats c.top c2 H
 have hi := fun H => q0l4 j w s H
 have la := fun H => q0on j c H
 have su := fun H => q0ol j H
 have so := fun H => q0l8 j.items w.n1 hf s.at_ c.to H
 have gs := fun H => q0lb (sumT j.items s.at_ c.to) (roomC j s c) (lastC j.items c) H
 unfold factsC
 cases b : rightS j s with
 | false =>
   rw [b] at r
   simp [St.enter, enumFrom, subs, setSubs, r, zeroF, zeroG]
 | true =>
   rw [b] at r
   have e : setC j s c = gsetOf (sumT j.items s.at_ c.to) (roomC j s c) (lastC j.items c) := rfl
   rw [← e] at gs
   have hr : roomC j s c = IntKind.i64.wrap (IntKind.i64.wrap (highS j s - highP j.notes c.notes j.g.rule) - floatsC j c) := rfl
   generalize setC j s c = G at *
   have hfu : fullC j c = (decide (0 < c.notes.length) && decide (j.g.noteMost < highP j.notes c.notes j.g.rule)) := rfl
   have hfl : floatsC j c = if c.k = 1 then highA j.g j.floats c.top c.bot else if c.k = 2 then stackA j.g j.floats c.top else 0 := rfl
   generalize lastC j.items c = L at *
   generalize highA j.g j.floats c.top c.bot = A1 at *
   generalize stackA j.g j.floats c.top = A2 at *
   generalize sumT j.items s.at_ c.to = T at *
   generalize roomC j s c = R at *
   generalize highP j.notes c.notes j.g.rule = hp at *
   generalize highS j s = hs at *
   generalize floatsC j c = F at *
   generalize fullC j c = U at *
   simp only [vJob, vGeom, cGeom, List.cons_append, List.nil_append] at pl ah as
   have hn : (0 : Int) < c.notes.length ↔ 0 < c.notes.length := by omega
   by_cases k1 : c.k = 1
   ·rw [if_pos k1] at hfl
    subst hfl
    simp only [vColm, k1] at la
    by_cases n0 : 0 < c.notes.length
    ·simp only [n0, decide_true, Bool.true_and] at hfu
     by_cases q : j.g.noteMost < hp <;> simp only [q, decide_true, decide_false] at hfu <;> subst hfu <;>
      simp [St.enter, enumFrom, subs, setSubs, fldvV, r, pl, sh, ah, hi, la, su, so, gs, k1, hn, n0, ← hr, q]
    ·simp only [n0, decide_false, Bool.false_and] at hfu
     subst hfu
     simp [St.enter, enumFrom, subs, setSubs, fldvV, r, pl, sh, ah, hi, la, su, so, gs, k1, hn, n0, ← hr]
   ·rw [if_neg k1] at hfl
    by_cases k2 : c.k = 2
    ·rw [if_pos k2] at hfl
     subst hfl
     simp only [vColm, k2] at la
     by_cases n0 : 0 < c.notes.length
     ·simp only [n0, decide_true, Bool.true_and] at hfu
      by_cases q : j.g.noteMost < hp <;> simp only [q, decide_true, decide_false] at hfu <;> subst hfu <;>
       simp [St.enter, enumFrom, subs, setSubs, fldvV, r, pl, sh, as, hi, la, k1, k2, hn, n0, ← hr, q, zeroG]
     ·simp only [n0, decide_false, Bool.false_and] at hfu
      subst hfu
      simp [St.enter, enumFrom, subs, setSubs, fldvV, r, pl, sh, as, hi, la, k1, k2, hn, n0, ← hr, zeroG]
    ·rw [if_neg k2] at hfl
     subst hfl
     rw [Int.sub_zero] at hr
     by_cases n0 : 0 < c.notes.length
     ·simp only [n0, decide_true, Bool.true_and] at hfu
      by_cases q : j.g.noteMost < hp <;> simp only [q, decide_true, decide_false] at hfu <;> subst hfu <;>
       simp [St.enter, enumFrom, subs, setSubs, fldvV, r, pl, sh, hi, la, k1, k2, hn, n0, ← hr, q, zeroG]
     ·simp only [n0, decide_false, Bool.false_and] at hfu
      subst hfu
      simp [St.enter, enumFrom, subs, setSubs, fldvV, r, pl, sh, hi, la, k1, k2, hn, n0, ← hr, zeroG]
end Go.EnvOf
namespace Go.EnvOf
open Go Go.Eng
set_option maxRecDepth 100000
def forbX (x : Item) : Bool := decide (x.k = 3) && decide (10000 ≤ x.n)
theorem q0rz (x : Item) (H : Heap) : clD EE (.p (.fn 385)) [vItem x] H = some (vB (forbX x), none) := by
 rw [q000 _ _ _ _ _ _ (noP _) fn385]
 unfold forbX
 by_cases h : x.k = 3 <;> simp [St.enter, enumFrom, subs, setSubs, h]
def mayV (l : List Item) (n : Int) : Bool :=
 if n < 1 ∨ (l.length : Int) < n then false else match itemAt l n with
  | none => true
  | some x => if x.k = 2 then !looseX (rd l (n - 1)) else if x.k = 3 then !forbX x else false
theorem q0s0 (l : List Item) (hl : l.length ≤ 1000000) (n : Int) (H : Heap) : clD EE (.p (.fn 316)) [vListW l, vI n] H = some (vB (mayV l n), none) := by
 rw [q000 _ _ _ _ _ _ (noP _) fn316]
 have l2 := fun H => q00o l H
 have l3 := fun H => q043 l n H
 have f := fun x H => q0rz x H
 have lo := fun x H => q0ok x H
 unfold mayV
 by_cases c1 : n < 1
 ·cases h : itemAt l n with
  | none => rw [h] at l3; simp [St.enter, enumFrom, subs, setSubs, l2, l3, c1]
  | some x => rw [h] at l3; simp [St.enter, enumFrom, subs, setSubs, l2, l3, c1]
 ·by_cases c2 : (l.length : Int) < n
  ·cases h : itemAt l n with
   | none => rw [h] at l3; simp [St.enter, enumFrom, subs, setSubs, l2, l3, c1, c2]
   | some x => rw [h] at l3; simp [St.enter, enumFrom, subs, setSubs, l2, l3, c1, c2]
  ·cases h : itemAt l n with
   | none => rw [h] at l3; simp [St.enter, enumFrom, subs, setSubs, l2, l3, c1, c2]
   | some x =>
     rw [h] at l3
     have w : IntKind.i64.wrap (n - 1) = n - 1 := w64 (by omega) (by omega)
     have hx := q02d l (n - 1) (by omega) (by omega)
     have hix := fun H k => q02q H encItem (k := k) (s := 7) (by omega) hx rfl
     simp only [encItem] at hix
     by_cases k2 : x.k = 2
     ·simp only [vListW] at l2 l3 ⊢
      simp [St.enter, enumFrom, subs, setSubs, l2, l3, c1, c2, k2, w, hix, lo]
     ·by_cases k3 : x.k = 3
      ·have f1 := fun H => f x H
       simp only [vItem, k3] at f1
       simp [St.enter, enumFrom, subs, setSubs, l2, l3, c1, c2, k3, f1]
      ·simp [St.enter, enumFrom, subs, setSubs, l2, l3, c1, c2, k2, k3]
end Go.EnvOf
namespace Go.EnvOf
open Go Go.Eng
set_option maxRecDepth 100000
end Go.EnvOf
namespace Go.EnvOf
open Go Go.Eng
set_option maxRecDepth 100000
def coFn (H : Heap) : V := .fn (.func 175) [.ptr H.length 0] []
@[simp] theorem q0yq (H : Heap) (k : Nat) : staleB (coFn H) k = true := rfl
end Go.EnvOf
namespace Go.EnvOf
open Go Go.Eng
set_option maxRecDepth 100000
section
variable (j : Job) (w : okW j)
include w in
end
end Go.EnvOf
namespace Go.EnvOf
open Go Go.Eng
set_option maxRecDepth 100000
end Go.EnvOf
namespace Go.EnvOf
open Go Go.Eng
set_option maxRecDepth 100000
def mustP (l : List Item) (n : Nat) : Bool := match l[n]? with | some x => forcesX x | none => true
def mayN (l : List Item) (n : Nat) : Bool := mayV l n
def pos (a : Int) : Nat := (max a 0).toNat
def forceF (l : List Item) (a : Int) : Int := seekP (mustP l) (l.length - pos a) (pos a + 1)
def firstB (l : List Item) (a : Int) : Int := seekP (mayN l) (l.length - pos a) (pos a + 1)
def brkN (l : List Item) (a : Int) : List Nat := (List.range' (pos a + 1) (l.length - pos a)).filter fun (m : Nat) => decide ((m : Int) ≤ forceF l a) && mayN l m
def brkF (l : List Item) (a : Int) : List Int := (brkN l a).map Int.ofNat
theorem q05d (p : Nat → Bool) : ∀ (k n : Nat), seekP p k n = -1 ∨ ((n : Int) ≤ seekP p k n ∧ seekP p k n < n + k ∧ p (seekP p k n).toNat = true)
 | 0, n => .inl rfl
 | k + 1, n => by
   rw [seekP]
   by_cases h : p n = true
   ·rw [if_pos h]; exact .inr ⟨by omega, by omega, by simpa using h⟩
   ·rw [if_neg h]
    rcases q05d p k (n + 1) with h1 | ⟨h1, h2, h3⟩
    ·exact .inl h1
    ·exact .inr ⟨by omega, by omega, h3⟩
theorem q0op (l : List Item) (hl : l.length ≤ 1000000) (n : Nat) (hn : n ≤ l.length) (H : Heap) : clD EE (.fn (.func 344) [vListW l] []) [vI n] H = some (vB (mustP l n), none) := by
 rw [q00v, q000 _ _ _ _ _ _ (noP _) fn344]
 have l3 := fun H => q043 l n H
 have f := fun x H => q0b7 x H
 rw [q05b] at l3
 unfold mustP
 cases h : l[n]? with
 | none => rw [h] at l3; simp [St.enter, enumFrom, subs, setSubs, l3]
 | some x => rw [h] at l3; simp [St.enter, enumFrom, subs, setSubs, l3, f]
theorem q0s1 (l : List Item) (hl : l.length ≤ 1000000) (n : Nat) (H : Heap) : clD EE (.fn (.func 316) [vListW l] []) [vI n] H = some (vB (mayN l n), none) := by
 rw [q00v]; exact q0s0 l hl n H
theorem q0oq (l : List Item) (hl : l.length ≤ 1000000) (a : Int) (H : Heap) : clD EE (.p (.fn 213)) [vListW l, vI a] H = some (vI (forceF l a), none) := by
 rw [q000 _ _ _ _ _ _ (noP _) fn213]
 have l2 := fun H => q00o l H
 unfold forceF pos
 by_cases c : (l.length : Int) ≤ a
 ·have e : l.length - (max a 0).toNat = 0 := by omega
  rw [e]
  simp [St.enter, enumFrom, l2, c, seekP]
 ·have w : IntKind.i64.wrap (max a 0 + 1) = (((max a 0).toNat + 1 : Nat) : Int) := by
   have e : (((max a 0).toNat + 1 : Nat) : Int) = max a 0 + 1 := by omega
   rw [e]; exact w64 (by omega) (by omega)
  by_cases d : (max a 0).toNat + 1 ≤ l.length + 1
  ·have s := fun H => q09y l ((max a 0).toNat + 1) (.fn (.func 344) [vListW l] []) (mustP l) hl H (fun n hn => q0op l hl n hn H) d rfl rfl
   have e : l.length + 1 - ((max a 0).toNat + 1) = l.length - (max a 0).toNat := by omega
   rw [e] at s
   generalize (max a 0).toNat + 1 = z at *
   simp only [vListW] at l2 s ⊢
   simp [St.enter, enumFrom, l2, c, w, s]
  ·omega
theorem q06l (l : List Item) (hl : l.length ≤ 1000000) (a : Int) (H : Heap) : clD EE (.p (.fn 214)) [vListW l, vI a] H = some (vI (firstB l a), none) := by
 rw [q000 _ _ _ _ _ _ (noP _) fn214]
 have l2 := fun H => q00o l H
 unfold firstB pos
 by_cases c : (l.length : Int) ≤ a
 ·have e : l.length - (max a 0).toNat = 0 := by omega
  rw [e]
  simp [St.enter, enumFrom, l2, c, seekP]
 ·have w : IntKind.i64.wrap (max a 0 + 1) = (((max a 0).toNat + 1 : Nat) : Int) := by
   have e : (((max a 0).toNat + 1 : Nat) : Int) = max a 0 + 1 := by omega
   rw [e]; exact w64 (by omega) (by omega)
  by_cases d : (max a 0).toNat + 1 ≤ l.length + 1
  ·have s := fun H => q09y l ((max a 0).toNat + 1) (.fn (.func 316) [vListW l] []) (mayN l) hl H (fun n hn => q0s1 l hl n H) d rfl rfl
   have e : l.length + 1 - ((max a 0).toNat + 1) = l.length - (max a 0).toNat := by omega
   rw [e] at s
   generalize (max a 0).toNat + 1 = z at *
   simp only [vListW] at l2 s ⊢
   simp [St.enter, enumFrom, l2, c, w, s]
  ·omega
end Go.EnvOf
namespace Go.EnvOf
open Go Go.Eng
set_option maxRecDepth 100000
def filtB (l : List Item) (F : Int) (k n : Nat) : List Nat := (List.range' n k).filter fun (m : Nat) => decide ((m : Int) ≤ F) && mayN l m
theorem q0il (l : List Item) (F : Int) (n : Nat) : filtB l F 0 n = [] := rfl
theorem q09e (l : List Item) (F : Int) (k n : Nat) : filtB l F (k + 1) n = if (n : Int) ≤ F ∧ mayN l n = true then n :: filtB l F k (n + 1) else filtB l F k (n + 1) := by
 unfold filtB
 rw [List.range'_succ, List.filter_cons]
 by_cases c : (n : Int) ≤ F
 ·by_cases m : mayN l n = true <;> simp [c, m]
 ·simp [c]
theorem q09f (l : List Item) (F : Int) : ∀ (k n : Nat), F < n → filtB l F k n = []
 | 0, n, h => rfl
 | k + 1, n, h => by rw [q09e, if_neg (by omega), q09f l F k (n + 1) (by omega)]
theorem q09g (l : List Item) (F : Int) : ∀ (k n : Nat), filtB l F k n = if seekP (mayN l) k n = -1 then [] else if seekP (mayN l) k n ≤ F then (seekP (mayN l) k n).toNat :: filtB l F (n + k - ((seekP (mayN l) k n).toNat + 1)) ((seekP (mayN l) k n).toNat + 1) else []
 | 0, n => by simp [seekP, q0il]
 | k + 1, n => by
   rw [q09e, seekP]
   by_cases m : mayN l n = true
   ·rw [if_pos m, if_neg (show ¬ (n : Int) = -1 by omega)]
    by_cases c : (n : Int) ≤ F
    ·rw [if_pos ⟨c, m⟩, if_pos c]
     have e : n + (k + 1) - ((n : Int).toNat + 1) = k := by omega
     rw [e]; rfl
    ·rw [if_neg (fun h => c h.1), if_neg c, q09f l F k (n + 1) (by omega)]
   ·rw [if_neg (fun h => m h.2), if_neg m, q09g l F k (n + 1)]
    have e : n + 1 + k = n + (k + 1) := by omega
    rw [e]
def bkE (l : List Item) (F : Int) (H : Heap) (acc : List Int) (b : Int) : St := ⟨[(0, vListW l), (5, .row H.length acc.length 0 acc.length), (6, vI F), (7, vI b)], [], H ++ [.row 1 (upV (acc.map encI))], H.length, []⟩
def bkX (l : List Item) (F : Int) (H : Heap) (acc : List Int) (b : Int) : Ex × St := (.exit 0, ⟨[(0, vListW l), (5, .row H.length acc.length 0 acc.length), (6, vI F), (7, vI b), (20, vB false)], [], H ++ [.row 1 (upV (acc.map encI))], H.length, []⟩)
theorem bk_lp (l : List Item) (hl : l.length ≤ 1000000) (F : Int) (H : Heap) : ∀ (k n : Nat) (acc : List Int), (n + k = l.length + 1 ∨ k = 0) → acc.length ≤ n → ∃ b, evD EE lp84_0 (bkE l F H acc (seekP (mayN l) k n)) = some (bkX l F H (acc ++ (filtB l F k n).map Int.ofNat) b) := by
 intro k
 induction k using Nat.strongRecOn with
 | _ k ih =>
   intro n acc hk ha
   have hb := q05d (mayN l) k n
   rw [q09g]
   generalize hs : seekP (mayN l) k n = b at *
   rcases hb with rfl | ⟨h1, h2, h3⟩
   ·refine ⟨-1, ?_⟩
    unfold lp84_0
    rw [q003]
    simp [bkE, bkX]
   ·have hb0 : 0 < b ∨ b = 0 := by omega
    rcases hb0 with hb0 | hb0
    ·rw [if_neg (by omega)]
     by_cases c : b ≤ F
     ·rw [if_pos c]
      have fi := fun H => q06l l hl b H
      have e0 : (b.toNat : Int) = b := by omega
      have hp : pos b = b.toNat := by unfold pos; omega
      have e1 : firstB l b = seekP (mayN l) (n + k - (b.toNat + 1)) (b.toNat + 1) := by
       unfold firstB; rw [hp]; congr 1; omega
      obtain ⟨b', h4⟩ := ih (n + k - (b.toNat + 1)) (by omega) (b.toNat + 1) (acc ++ [b]) (by omega) (by simp; omega)
      refine ⟨b', ?_⟩
      have e2 : acc ++ List.map Int.ofNat (b.toNat :: filtB l F (n + k - (b.toNat + 1)) (b.toNat + 1)) = (acc ++ [b]) ++ (filtB l F (n + k - (b.toNat + 1)) (b.toNat + 1)).map Int.ofNat := by
       simp [hb0, e0, show max b 0 = b by omega]
      rw [e2, ← h4, ← e1]
      have hm : acc.length + 1 < most := by unfold most; omega
      conv => lhs; unfold lp84_0
      rw [q003]
      have w0 : ∀ z, clD EE (.p (.fn 214)) [vListW l, vI b] z = some (vI (firstB l b), none) := fi
      simp only [bkE]
      simp [hb0, c, hm, w0]
      rfl
     ·rw [if_neg c]
      refine ⟨b, ?_⟩
      unfold lp84_0
      rw [q003]
      simp [bkE, bkX, hb0, c]
    ·exfalso
     subst hb0
     unfold mayN mayV at h3
     simp at h3
theorem q0or (l : List Item) (a : Int) : brkN l a = filtB l (forceF l a) (l.length - pos a) (pos a + 1) := rfl
theorem q0lc (l : List Item) (hl : l.length ≤ 1000000) (a : Int) (H : Heap) : clD EE (.p (.fn 84)) [vListW l, vI a] H = some (sli (brkF l a), none) := by
 rw [q000 _ _ _ _ _ _ (noP _) fn84]
 have f1 := fun H => q0oq l hl a H
 have f2 := fun H => q06l l hl a H
 obtain ⟨b, k⟩ := bk_lp l hl (forceF l a) H (l.length - pos a) (pos a + 1) [] (by omega) (by simp)
 have e : firstB l a = seekP (mayN l) (l.length - pos a) (pos a + 1) := rfl
 rw [← e, ← q0or, List.nil_append] at k
 change _ = some (bkX l (forceF l a) H (brkF l a) b) at k
 generalize brkF l a = R at *
 simp [bkE, bkX] at k
 simp [St.enter, enumFrom, f1, f2, k]
end Go.EnvOf
namespace Go.EnvOf
open Go Go.Eng
set_option maxRecDepth 100000
end Go.EnvOf
