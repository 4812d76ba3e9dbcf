/- Anchors: the first one that is out of order. -/
import Derived.Test.YtfjgcfloallohaaTypes
namespace Go.EnvOf
open Go Go.Eng

/-- The place of the first anchor of a kind that is out of order; -1: none. -/
def anchF (k : Int) : Nat → Nat → List Item → Int
  | _, _, [] => -1
  | i, n, x :: r => if x.k = k then (if x.n = n then anchF k (i + 1) (n + 1) r else i) else anchF k (i + 1) n r

/-! ### By the document -/
def ranchE (l : List Item) (k : Int) (H : Heap) (B : Nat) (p : Nat) (i : Nat) : St := ⟨[(0, vItems l), (1, .p (.int .i64 k)), (5, .p (.int .i64 p)), (6, .p (.int .i64 i))], [], H, B, []⟩

def ranchF (k : Int) (H : Heap) (B : Nat) (p i : Nat) (x : Item) : Nat ⊕ (Ex × St) := if x.k = k then (if x.n = p then .inl (p + 1) else .inr (.ret, ⟨[(4, .p (.int .i64 i))], [], H, B, []⟩)) else .inl p
def ranchX (l : List Item) (k : Int) (H : Heap) (B : Nat) (p : Nat) : Ex × St := (.exit 0, ⟨[(0, vItems l), (1, .p (.int .i64 k)), (5, .p (.int .i64 p)), (6, .p (.int .i64 l.length)), (10, .p (.bool false))], [], H, B, []⟩)
theorem ranch_lp (l : List Item) (k : Int) (H : Heap) (B : Nat) (hl : l.length ≤ 1000000) : ∀ (p i : Nat), p ≤ i → i ≤ l.length →
    evD EE lp60_0 (ranchE l k H B p i) = some (rng (ranchF k H B) (ranchX l k H B) p i (l.drop i)) := by
  unfold lp60_0
  refine evD_rng l (ranchE l k H B) (fun p i => p ≤ i) (ranchF k H B) (ranchX l k H B) (fun _ _ => rfl) ?_ ?_
  · intro p i x hp hx
    have hlt := (List.getElem?_eq_some_iff.1 hx).1
    have hix := fun H k => ixs_nat H encItem (k := k) (s := 7) hx rfl
    have w : IntKind.i64.wrap ((i : Int) + 1) = ((i + 1 : Nat) : Int) := w64 (by omega) (by omega)
    have w2 : IntKind.i64.wrap ((p : Int) + 1) = ((p + 1 : Nat) : Int) := w64 (by omega) (by omega)
    by_cases hk : x.k = k
    · by_cases hn : x.n = p
      · simp [ranchF, ranchE, vItems, hlt, hix, encItem, subs, hk, hn, w, w2]; omega
      · simp [ranchF, ranchE, vItems, hlt, hix, encItem, subs, hk, hn]
    · simp [ranchF, ranchE, vItems, hlt, hix, encItem, subs, hk, w]; omega
  · intro p hp
    simp [ranchE, ranchX, vItems]

theorem ranch_rng (l : List Item) (k : Int) (H : Heap) (B : Nat) : ∀ (r : List Item) (p i : Nat), (∃ p', rng (ranchF k H B) (ranchX l k H B) p i r = ranchX l k H B p' ∧ anchF k i p r = -1) ∨
    ∃ j : Nat, rng (ranchF k H B) (ranchX l k H B) p i r = (.ret, ⟨[(4, .p (.int .i64 j))], [], H, B, []⟩) ∧ anchF k i p r = j
  | [], p, i => .inl ⟨p, rfl, rfl⟩
  | x :: r, p, i => by
    by_cases hk : x.k = k
    · by_cases hn : x.n = p
      · have := ranch_rng l k H B r (p + 1) (i + 1)
        simpa [rng, ranchF, anchF, hk, hn] using this
      · exact .inr ⟨i, by simp [rng, ranchF, hk, hn], by simp [anchF, hk, hn]⟩
    · have := ranch_rng l k H B r p (i + 1)
      simpa [rng, ranchF, anchF, hk] using this

theorem ranch_ev (l : List Item) (k : Int) (H : Heap) (hl : l.length ≤ 1000000) : clD EE (.p (.fn 60)) [vItems l, .p (.int .i64 k)] H = some (.p (.int .i64 (anchF k 0 0 l)), none) := by
  rw [clD_body _ _ _ _ _ _ _ (noP _) fn60]
  have key := ranch_lp l k H H.length hl 0 0 (by simp) (by simp)
  rcases ranch_rng l k H H.length l 0 0 with ⟨p', h1, h2⟩ | ⟨j, h1, h2⟩
  · simp [h1, ranchE, ranchX] at key
    simp [St.enter, enumFrom, key, h2]
  · simp [h1, ranchE] at key
    simp [St.enter, enumFrom, key, h2]

/-! ### By the program -/
def anchE (l : List Item) (k : Int) (H : Heap) (n i : Nat) : St :=
  ⟨[(0, vItems l), (1, .fn (.func 118) [] [.ptr H.length 0, .ptr (H.length + 1) 0]), (7, .p (.int .i64 l.length)), (8, .p (.int .i64 i))], [], H ++ [.box [.p (.int .i64 k)], .box [.p (.int .i64 n)]], H.length + 2, List.replicate n (H.length + 1)⟩
def anchS (k : Int) (H : Heap) (n i : Nat) (x : Item) : Nat ⊕ (Ex × St) :=
  if x.k = k then (if x.n = n then .inl (n + 1) else .inr (.ret, ⟨[(4, .p (.int .i64 i))], [], H ++ [.box [.p (.int .i64 k)], .box [.p (.int .i64 ((n + 1 : Nat) : Int))]], H.length + 2, List.replicate (n + 1) (H.length + 1)⟩)) else .inl n
def anchX (l : List Item) (k : Int) (H : Heap) (n : Nat) : Ex × St :=
  (.exit 0, ⟨[(0, vItems l), (1, .fn (.func 118) [] [.ptr H.length 0, .ptr (H.length + 1) 0]), (7, .p (.int .i64 l.length)), (8, .p (.int .i64 l.length)), (9, .p (.bool false))], [], H ++ [.box [.p (.int .i64 k)], .box [.p (.int .i64 n)]], H.length + 2, List.replicate n (H.length + 1)⟩)

/-- The closure: an anchor that is out of order? -/
theorem anch1_ev (x : Item) (k : Int) (H : Heap) (n : Nat) (hn : n ≤ 1000000) : clD EE (.p (.fn 118)) [vItem x, .ptr H.length 0, .ptr (H.length + 1) 0] (H ++ [.box [.p (.int .i64 k)], .box [.p (.int .i64 n)]]) =
    if x.k = k then some (.p (.bool (!decide (x.n = n))), some (H ++ [.box [.p (.int .i64 k)], .box [.p (.int .i64 ((n + 1 : Nat) : Int))]], [H.length + 1])) else some (.p (.bool false), none) := by
  rw [clD_body _ _ _ _ _ _ _ (noP _) fn118]
  have w : IntKind.i64.wrap ((n : Int) + 1) = ((n + 1 : Nat) : Int) := w64 (by omega) (by omega)
  have w2 : IntKind.i64.wrap (n : Int) = (n : Int) := w64 (by omega) (by omega)
  by_cases hk : x.k = k
  · simp [vItem, St.enter, enumFrom, subs, setSubs, hk, w, w2]
  · simp [vItem, St.enter, enumFrom, subs, hk]

theorem anch_lp (l : List Item) (k : Int) (H : Heap) (hl : l.length ≤ 1000000) : ∀ (n i : Nat), n ≤ i → i ≤ l.length →
    evD EE lp117_0 (anchE l k H n i) = some (rng (anchS k H) (anchX l k H) n i (l.drop i)) := by
  unfold lp117_0
  refine evD_rng l (anchE l k H) (fun p i => p ≤ i) (anchS k H) (anchX l k H) (fun _ _ => rfl) ?_ ?_
  · intro n i x hp hx
    have hlt := (List.getElem?_eq_some_iff.1 hx).1
    have hix := fun H k => ixs_nat H encItem (k := k) (s := 7) hx rfl
    have w : IntKind.i64.wrap ((i : Int) + 1) = ((i + 1 : Nat) : Int) := w64 (by omega) (by omega)
    have hc := anch1_ev x k H n (by omega)
    simp only [vItem] at hc
    by_cases hk : x.k = k
    · by_cases hn : x.n = n
      · simp [hk, hn] at hc
        simp [anchS, anchE, vItems, hlt, hix, encItem, subs, hk, hn, w, hc, List.replicate_succ]
        omega
      · simp [hk, hn] at hc
        simp [anchS, anchE, vItems, hlt, hix, encItem, subs, hk, hn, hc, List.replicate_succ]
    · simp [hk] at hc
      simp [anchS, anchE, vItems, hlt, hix, encItem, subs, hk, w, hc]
      omega
  · intro n hn
    simp [anchE, anchX, vItems]

theorem anch_rng (l : List Item) (k : Int) (H : Heap) : ∀ (r : List Item) (n i : Nat), (∃ n', rng (anchS k H) (anchX l k H) n i r = anchX l k H n' ∧ anchF k i n r = -1) ∨
    ∃ j m : Nat, rng (anchS k H) (anchX l k H) n i r = (.ret, ⟨[(4, .p (.int .i64 j))], [], H ++ [.box [.p (.int .i64 k)], .box [.p (.int .i64 ((m + 1 : Nat) : Int))]], H.length + 2, List.replicate (m + 1) (H.length + 1)⟩) ∧ anchF k i n r = j
  | [], n, i => .inl ⟨n, rfl, rfl⟩
  | x :: r, n, i => by
    by_cases hk : x.k = k
    · by_cases hn : x.n = n
      · have := anch_rng l k H r (n + 1) (i + 1)
        simpa [rng, anchS, anchF, hk, hn] using this
      · exact .inr ⟨i, n, by simp [rng, anchS, hk, hn], by simp [anchF, hk, hn]⟩
    · have := anch_rng l k H r n (i + 1)
      simpa [rng, anchS, anchF, hk] using this

theorem addDs_own (B : Nat) (id : Nat) (h : ¬ id < B) : ∀ n, (List.replicate n id).foldr (addD B) [] = []
  | 0 => rfl
  | n + 1 => by simp [List.replicate_succ, addDs_own B id h n, h]

theorem index_ev (l : List Item) (k : Int) (H : Heap) (hl : l.length ≤ 1000000) : ∃ n : Nat, clD EE (.p (.fn 117)) [vItems l, .fn (.func 118) [] [.ptr H.length 0, .ptr (H.length + 1) 0]] (H ++ [.box [.p (.int .i64 k)], .box [.p (.int .i64 0)]]) =
    some (.p (.int .i64 (anchF k 0 0 l)), if n = 0 then none else some (H ++ [.box [.p (.int .i64 k)], .box [.p (.int .i64 n)]], List.replicate n (H.length + 1))) := by
  rw [clD_body _ _ _ _ _ _ _ (noP _) fn117]
  have key := anch_lp l k H hl 0 0 (by simp) (by simp)
  rcases anch_rng l k H l 0 0 with ⟨n', h1, h2⟩ | ⟨j, m, h1, h2⟩
  · refine ⟨n', ?_⟩
    simp [h1, anchE, anchX] at key
    by_cases hz : n' = 0
    · subst hz; simp at key; simp [St.enter, enumFrom, key, h2]
    · simp [St.enter, enumFrom, key, h2, hz]
  · refine ⟨m + 1, ?_⟩
    simp [h1, anchE] at key
    simp [St.enter, enumFrom, key, h2, List.replicate_succ]

theorem anch_ev (l : List Item) (k : Int) (H : Heap) (hl : l.length ≤ 1000000) : clD EE (.p (.fn 59)) [vItems l, .p (.int .i64 k)] H = some (.p (.int .i64 (anchF k 0 0 l)), none) := by
  rw [clD_body _ _ _ _ _ _ _ (noP _) fn59]
  obtain ⟨n, hn⟩ := index_ev l k H hl
  simp only [vItems] at hn
  by_cases hz : n = 0
  · simp [hz] at hn
    simp [St.enter, enumFrom, vItems, setSubs, hn]
  · simp [hz] at hn
    simp [St.enter, enumFrom, vItems, setSubs, hn, addDs_own]
end Go.EnvOf
