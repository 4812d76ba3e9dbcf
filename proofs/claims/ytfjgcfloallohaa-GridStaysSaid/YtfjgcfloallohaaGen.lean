/- Searching and comparing lists: the library's functions, whatever the elements are. -/
import Derived.Test.YtfjgcfloallohaaLib
namespace Go.Eng
open Go

/-- The place of the first one of which it holds; -1: of none. -/
def idxF {α : Type} (p : α → Bool) : Nat → List α → Int
  | _, [] => -1
  | i, x :: r => if p x = true then i else idxF p (i + 1) r
theorem idxF_any {α : Type} (p : α → Bool) : ∀ (i : Nat) (l : List α), decide (0 ≤ idxF p i l) = l.any p
  | _, [] => rfl
  | i, x :: r => by
    simp only [idxF, List.any_cons]
    by_cases h : p x = true
    · simp [h]
    · simp [h, idxF_any p (i + 1) r]
theorem idxF_lo {α : Type} (p : α → Bool) : ∀ (i : Nat) (l : List α), -1 ≤ idxF p i l
  | _, [] => by simp [idxF]
  | i, x :: r => by
    simp only [idxF]
    split
    · omega
    · exact idxF_lo p (i + 1) r
theorem idxF_hi {α : Type} (p : α → Bool) : ∀ (i : Nat) (l : List α), idxF p i l ≤ i + l.length
  | _, [] => by simp [idxF]
  | i, x :: r => by
    simp only [idxF, List.length_cons]
    split
    · omega
    · have := idxF_hi p (i + 1) r; omega

/-- A loop that ends as soon as something holds. -/
theorem rng_first {α ρ : Type} (p : α → Bool) (hit : Nat → α → ρ) (fin : ρ) : ∀ (l : List α) (i : Nat),
    rng (fun (_ : Unit) i x => if p x = true then .inr (hit i x) else .inl ()) (fun _ => fin) () i l = (match l.findIdx? p with | some k => (match l[k]? with | some x => hit (i + k) x | none => fin) | none => fin)
  | [], _ => rfl
  | x :: r, i => by
    simp only [rng, List.findIdx?_cons]
    cases h : p x with
    | true => simp
    | false =>
      simp only [Bool.false_eq_true, if_false]
      rw [rng_first p hit fin r (i + 1)]
      cases r.findIdx? p with
      | none => rfl
      | some k => simp only [Option.map_some, List.getElem?_cons_succ]; rw [show i + 1 + k = i + (k + 1) by omega]
theorem idxF_find {α : Type} (p : α → Bool) : ∀ (l : List α) (i : Nat), idxF p i l = (match l.findIdx? p with | some k => ((i + k : Nat) : Int) | none => -1)
  | [], _ => rfl
  | x :: r, i => by
    simp only [idxF, List.findIdx?_cons]
    cases h : p x with
    | true => simp
    | false =>
      simp only [Bool.false_eq_true, if_false]
      rw [idxF_find p r (i + 1)]
      cases r.findIdx? p with
      | none => rfl
      | some k => simp only [Option.map_some]; congr 1; omega
theorem findIdx_get {α : Type} {p : α → Bool} : ∀ {l : List α} {k : Nat}, l.findIdx? p = some k → ∃ x, l[k]? = some x
  | [], k, h => by simp at h
  | x :: r, k, h => by
    rw [List.findIdx?_cons] at h
    cases hp : p x with
    | true => rw [hp] at h; simp at h; subst h; exact ⟨x, rfl⟩
    | false =>
      rw [hp] at h
      simp only [Bool.false_eq_true, if_false] at h
      cases hk : r.findIdx? p with
      | none => rw [hk] at h; simp at h
      | some m =>
        rw [hk] at h; simp at h; subst h
        obtain ⟨y, hy⟩ := findIdx_get hk
        exact ⟨y, by simpa using hy⟩

/-- A loop that ends as soon as something holds, always alike. -/
def stepB {α ρ : Type} (p : α → Bool) (bad : ρ) (_ : Unit) (_ : Nat) (x : α) : Unit ⊕ ρ := if p x = true then .inr bad else .inl ()
theorem rng_any {α ρ : Type} (p : α → Bool) (bad fin : ρ) : ∀ (l : List α) (i : Nat), rng (stepB p bad) (fun _ => fin) () i l = if l.any p = true then bad else fin
  | [], _ => rfl
  | x :: r, i => by
    simp only [rng, List.any_cons, stepB]
    by_cases h : p x = true
    · simp [h]
    · have ih := rng_any p bad fin r (i + 1)
      simp only [h, Bool.false_eq_true, if_false, Bool.false_or]
      exact ih

/-! ### IndexFunc -/
def idxL (s : Nat) (agg : Bool) : IC :=
  (.loop [0, 1, 7, 8] [] (.seq (.reg false [⟨some 9, none, .bin .lss (.t 8) (.t 7)⟩] [0, 1, 7, 8, 9] [])
      (.seq (.cond (.t 9) .skip (.exit 0))
      (.seq (.block 1 (.seq (.reg false [⟨some 10, none, .mov (.t 8)⟩, ⟨some 5, none, .mov (.t 10)⟩] [0, 1, 5, 7, 8] [])
        (.seq (.reg false [⟨some 11, none, .mov (.t 1)⟩, ⟨some 12, none, .mov (.t 0)⟩, ⟨some 13, none, .mov (.t 5)⟩, ⟨some 14, none, .ixs (.t 12) (.t 13) s⟩, ⟨some 15, none, .ld (.t 14) s agg⟩, ⟨some 16, none, .callv (.t 11) [.t 15] false⟩] [0, 1, 5, 7, 8, 16] [])
        (.cond (.t 16) (.seq (.reg false [⟨some 17, none, .mov (.t 5)⟩, ⟨some 4, none, .mov (.t 17)⟩] [4] []) .ret) .skip))))
      (.reg false [⟨some 18, none, .bin .add (.t 8) (.c (.p (.int .i64 1)))⟩, ⟨some 8, none, .mov (.t 18)⟩] [0, 1, 7, 8] [])))))
def idxI (s : Nat) (agg : Bool) : IFn := ⟨(.seq (.reg false [⟨some 4, none, .mov (.c (.p (.int .i64 0)))⟩] [0, 1] [])
  (.seq (.seq (.reg false [⟨some 6, none, .mov (.t 0)⟩, ⟨some 7, none, .len (.t 6)⟩, ⟨some 8, none, .mov (.c (.p (.int .i64 0)))⟩] [0, 1, 7, 8] []) (.block 0 (idxL s agg)))
  (.seq (.reg false [⟨some 4, none, .mov (.c (.p (.int .i64 (-1))))⟩] [4] []) .ret))), [.tmp 4], false⟩

section
variable {α : Type} {E : Env} (f : FuncId) (s : Nat) (agg : Bool) (enc : α → List PV) (val : α → V)
def idxE (l : List α) (hv : V) (H : Heap) (B : Nat) (i : Nat) : St := ⟨[(0, .p (.sl (l.map enc))), (1, hv), (7, vI l.length), (8, vI i)], [], H, B, []⟩
def idxX (l : List α) (hv : V) (H : Heap) (B : Nat) : Ex × St := (.exit 0, ⟨[(0, .p (.sl (l.map enc))), (1, hv), (7, vI l.length), (8, vI l.length), (9, .p (.bool false))], [], H, B, []⟩)
def idxR (H : Heap) (B : Nat) (i : Nat) : Ex × St := (.ret, ⟨[(4, vI i)], [], H, B, []⟩)
theorem idx_lp (hs : ∀ x, (enc x).length = s) (hval : ∀ x, aggOr agg ((enc x).map .p) = some (val x)) (hout : ∀ x, (normA (val x)).outB = true) (hnorm : ∀ x, normA (val x) = val x) (l : List α) (hn : l.length ≤ 9223372036854775806) (hv : V) (p : α → Bool) (H : Heap) (B : Nat)
    (hH : ∀ x ∈ l, clD E hv [val x] H = some (vB (p x), none)) :
    evD E (idxL s agg) (idxE enc l hv H B 0) = some (rng (fun (_ : Unit) i x => if p x = true then .inr (idxR H B i) else .inl ()) (fun _ => idxX enc l hv H B) () 0 l) := by
  unfold idxL
  refine evD_rng l (fun (_ : Unit) i => idxE enc l hv H B i) (fun _ _ => True) (fun (_ : Unit) i x => if p x = true then .inr (idxR H B i) else .inl ()) (fun _ => idxX enc l hv H B) (fun _ _ => rfl) ?_ ?_ () 0 trivial (Nat.zero_le _)
  · rintro _ i x - hx
    have hlt := (List.getElem?_eq_some_iff.1 hx).1
    have w : IntKind.i64.wrap ((i : Int) + 1) = ((i + 1 : Nat) : Int) := w64 (by omega) (by omega)
    have hc := hH x (List.mem_of_getElem? hx)
    have hix := fun H k => ixs_nat H enc (k := k) (s := s) hx (hs x)
    have hsub : subs ((enc x).map V.p) 0 s = some ((enc x).map V.p) := by simp [subs, hs x, List.take_of_length_le]
    have ho := hout x
    cases hp : p x with
    | true =>
      rw [hp] at hc
      simp [idxE, idxR, hlt, hix, hsub, hval, hnorm, hc]
      rw [hnorm] at ho
      simp [ho]
    | false =>
      rw [hp] at hc
      rw [hnorm] at ho
      simp [idxE, hlt, hix, hsub, hval, hnorm, ho, hc, w]
  · rintro _ -
    simp [idxE, idxX]
theorem idx_ev (hp : E.prims f = none) (hf : E.fns f = some (idxI s agg)) (hs : ∀ x, (enc x).length = s) (hval : ∀ x, aggOr agg ((enc x).map .p) = some (val x)) (hout : ∀ x, (normA (val x)).outB = true) (hnorm : ∀ x, normA (val x) = val x)
    (l : List α) (hn : l.length ≤ 9223372036854775806) (hv : V) (p : α → Bool) (H : Heap) (hH : ∀ x ∈ l, clD E hv [val x] H = some (vB (p x), none)) :
    clD E (.p (.fn f)) [.p (.sl (l.map enc)), hv] H = some (vI (idxF p 0 l), none) := by
  rw [clD_body E f _ _ _ _ hp hf]
  have key := idx_lp s agg enc val hs hval hout hnorm l hn hv p H H.length hH
  rw [rng_first p (fun i _ => idxR H H.length i)] at key
  rw [idxF_find]
  cases hk : l.findIdx? p with
  | none =>
    rw [hk] at key
    simp [idxE, idxX] at key
    simp [St.enter, enumFrom, key]
  | some k =>
    obtain ⟨x, hx⟩ := findIdx_get hk
    rw [hk] at key
    simp only [hx] at key
    simp [idxE, idxR] at key
    simp [St.enter, enumFrom, key]
end

/-! ### ContainsFunc -/
def conI (g : FuncId) : IFn := ⟨(.seq (.reg false [⟨some 4, none, .mov (.c (.p (.bool false)))⟩] [0, 1] [])
  (.seq (.reg false [⟨some 5, none, .mov (.t 0)⟩, ⟨some 6, none, .mov (.t 1)⟩, ⟨some 7, none, .call g [.t 5, .t 6] false⟩, ⟨some 8, none, .bin .geq (.t 7) (.c (.p (.int .i64 0)))⟩, ⟨some 4, none, .mov (.t 8)⟩] [4] []) .ret)), [.tmp 4], false⟩
theorem con_ev {α : Type} {E : Env} (f g : FuncId) (hp : E.prims f = none) (hf : E.fns f = some (conI g)) (x hv : V) (p : α → Bool) (l : List α) (H : Heap) (hx : (normA x).outB = true) (hx2 : normA x = x) (ho : (normA hv).outB = true) (ho2 : normA hv = hv)
    (h : clD E (.p (.fn g)) [x, hv] H = some (vI (idxF p 0 l), none)) : clD E (.p (.fn f)) [x, hv] H = some (vB (l.any p), none) := by
  rw [clD_body E f _ _ _ _ hp hf, ← idxF_any p 0 l]
  rw [hx2] at hx
  rw [ho2] at ho
  simp [St.enter, enumFrom, hx2, hx, ho2, ho, h]

/-! ### Two lists, side by side -/
/-- Whether all pairs are such, up to the shorter one. -/
def all2 {α β : Type} (p : α → β → Bool) : List α → List β → Bool
  | x :: r, y :: s => p x y && all2 p r s
  | _, _ => true
theorem all2_eq {α : Type} [DecidableEq α] : ∀ (a b : List α), a.length = b.length → all2 (fun x y => decide (x = y)) a b = decide (a = b)
  | [], [], _ => rfl
  | x :: r, y :: s, h => by
    have ih := all2_eq r s (by simpa using h)
    simp only [all2, ih]
    by_cases hx : x = y <;> simp [hx]
/-- A loop through two lists at once: its step. -/
def step2 {α β ρ : Type} (p : α → β → Bool) (b : List β) (bad : ρ) (_ : Unit) (i : Nat) (x : α) : Unit ⊕ ρ := match b[i]? with | some y => (if p x y = true then .inl () else .inr bad) | none => .inr bad
theorem step2_some {α β ρ : Type} {p : α → β → Bool} {b : List β} {bad : ρ} {u : Unit} {i : Nat} {x : α} {y : β} (h : b[i]? = some y) : step2 p b bad u i x = if p x y = true then .inl () else .inr bad := by unfold step2; rw [h]
theorem rng_all2 {α β ρ : Type} (p : α → β → Bool) (b : List β) (bad fin : ρ) : ∀ (l : List α) (i : Nat), i + l.length ≤ b.length →
    rng (step2 p b bad) (fun _ => fin) () i l = if all2 p l (b.drop i) = true then fin else bad
  | [], i, _ => by simp [rng, all2]
  | x :: r, i, h => by
    simp only [List.length_cons] at h
    have hi : i < b.length := by omega
    rw [List.drop_eq_getElem_cons hi]
    simp only [rng, all2, step2_some (List.getElem?_eq_getElem hi)]
    by_cases hp : p x b[i] = true
    · have ih := rng_all2 p b bad fin r (i + 1) (by omega)
      simp only [hp, if_true, Bool.true_and]
      exact ih
    · simp [hp]

/-! ### slices.Equal -/
def eqL (s : Nat) (sh : List Bool) : IC := (.loop [0, 1, 12, 13] [] (.seq (.reg false [⟨some 14, none, .bin .lss (.t 13) (.t 12)⟩] [0, 1, 12, 13, 14] [])
      (.seq (.cond (.t 14) .skip (.exit 0))
      (.seq (.block 1 (.seq (.reg false [⟨some 15, none, .mov (.t 13)⟩, ⟨some 5, none, .mov (.t 15)⟩] [0, 1, 5, 12, 13] [])
        (.seq (.reg true [⟨some 16, none, .mov (.t 0)⟩, ⟨some 17, none, .mov (.t 5)⟩, ⟨some 18, none, .ixs (.t 16) (.t 17) s⟩, ⟨some 19, none, .ld (.t 18) s true⟩, ⟨some 20, none, .mov (.t 1)⟩, ⟨some 21, none, .mov (.t 5)⟩,
          ⟨some 22, none, .ixs (.t 20) (.t 21) s⟩, ⟨some 23, none, .ld (.t 22) s true⟩, ⟨some 24, none, .eqa true sh (.t 19) (.t 23)⟩] [0, 1, 12, 13, 24] [])
        (.cond (.t 24) (.seq (.reg false [⟨some 4, none, .mov (.c (.p (.bool false)))⟩] [4] []) .ret) .skip))))
      (.reg false [⟨some 25, none, .bin .add (.t 13) (.c (.p (.int .i64 1)))⟩, ⟨some 13, none, .mov (.t 25)⟩] [0, 1, 12, 13] [])))))
def eqI (s : Nat) (sh : List Bool) : IFn := ⟨(.seq (.reg false [⟨some 4, none, .mov (.c (.p (.bool false)))⟩] [0, 1] [])
  (.seq (.seq (.reg false [⟨some 6, none, .mov (.t 0)⟩, ⟨some 7, none, .len (.t 6)⟩, ⟨some 8, none, .mov (.t 1)⟩, ⟨some 9, none, .len (.t 8)⟩, ⟨some 10, none, .bin .neq (.t 7) (.t 9)⟩] [0, 1, 10] [])
  (.cond (.t 10) (.seq (.reg false [⟨some 4, none, .mov (.c (.p (.bool false)))⟩] [4] []) .ret) .skip))
  (.seq (.seq (.reg false [⟨some 11, none, .mov (.t 0)⟩, ⟨some 12, none, .len (.t 11)⟩, ⟨some 13, none, .mov (.c (.p (.int .i64 0)))⟩] [0, 1, 12, 13] []) (.block 0 (eqL s sh)))
  (.seq (.reg false [⟨some 4, none, .mov (.c (.p (.bool true)))⟩] [4] []) .ret)))), [.tmp 4], false⟩

section
variable {α : Type} [DecidableEq α] {E : Env} (f : FuncId) (s : Nat) (sh : List Bool) (enc : α → List PV)
def eqE (a b : V) (n : Nat) (H : Heap) (B : Nat) (i : Nat) : St := ⟨[(0, a), (1, b), (12, vI n), (13, vI i)], [], H, B, []⟩
def eqX (a b : V) (n : Nat) (H : Heap) (B : Nat) : Ex × St := (.exit 0, ⟨[(0, a), (1, b), (12, vI n), (13, vI n), (14, .p (.bool false))], [], H, B, []⟩)
def eqBad (H : Heap) (B : Nat) : Ex × St := (.ret, ⟨[(4, vB false)], [], H, B, []⟩)
theorem eq_ev (hp : E.prims f = none) (hf : E.fns f = some (eqI s sh)) (hs : ∀ x, (enc x).length = s) (hagg : ∀ x, aggOr true ((enc x).map .p) = some (.agg ((enc x).map .p))) (heq : ∀ x y, eqCells sh ((enc x).map .p) ((enc y).map .p) = some (decide (x = y)))
    (a b : List α) (hn : a.length ≤ 9223372036854775806) (H : Heap) : clD E (.p (.fn f)) [.p (.sl (a.map enc)), .p (.sl (b.map enc))] H = some (vB (decide (a = b)), none) := by
  rw [clD_body E f _ _ _ _ hp hf]
  by_cases hl : a.length = b.length
  · have key : evD E (eqL s sh) (eqE (.p (.sl (a.map enc))) (.p (.sl (b.map enc))) a.length H H.length 0) = some (rng (step2 (fun x y => decide (x = y)) b (eqBad H H.length)) (fun _ => eqX (.p (.sl (a.map enc))) (.p (.sl (b.map enc))) a.length H H.length) () 0 a) := by
      unfold eqL
      refine evD_rng a (fun (_ : Unit) i => eqE (.p (.sl (a.map enc))) (.p (.sl (b.map enc))) a.length H H.length i) (fun _ _ => True) _ (fun _ => eqX (.p (.sl (a.map enc))) (.p (.sl (b.map enc))) a.length H H.length) (fun _ _ => rfl) ?_ ?_ () 0 trivial (Nat.zero_le _)
      · rintro _ i x - hx
        have hlt := (List.getElem?_eq_some_iff.1 hx).1
        have hy : b[i]? = some (b[i]'(by omega)) := List.getElem?_eq_getElem (by omega)
        generalize (b[i]'(by omega)) = y at hy
        have w : IntKind.i64.wrap ((i : Int) + 1) = ((i + 1 : Nat) : Int) := w64 (by omega) (by omega)
        have hix := fun H k => ixs_nat H enc (k := k) (s := s) hx (hs x)
        have hiy := fun H k => ixs_nat H enc (k := k) (s := s) hy (hs y)
        have hsub : ∀ x, subs ((enc x).map V.p) 0 s = some ((enc x).map V.p) := fun x => by simp [subs, hs x, List.take_of_length_le]
        rw [step2_some hy]
        by_cases hxy : x = y
        · simp [eqE, hlt, hix, hiy, hsub, hagg, heq, hxy, w]
        · simp [eqE, eqBad, hlt, hix, hiy, hsub, hagg, heq, hxy]
      · rintro _ -
        simp [eqE, eqX]
    rw [rng_all2 (fun x y => decide (x = y)) b (eqBad H H.length) (eqX (.p (.sl (a.map enc))) (.p (.sl (b.map enc))) a.length H H.length) a 0 (by omega), List.drop_zero, all2_eq a b hl] at key
    have hl' : (a.length : Int) = b.length := by omega
    by_cases h : a = b
    · rw [if_pos (by simpa using h)] at key
      subst h
      simp [eqE, eqX] at key
      simp [St.enter, enumFrom, key]
    · rw [if_neg (by simpa using h)] at key
      simp [eqE, eqBad, hl] at key
      simp [St.enter, enumFrom, hl', key, h]
  · have hl' : ¬ (a.length : Int) = b.length := by omega
    have h : a ≠ b := by rintro rfl; exact hl rfl
    simp [St.enter, enumFrom, hl', h]
end
end Go.Eng
