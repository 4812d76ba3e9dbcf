/- The program's functions and the document's, evaluated. -/
import Derived.KernelRfl
import Derived.Test.YtfjgcfloallohaaText2
import Derived.Test.YtfjgcfloallohaaText1
/- Notes: how high lines are. -/
namespace Go.EnvOf
open Go Go.Eng

def note (lines pens : List Int) : V := .agg [sli lines, sli pens]
theorem ixs_sli (H : Heap) (L : List Int) (k : IntKind) (i : Int) (h0 : 0 ≤ i) (h1 : i < L.length) : ixsI H (.p (.sl (L.map encI))) (.p (.int k i)) 1 = some (.eptr [.p (.int .i64 (rd L i))] 0) :=
  ixs_map H encI L k i 1 (fun _ => rfl) h0 h1

def far : Int := 1125899906842624
def hstep (s x : Int) : Int := min (s + min (max x 0) far) far
def hsum (s : Int) (l : List Int) : Int := l.foldl hstep s
theorem hstep_lo {s x : Int} (h : 0 ≤ s) : 0 ≤ hstep s x := by unfold hstep far; omega
theorem hstep_hi {s x : Int} : hstep s x ≤ far := by unfold hstep; omega

theorem drop_cons (L : List Int) (i : Int) (t : Nat) (h0 : 0 ≤ i) (h1 : i.toNat < t) (h2 : t ≤ L.length) : (L.take t).drop i.toNat = rd L i :: (L.take t).drop (i + 1).toNat := by
  have e : (i + 1).toNat = i.toNat + 1 := by omega
  rw [e, List.drop_eq_getElem_cons (by simp; omega)]
  congr 1
  unfold rd
  have : i.toNat < L.length := by omega
  simp [List.getD_eq_getElem?_getD, this]

theorem high_lp (L M : List Int) (H : Heap) (B : Nat) (D : List Nat) (hL : L.length ≤ 9223372036854775806) : ∀ (n : Nat) (i s to_ : Int), (to_ - i).toNat = n → 0 ≤ i → to_ ≤ L.length → 0 ≤ s → s ≤ far →
    evD EE lp29_0 ⟨[(2, .p (.int .i64 to_)), (3, .lptr 3 0), (7, .p (.int .i64 s)), (8, .p (.int .i64 i))], [(3, [sli L, sli M])], H, B, D⟩ =
      some (.exit 0, ⟨[(2, .p (.int .i64 to_)), (3, .lptr 3 0), (7, .p (.int .i64 (hsum s ((L.take to_.toNat).drop i.toNat)))), (8, .p (.int .i64 (max i to_))), (19, .p (.bool false))], [(3, [sli L, sli M])], H, B, D⟩) := by
  intro n
  induction n with
  | zero =>
    intro i s to_ hn h0 h1 h2 h3
    unfold lp29_0
    rw [evD_loop]
    have hlt : ¬ i < to_ := by omega
    have hd : (L.take to_.toNat).drop i.toNat = [] := by rw [List.drop_eq_nil_iff]; simp; omega
    have hm : max i to_ = i := by omega
    simp [sli, subs, hlt, hd, hm, hsum]
  | succ n ih =>
    intro i s to_ hn h0 h1 h2 h3
    have hlt : i < to_ := by omega
    have hi : i < L.length := by omega
    have key := ih (i + 1) (hstep s (rd L i)) to_ (by omega) (by omega) h1 (hstep_lo h2) hstep_hi
    have hd := drop_cons L i to_.toNat h0 (by omega) (by omega)
    have hm : max (i + 1) to_ = max i to_ := by omega
    rw [hd]
    rw [hm] at key
    unfold lp29_0
    rw [evD_loop]
    have w1 : IntKind.i64.wrap (i + 1) = i + 1 := wrap64_in _ (by omega) (by omega)
    have w2 : IntKind.i64.wrap (s + min (max (rd L i) 0) 1125899906842624) = s + min (max (rd L i) 0) 1125899906842624 := wrap64_in _ (by omega) (by unfold far at h3; omega)
    simp [sli, subs, hlt, ixs_sli, h0, hi, w1, w2]
    exact key

/-- How high lines are, whoever is asked. -/
def highF (L : List Int) (frm to_ : Int) : Int := hsum 0 ((L.take (min to_ L.length).toNat).drop (max frm 0).toNat)

theorem high_ev (L M : List Int) (frm to_ : Int) (H : Heap) (hL : L.length ≤ 9223372036854775806) :
    clD EE (.p (.fn 29)) [note L M, .p (.int .i64 frm), .p (.int .i64 to_)] H = some (.p (.int .i64 (highF L frm to_)), none) := by
  rw [clD_body _ _ _ _ _ _ (noP _) fn29]
  have key := high_lp L M H H.length [] hL _ (max frm 0) 0 (min to_ L.length) rfl (by omega) (by omega) (by omega) (by unfold far; omega)
  have e : (max frm 0) = max frm 0 := rfl
  simp [note, St.enter, enumFrom, subs, sli] at key ⊢
  rw [key]
  simp [highF]

theorem take_succ (L : List Int) (i : Int) (h0 : 0 ≤ i) (h1 : i < L.length) : L.take (i + 1).toNat = L.take i.toNat ++ [rd L i] := by
  have e : (i + 1).toNat = i.toNat + 1 := by omega
  have hlt : i.toNat < L.length := by omega
  rw [e, List.take_add_one]
  congr 1
  rw [rd_get L i h0 h1]; rfl

/-- The lines of so many that lie between. -/
def part (L : List Int) (frm to_ i : Int) : List Int := (L.take (min to_ i).toNat).drop (max frm 0).toNat
theorem part_in (L : List Int) (frm to_ i : Int) (h0 : 0 ≤ i) (h1 : i < L.length) (h2 : frm ≤ i) (h3 : i < to_) : part L frm to_ (i + 1) = part L frm to_ i ++ [rd L i] := by
  unfold part
  have e1 : (min to_ (i + 1)) = i + 1 := by omega
  have e2 : (min to_ i) = i := by omega
  rw [e1, e2, take_succ L i h0 h1, List.drop_append_of_le_length (by simp; omega)]
theorem part_out (L : List Int) (frm to_ i : Int) (h0 : 0 ≤ i) (h2 : ¬ (frm ≤ i ∧ i < to_)) : part L frm to_ (i + 1) = part L frm to_ i := by
  unfold part
  by_cases h : i < to_
  · have h3 : i < frm := by omega
    have e1 : (L.take (min to_ (i + 1)).toNat).drop (max frm 0).toNat = [] := by rw [List.drop_eq_nil_iff]; simp; omega
    have e2 : (L.take (min to_ i).toNat).drop (max frm 0).toNat = [] := by rw [List.drop_eq_nil_iff]; simp; omega
    rw [e1, e2]
  · have e1 : (min to_ (i + 1)).toNat = (min to_ i).toNat := by omega
    rw [e1]
theorem hsum_snoc (s : Int) (l : List Int) (x : Int) : hsum s (l ++ [x]) = hstep (hsum s l) x := by simp [hsum]
theorem hsum_lo : ∀ (l : List Int) {s : Int}, 0 ≤ s → 0 ≤ hsum s l
  | [], s, h => h
  | x :: r, s, h => hsum_lo r (hstep_lo h)
theorem hsum_hi : ∀ (l : List Int) {s : Int}, s ≤ far → hsum s l ≤ far
  | [], s, h => h
  | x :: r, s, h => hsum_hi r hstep_hi

theorem rhigh_lp (L M : List Int) (frm to_ : Int) (H : Heap) (B : Nat) (D : List Nat) (hL : L.length ≤ 9223372036854775806) : ∀ (n : Nat) (i : Int), ((L.length : Int) - i).toNat = n → 0 ≤ i → i ≤ L.length →
    evD EE lp30_0 ⟨[(1, .p (.int .i64 frm)), (2, .p (.int .i64 to_)), (3, .lptr 3 0), (7, .p (.int .i64 (hsum 0 (part L frm to_ i)))), (8, .p (.int .i64 i))], [(3, [sli L, sli M])], H, B, D⟩ =
      some (.exit 0, ⟨[(1, .p (.int .i64 frm)), (2, .p (.int .i64 to_)), (3, .lptr 3 0), (7, .p (.int .i64 (hsum 0 (part L frm to_ L.length)))), (8, .p (.int .i64 L.length)), (13, .p (.bool false))], [(3, [sli L, sli M])], H, B, D⟩) := by
  intro n
  induction n with
  | zero =>
    intro i hn h0 h1
    have hi : i = L.length := by omega
    subst hi
    unfold lp30_0
    rw [evD_loop]
    simp [sli, subs]
  | succ n ih =>
    intro i hn h0 h1
    have hi : i < L.length := by omega
    have key := ih (i + 1) (by omega) (by omega) (by omega)
    have w1 : IntKind.i64.wrap (i + 1) = i + 1 := wrap64_in _ (by omega) (by omega)
    have hlo := hsum_lo (part L frm to_ i) (Int.le_refl 0)
    have hhi := hsum_hi (part L frm to_ i) (show (0 : Int) ≤ far by unfold far; omega)
    have w2 : IntKind.i64.wrap (hsum 0 (part L frm to_ i) + max 0 (min (rd L i) 1125899906842624)) = hsum 0 (part L frm to_ i) + max 0 (min (rd L i) 1125899906842624) := wrap64_in _ (by omega) (by unfold far at hhi; omega)
    have e1 : min (hsum 0 (part L frm to_ i) + max 0 (min (rd L i) 1125899906842624)) 1125899906842624 = hstep (hsum 0 (part L frm to_ i)) (rd L i) := by unfold hstep far; omega
    unfold lp30_0
    rw [evD_loop]
    by_cases c1 : frm ≤ i
    · by_cases c2 : i < to_
      · rw [part_in L frm to_ i h0 hi c1 c2, hsum_snoc] at key
        simp [sli, subs, hi, c1, c2, ixs_sli, h0, w1, w2, e1]
        exact key
      · rw [part_out L frm to_ i h0 (by omega)] at key
        simp [sli, subs, hi, c1, c2, w1]
        exact key
    · rw [part_out L frm to_ i h0 (by omega)] at key
      simp [sli, subs, hi, c1, w1]
      exact key

theorem rhigh_ev (L M : List Int) (frm to_ : Int) (H : Heap) (hL : L.length ≤ 9223372036854775806) :
    clD EE (.p (.fn 30)) [note L M, .p (.int .i64 frm), .p (.int .i64 to_)] H = some (.p (.int .i64 (highF L frm to_)), none) := by
  rw [clD_body _ _ _ _ _ _ (noP _) fn30]
  have key := rhigh_lp L M frm to_ H H.length [] hL _ 0 rfl (by omega) (by omega)
  have e0 : hsum 0 (part L frm to_ 0) = 0 := by
    have : part L frm to_ 0 = [] := by unfold part; rw [List.drop_eq_nil_iff]; simp; omega
    rw [this]; rfl
  rw [e0] at key
  simp [note, St.enter, enumFrom, subs, sli] at key ⊢
  rw [key]
  simp [highF, part]

theorem awake17 : clD EE (.p (.fn 17)) [] [] = some (.p (.bool true), none) := by
  rw [clD_iff]
  exact ⟨60, by kernel_rfl⟩

theorem noteHigh_ev (L M : List Int) (frm to_ : Int) : clD EE (.p (.fn 4)) [note L M, .p (.int .i64 frm), .p (.int .i64 to_)] [] = some (.p (.bool true), none) := by
  rw [clD_body _ _ _ _ _ _ (noP _) fn4]
  by_cases c : (100 : Int) < L.length
  · simp [note, St.enter, enumFrom, subs, sli, c, awake17]
  · have h1 := high_ev L M frm to_ [] (by omega)
    have h2 := rhigh_ev L M frm to_ [] (by omega)
    simp [note, St.enter, enumFrom, subs, sli] at h1 h2 ⊢
    simp [c, h1, h2, awake17, subs]
end Go.EnvOf

/- The layer split: what follows pieces of notes, how high they are, how many lines they have. -/
namespace Go.EnvOf
open Go Go.Eng
set_option maxRecDepth 100000

structure Piece where
  n : Int
  frm : Int
  to : Int
  deriving Inhabited, DecidableEq
def encPiece (x : Piece) : List PV := [.int .i64 x.n, .int .i64 x.frm, .int .i64 x.to]
@[simp] theorem encPiece_len (x : Piece) : (encPiece x).length = 3 := rfl
abbrev vPieces (l : List Piece) : V := .p (.sl (l.map encPiece))
structure Spot where
  note : Int
  line : Int
  begun : Int
  fresh : Bool
  deriving Inhabited, DecidableEq
abbrev vSpot (s : Spot) : V := .agg [vI s.note, vI s.line, vI s.begun, vB s.fresh]

theorem awake22 : clD EE (.p (.fn 35)) [] [] = some (.p (.bool true), none) := by
  rw [clD_iff]; exact ⟨100, by kernel_rfl⟩

/-! ### More than is gone through -/
def badPiece (x : Piece) : Bool := decide (x.frm < -1073741824) || decide (1073741824 < x.to) || decide (1073741824 < x.frm) || decide (x.to < -1073741824)
def bigLines (n : Note) : Bool := decide (50 < (n.lines.length : Int))
def large22 (l : List Note) (p : List Piece) : Bool := (l.take 50).any bigLines || (p.take 50).any badPiece || decide (50 < (l.length : Int)) || decide (50 < (p.length : Int))
def l22E (l : List Note) (p : List Piece) (H : Heap) (i : Nat) : St := ⟨[(0, vNotes l), (1, vPieces p), (5, vI i)], [], H, H.length, []⟩
def l22X (l : List Note) (p : List Piece) (H : Heap) (i : Nat) : Ex × St := (.exit 0, ⟨[(0, vNotes l), (1, vPieces p), (5, vI i), (14, vB false)], [], H, H.length, []⟩)
def l22B (H : Heap) : Ex × St := (.ret, ⟨[(4, vB true)], [], H, H.length, []⟩)
theorem large22_lp (l : List Note) (p : List Piece) (H : Heap) : evD EE lp34_0 (l22E l p H 0) = some (if (l.take 50).any bigLines = true then l22B H else l22X l p H (min 50 l.length)) := by
  unfold lp34_0
  refine Eq.trans (evD_rng (l.take 50) (fun (_ : Unit) i => l22E l p H i) (fun _ _ => True) (stepB bigLines (l22B H)) (fun _ => l22X l p H (min 50 l.length)) (fun _ _ => rfl) ?_ ?_ () 0 trivial (Nat.zero_le _)) (by rw [List.drop_zero, rng_any])
  · rintro _ i x - hx
    have hlt := (List.getElem?_eq_some_iff.1 hx).1
    rw [List.length_take] at hlt
    have hx' : l[i]? = some x := by rw [List.getElem?_take] at hx; split at hx <;> simp_all
    have hl1 : i < l.length := by omega
    have hl2 : (i : Int) < 50 := by omega
    have w1 : IntKind.i64.wrap ((i : Int) + 1) = ((i + 1 : Nat) : Int) := w64 (by omega) (by omega)
    have hix := fun H k => ixs_nat H encNote (k := k) (s := 2) hx' rfl
    simp only [encNote] at hix
    by_cases a : 50 < (x.lines.length : Int)
    · simp [stepB, bigLines, l22E, l22B, hl1, hl2, hix, subs, a]
    · simp [stepB, bigLines, l22E, hl1, hl2, hix, subs, a, w1]
  · rintro _ -
    refine ⟨?_, by simp [l22X]⟩
    rw [List.length_take]
    by_cases h : l.length ≤ 50
    · have e : min 50 l.length = l.length := by omega
      rw [e]; simp [l22E, l22X]
    · have e : min 50 l.length = 50 := by omega
      have h2 : (50 : Int) < l.length := by omega
      rw [e]; simp [l22E, l22X, h2]
def m22E (l : List Note) (p : List Piece) (H : Heap) (i : Nat) : St := ⟨[(0, vNotes l), (1, vPieces p), (6, vI i)], [], H, H.length, []⟩
def m22X (l : List Note) (p : List Piece) (H : Heap) (i : Nat) : Ex × St := (.exit 2, ⟨[(0, vNotes l), (1, vPieces p), (6, vI i), (31, vB false)], [], H, H.length, []⟩)
theorem large22_lq (l : List Note) (p : List Piece) (H : Heap) : evD EE lp34_1 (m22E l p H 0) = some (if (p.take 50).any badPiece = true then l22B H else m22X l p H (min 50 p.length)) := by
  unfold lp34_1
  refine Eq.trans (evD_rng (p.take 50) (fun (_ : Unit) i => m22E l p H i) (fun _ _ => True) (stepB badPiece (l22B H)) (fun _ => m22X l p H (min 50 p.length)) (fun _ _ => rfl) ?_ ?_ () 0 trivial (Nat.zero_le _)) (by rw [List.drop_zero, rng_any])
  · rintro _ i x - hx
    have hlt := (List.getElem?_eq_some_iff.1 hx).1
    rw [List.length_take] at hlt
    have hx' : p[i]? = some x := by rw [List.getElem?_take] at hx; split at hx <;> simp_all
    have hl1 : i < p.length := by omega
    have hl2 : (i : Int) < 50 := by omega
    have w1 : IntKind.i64.wrap ((i : Int) + 1) = ((i + 1 : Nat) : Int) := w64 (by omega) (by omega)
    have hix := fun H k => ixs_nat H encPiece (k := k) (s := 3) hx' rfl
    simp only [encPiece] at hix
    by_cases a : x.frm < -1073741824
    · simp [stepB, badPiece, m22E, l22B, hl1, hl2, hix, subs, a]
    · by_cases b : 1073741824 < x.to
      · simp [stepB, badPiece, m22E, l22B, hl1, hl2, hix, subs, a, b]
      · by_cases c : 1073741824 < x.frm
        · simp [stepB, badPiece, m22E, l22B, hl1, hl2, hix, subs, a, b, c]
        · by_cases d : x.to < -1073741824
          · simp [stepB, badPiece, m22E, l22B, hl1, hl2, hix, subs, a, b, c, d]
          · simp [stepB, badPiece, m22E, hl1, hl2, hix, subs, a, b, c, d, w1]
  · rintro _ -
    refine ⟨?_, by simp [m22X]⟩
    rw [List.length_take]
    by_cases h : p.length ≤ 50
    · have e : min 50 p.length = p.length := by omega
      rw [e]; simp [m22E, m22X]
    · have e : min 50 p.length = 50 := by omega
      have h2 : (50 : Int) < p.length := by omega
      rw [e]; simp [m22E, m22X, h2]
theorem large22_ev (l : List Note) (p : List Piece) (H : Heap) : clD EE (.p (.fn 34)) [vNotes l, vPieces p] H = some (vB (large22 l p), none) := by
  rw [clD_body _ _ _ _ _ _ (noP _) fn34]
  have k0 := large22_lp l p H
  have k1 := large22_lq l p H
  unfold large22
  simp only [l22E, l22X, l22B, m22E, m22X] at k0 k1
  cases b : (l.take 50).any bigLines with
  | true => simp [b] at k0; simp [St.enter, enumFrom, k0]
  | false =>
    simp [b] at k0
    cases c : (p.take 50).any badPiece with
    | true => simp [c] at k1; simp [St.enter, enumFrom, k0, k1]
    | false =>
      simp [c] at k1
      by_cases d : 50 < (l.length : Int) <;> simp [St.enter, enumFrom, k0, k1, d]
structure small22 (l : List Note) (p : List Piece) : Prop where
  nl : l.length ≤ 50
  np : p.length ≤ 50
  lines : ∀ n ∈ l, n.lines.length ≤ 50
  pieces : ∀ x ∈ p, -1073741824 ≤ x.frm ∧ x.to ≤ 1073741824 ∧ x.frm ≤ 1073741824 ∧ -1073741824 ≤ x.to
theorem small22_of {l : List Note} {p : List Piece} (h : large22 l p = false) : small22 l p := by
  unfold large22 at h
  simp only [Bool.or_eq_false_iff, decide_eq_false_iff_not] at h
  obtain ⟨⟨⟨h1, h2⟩, h3⟩, h4⟩ := h
  have hl : l.length ≤ 50 := by omega
  have hp : p.length ≤ 50 := by omega
  rw [List.take_of_length_le hl] at h1
  rw [List.take_of_length_le hp] at h2
  refine ⟨hl, hp, fun n hn => ?_, fun x hx => ?_⟩
  · have := List.any_eq_false.1 h1 n hn
    simp [bigLines] at this; omega
  · have := List.any_eq_false.1 h2 x hx
    simp [badPiece] at this; omega

/-! ### What follows -/
def nextP (l : List Note) (x : Piece) : Int × Int := if 0 ≤ x.n ∧ x.n < l.length ∧ x.to = (rd l x.n).lines.length then (x.n + 1, 0) else (x.n, x.to)
def nextF (l : List Note) (s : Spot) (p : List Piece) : Int × Int := match p.getLast? with
  | none => (s.note, s.line)
  | some x => nextP l x
theorem last_ix {α : Type} (enc : α → List PV) (s : Nat) (hs : ∀ x, (enc x).length = s) {p : List α} {x : α} (h : p.getLast? = some x) (H : Heap) (k : IntKind) : ixsI H (.p (.sl (p.map enc))) (.p (.int k ((p.length : Int) - 1))) s = some (.eptr ((enc x).map .p) 0) := by
  have hp : p ≠ [] := fun e => by subst e; simp at h
  have hl : 0 < p.length := List.length_pos_iff.2 hp
  have e : ((p.length : Int) - 1).toNat = p.length - 1 := by omega
  refine ixs_int H enc (by omega) ?_ (hs x)
  rw [e, ← List.getLast?_eq_getElem?]; exact h
theorem splitNext_ev (l : List Note) (s : Spot) (p : List Piece) (hl : l.length ≤ 1000000) (hp : p.length ≤ 1000000) (H : Heap) : clD EE (.p (.fn 36)) [vNotes l, vSpot s, vPieces p] H = some (.tup [vI (nextF l s p).1, vI (nextF l s p).2], none) := by
  rw [clD_body _ _ _ _ _ _ (noP _) fn36]
  unfold nextF
  cases hx : p.getLast? with
  | none =>
    have : p = [] := by simpa using hx
    subst this
    simp [St.enter, enumFrom, subs]
  | some x =>
    have hp0 : p ≠ [] := fun e => by subst e; simp at hx
    have hlen : ¬ p.length = 0 := by simpa using hp0
    have hpos : 0 < p.length := by omega
    have w1 : IntKind.i64.wrap ((p.length : Int) - 1) = (p.length : Int) - 1 := w64 (by omega) (by omega)
    have hix := fun H k => last_ix encPiece 3 (fun _ => rfl) hx H k
    simp only [encPiece] at hix
    simp only [nextP]
    by_cases a : 0 ≤ x.n
    · by_cases b : x.n < (l.length : Int)
      · have hin := fun H k => ixs_map H encNote l k x.n 2 (fun _ => rfl) a b
        simp only [encNote] at hin
        have w2 : IntKind.i64.wrap (x.n + 1) = x.n + 1 := w64 (by omega) (by omega)
        by_cases c : x.to = ((rd l x.n).lines.length : Int)
        · simp [St.enter, enumFrom, subs, setSubs, hp0, w1, hix, a, b, hin, c, w2]
        · simp [St.enter, enumFrom, subs, setSubs, hp0, w1, hix, a, b, hin, c]
      · simp [St.enter, enumFrom, subs, setSubs, hp0, w1, hix, a, b]
    · simp [St.enter, enumFrom, subs, setSubs, hp0, w1, hix, a]
theorem rnext_ev (l : List Note) (s : Spot) (p : List Piece) (hl : l.length ≤ 1000000) (hp : p.length ≤ 1000000) (H : Heap) : clD EE (.p (.fn 38)) [vNotes l, vSpot s, vPieces p] H = some (.agg [vI (nextF l s p).1, vI (nextF l s p).2], none) := by
  rw [clD_body _ _ _ _ _ _ (noP _) fn38]
  unfold nextF
  cases hx : p.getLast? with
  | none =>
    have : p = [] := by simpa using hx
    subst this
    simp [St.enter, enumFrom, subs, setSubs]
  | some x =>
    have hp0 : p ≠ [] := fun e => by subst e; simp at hx
    have hlen : ¬ p.length = 0 := by simpa using hp0
    have hpos : 0 < p.length := by omega
    have w1 : IntKind.i64.wrap ((p.length : Int) - 1) = (p.length : Int) - 1 := w64 (by omega) (by omega)
    have hix := fun H k => last_ix encPiece 3 (fun _ => rfl) hx H k
    simp only [encPiece] at hix
    simp only [nextP]
    by_cases a : 0 ≤ x.n
    · by_cases b : x.n < (l.length : Int)
      · have hin := fun H k => ixs_map H encNote l k x.n 2 (fun _ => rfl) a b
        simp only [encNote] at hin
        have w2 : IntKind.i64.wrap (x.n + 1) = x.n + 1 := w64 (by omega) (by omega)
        by_cases c : x.to = ((rd l x.n).lines.length : Int)
        · simp [St.enter, enumFrom, subs, setSubs, hp0, w1, hix, a, b, hin, c, w2]
        · simp [St.enter, enumFrom, subs, setSubs, hp0, w1, hix, a, b, hin, c]
      · simp [St.enter, enumFrom, subs, setSubs, hp0, w1, hix, a, b]
    · simp [St.enter, enumFrom, subs, setSubs, hp0, w1, hix, a]

/-! ### How high -/
def hiStep (l : List Note) (s : Int) (x : Piece) : Int := if 0 ≤ x.n ∧ x.n < l.length then min (s + highF (rd l x.n).lines x.frm x.to) far else s
def highP (l : List Note) (p : List Piece) (rule : Int) : Int := if p = [] then 0 else p.foldl (hiStep l) (min (max rule 0) far)
theorem highF_lo (L : List Int) (a b : Int) : 0 ≤ highF L a b := hsum_lo _ (Int.le_refl _)
theorem highF_hi (L : List Int) (a b : Int) : highF L a b ≤ far := hsum_hi _ (by unfold far; omega)
theorem hiStep_in (l : List Note) {s : Int} (x : Piece) (h : 0 ≤ s ∧ s ≤ far) : 0 ≤ hiStep l s x ∧ hiStep l s x ≤ far := by
  unfold hiStep
  have h1 := highF_lo (rd l x.n).lines x.frm x.to
  have h2 := highF_hi (rd l x.n).lines x.frm x.to
  unfold far at *
  split <;> omega
def shE (l : List Note) (p : List Piece) (H : Heap) (s : Int) (i : Nat) : St := ⟨[(0, vNotes l), (7, vI s), (16, vPieces p), (17, vI p.length), (18, vI i)], [], H, H.length, []⟩
def shX (l : List Note) (p : List Piece) (H : Heap) (s : Int) : Ex × St := (.exit 0, ⟨[(0, vNotes l), (7, vI s), (16, vPieces p), (17, vI p.length), (18, vI p.length), (19, vB false)], [], H, H.length, []⟩)
theorem foldI {α : Type} (f : Int → α → Int) : ∀ (l : List α) (s : Int) (i : Nat), fold (fun s _ x => f s x) s i l = l.foldl f s
  | [], _, _ => rfl
  | x :: r, s, i => by simp only [fold, List.foldl_cons]; exact foldI f r _ _
abbrev linesOK (l : List Note) : Prop := ∀ n ∈ l, n.lines.length ≤ 1000000
theorem rd_mem {α : Type} [Inhabited α] {l : List α} {i : Int} (h0 : 0 ≤ i) (h1 : i < l.length) : rd l i ∈ l := List.mem_of_getElem? (rd_get l i h0 h1)
theorem splitHigh_lp (l : List Note) (p : List Piece) (hl : linesOK l) (hp : p.length ≤ 1000000) (H : Heap) (s : Int) (hs : 0 ≤ s ∧ s ≤ far) : evD EE lp37_0 (shE l p H s 0) = some (shX l p H (p.foldl (hiStep l) s)) := by
  unfold lp37_0
  refine Eq.trans (evD_fold (E := EE) p (fun s i => shE l p H s i) (fun s _ => 0 ≤ s ∧ s ≤ far) (fun s _ x => hiStep l s x) (fun s => shX l p H s) (fun _ _ => rfl) ?_ ?_ s 0 hs (Nat.zero_le _)) (by rw [List.drop_zero, foldI])
  · rintro s i x hs hx
    refine ⟨?_, hiStep_in l x hs⟩
    have hlt := (List.getElem?_eq_some_iff.1 hx).1
    have w1 : IntKind.i64.wrap ((i : Int) + 1) = ((i + 1 : Nat) : Int) := w64 (by omega) (by omega)
    have hix := fun H k => ixs_nat H encPiece (k := k) (s := 3) hx rfl
    simp only [encPiece] at hix
    unfold hiStep
    by_cases a : 0 ≤ x.n
    · by_cases b : x.n < (l.length : Int)
      · have hin := fun H k => ixs_map H encNote l k x.n 2 (fun _ => rfl) a b
        simp only [encNote] at hin
        have hh := high_ev (rd l x.n).lines (rd l x.n).pens x.frm x.to H (by have := hl _ (rd_mem a b); omega)
        simp only [note] at hh
        have h1 := highF_lo (rd l x.n).lines x.frm x.to
        have h2 := highF_hi (rd l x.n).lines x.frm x.to
        have w2 : IntKind.i64.wrap (s + highF (rd l x.n).lines x.frm x.to) = s + highF (rd l x.n).lines x.frm x.to := w64 (by unfold far at *; omega) (by unfold far at *; omega)
        simp [shE, hlt, hix, subs, setSubs, a, b, hin, hh, w1, w2, far]
      · simp [shE, hlt, hix, subs, setSubs, a, b, w1]
    · simp [shE, hlt, hix, subs, setSubs, a, w1]
  · rintro s -
    refine ⟨?_, by simp [shX]⟩
    simp [shE, shX]
theorem splitHigh_ev (l : List Note) (p : List Piece) (rule : Int) (hl : linesOK l) (hp : p.length ≤ 1000000) (H : Heap) : clD EE (.p (.fn 37)) [vNotes l, vPieces p, vI rule] H = some (vI (highP l p rule), none) := by
  rw [clD_body _ _ _ _ _ _ (noP _) fn37]
  have key := splitHigh_lp l p hl hp H (min (max rule 0) far) (by unfold far; omega)
  simp only [shE, shX, far] at key
  unfold highP
  by_cases h : p = []
  · subst h; simp [St.enter, enumFrom]
  · simp at key
    simp [St.enter, enumFrom, h, key, far]
def rhE (l : List Note) (p : List Piece) (H : Heap) (s : Int) (i : Nat) : St := ⟨[(0, vNotes l), (1, vPieces p), (7, vI s), (8, vI i)], [], H, H.length, []⟩
def rhX (l : List Note) (p : List Piece) (H : Heap) (s : Int) : Ex × St := (.exit 0, ⟨[(0, vNotes l), (1, vPieces p), (7, vI s), (8, vI p.length), (18, vB false)], [], H, H.length, []⟩)
theorem rsplitHigh_lp (l : List Note) (p : List Piece) (hl : linesOK l) (hp : p.length ≤ 1000000) (H : Heap) (s : Int) (hs : 0 ≤ s ∧ s ≤ far) : evD EE lp40_0 (rhE l p H s 0) = some (rhX l p H (p.foldl (hiStep l) s)) := by
  unfold lp40_0
  refine Eq.trans (evD_fold (E := EE) p (fun s i => rhE l p H s i) (fun s _ => 0 ≤ s ∧ s ≤ far) (fun s _ x => hiStep l s x) (fun s => rhX l p H s) (fun _ _ => rfl) ?_ ?_ s 0 hs (Nat.zero_le _)) (by rw [List.drop_zero, foldI])
  · rintro s i x hs hx
    refine ⟨?_, hiStep_in l x hs⟩
    have hlt := (List.getElem?_eq_some_iff.1 hx).1
    have w1 : IntKind.i64.wrap ((i : Int) + 1) = ((i + 1 : Nat) : Int) := w64 (by omega) (by omega)
    have hix := fun H k => ixs_nat H encPiece (k := k) (s := 3) hx rfl
    simp only [encPiece] at hix
    unfold hiStep
    by_cases a : 0 ≤ x.n
    · by_cases b : x.n < (l.length : Int)
      · have hin := fun H k => ixs_map H encNote l k x.n 2 (fun _ => rfl) a b
        simp only [encNote] at hin
        have hh := rhigh_ev (rd l x.n).lines (rd l x.n).pens x.frm x.to H (by have := hl _ (rd_mem a b); omega)
        simp only [note] at hh
        have h1 := highF_lo (rd l x.n).lines x.frm x.to
        have h2 := highF_hi (rd l x.n).lines x.frm x.to
        have w2 : IntKind.i64.wrap (s + highF (rd l x.n).lines x.frm x.to) = s + highF (rd l x.n).lines x.frm x.to := w64 (by unfold far at *; omega) (by unfold far at *; omega)
        simp [rhE, hlt, hix, subs, a, b, hin, hh, w1, w2, far]
      · simp [rhE, hlt, hix, subs, a, b, w1]
    · simp [rhE, hlt, hix, subs, a, w1]
  · rintro s -
    refine ⟨?_, by simp [rhX]⟩
    simp [rhE, rhX]
theorem rsplitHigh_ev (l : List Note) (p : List Piece) (rule : Int) (hl : linesOK l) (hp : p.length ≤ 1000000) (H : Heap) : clD EE (.p (.fn 40)) [vNotes l, vPieces p, vI rule] H = some (vI (highP l p rule), none) := by
  rw [clD_body _ _ _ _ _ _ (noP _) fn40]
  have e : max 0 (min rule far) = min (max rule 0) far := by unfold far; omega
  have key := rsplitHigh_lp l p hl hp H (min (max rule 0) far) (by unfold far; omega)
  rw [← e] at key
  simp only [rhE, rhX, far] at key
  unfold highP
  rw [← e]
  by_cases h : p = []
  · subst h; simp [St.enter, enumFrom]
  · simp at key
    simp [St.enter, enumFrom, h, key, far]

/-! ### How many lines -/
def linStep (s : Int) (x : Piece) : Int := s + max (x.to - x.frm) 0
def linesP (p : List Piece) : Int := p.foldl linStep 0
abbrev smallP (x : Piece) : Prop := -1073741824 ≤ x.frm ∧ x.to ≤ 1073741824 ∧ x.frm ≤ 1073741824 ∧ -1073741824 ≤ x.to
def slE (p : List Piece) (H : Heap) (s : Int) (i : Nat) : St := ⟨[(3, vI s), (6, vPieces p), (7, vI p.length), (8, vI i)], [], H, H.length, []⟩
def slX (p : List Piece) (H : Heap) (s : Int) : Ex × St := (.exit 0, ⟨[(3, vI s), (6, vPieces p), (7, vI p.length), (8, vI p.length), (9, vB false)], [], H, H.length, []⟩)
theorem splitLines_ev (p : List Piece) (hp : p.length ≤ 100000) (hs : ∀ x ∈ p, smallP x) (H : Heap) : clD EE (.p (.fn 41)) [vPieces p] H = some (vI (linesP p), none) := by
  rw [clD_body _ _ _ _ _ _ (noP _) fn41]
  have key : evD EE lp41_0 (slE p H 0 0) = some (slX p H (linesP p)) := by
    unfold lp41_0
    refine Eq.trans (evD_fold (E := EE) p (fun s i => slE p H s i) (fun s i => 0 ≤ s ∧ s ≤ 4294967296 * i) (fun s _ x => linStep s x) (fun s => slX p H s) (fun _ _ => rfl) ?_ ?_ 0 0 (by omega) (Nat.zero_le _)) (by rw [List.drop_zero, foldI]; rfl)
    · rintro s i x hi hx
      have hlt := (List.getElem?_eq_some_iff.1 hx).1
      have w1 : IntKind.i64.wrap ((i : Int) + 1) = ((i + 1 : Nat) : Int) := w64 (by omega) (by omega)
      have hix := fun H k => ixs_nat H encPiece (k := k) (s := 3) hx rfl
      simp only [encPiece] at hix
      have h5 := hs x (List.mem_of_getElem? hx)
      have w2 : IntKind.i64.wrap (x.to - x.frm) = x.to - x.frm := w64 (by omega) (by omega)
      have w3 : IntKind.i64.wrap (s + max (x.to - x.frm) 0) = s + max (x.to - x.frm) 0 := w64 (by omega) (by omega)
      refine ⟨?_, by unfold linStep; omega⟩
      simp [slE, linStep, hlt, hix, subs, setSubs, w1, w2, w3]
    · rintro s -
      refine ⟨?_, by simp [slX]⟩
      simp [slE, slX]
  simp only [slE, slX] at key
  simp at key
  simp [St.enter, enumFrom, key]
def rlE (p : List Piece) (H : Heap) (s : Int) (i : Nat) : St := ⟨[(0, vPieces p), (3, vI s), (4, vI i)], [], H, H.length, []⟩
def rlX (p : List Piece) (H : Heap) (s : Int) : Ex × St := (.exit 0, ⟨[(0, vPieces p), (3, vI s), (4, vI p.length), (8, vB false)], [], H, H.length, []⟩)
theorem rlines22_ev (p : List Piece) (hp : p.length ≤ 100000) (hs : ∀ x ∈ p, smallP x) (H : Heap) : clD EE (.p (.fn 42)) [vPieces p] H = some (vI (linesP p), none) := by
  rw [clD_body _ _ _ _ _ _ (noP _) fn42]
  have key : evD EE lp42_0 (rlE p H 0 0) = some (rlX p H (linesP p)) := by
    unfold lp42_0
    refine Eq.trans (evD_fold (E := EE) p (fun s i => rlE p H s i) (fun s i => 0 ≤ s ∧ s ≤ 4294967296 * i) (fun s _ x => linStep s x) (fun s => rlX p H s) (fun _ _ => rfl) ?_ ?_ 0 0 (by omega) (Nat.zero_le _)) (by rw [List.drop_zero, foldI]; rfl)
    · rintro s i x hi hx
      have hlt := (List.getElem?_eq_some_iff.1 hx).1
      have w1 : IntKind.i64.wrap ((i : Int) + 1) = ((i + 1 : Nat) : Int) := w64 (by omega) (by omega)
      have hix := fun H k => ixs_nat H encPiece (k := k) (s := 3) hx rfl
      simp only [encPiece] at hix
      have h5 := hs x (List.mem_of_getElem? hx)
      have w2 : IntKind.i64.wrap (x.to - x.frm) = x.to - x.frm := w64 (by omega) (by omega)
      have e3 : max 0 (x.to - x.frm) = max (x.to - x.frm) 0 := by omega
      have w3 : IntKind.i64.wrap (s + max (x.to - x.frm) 0) = s + max (x.to - x.frm) 0 := w64 (by omega) (by omega)
      refine ⟨?_, by unfold linStep; omega⟩
      simp [rlE, linStep, hlt, hix, subs, w1, w2, e3, w3]
    · rintro s -
      refine ⟨?_, by simp [rlX]⟩
      simp [rlE, rlX]
  simp only [rlE, rlX] at key
  simp at key
  simp [St.enter, enumFrom, key]

/-! ### The same pieces -/
theorem eqPieces_fn : EE.fns 92 = some (eqI 3 [true, true, true]) := by kernel_rfl
theorem piece_cells (x y : Piece) : eqCells [true, true, true] ((encPiece x).map .p) ((encPiece y).map .p) = some (decide (x = y)) := by
  obtain ⟨a, b, c⟩ := x
  obtain ⟨a', b', c'⟩ := y
  simp [encPiece, Bool.decide_and]
theorem splitSame_ev (a b : List Piece) (hn : a.length ≤ 1000000) (H : Heap) : clD EE (.p (.fn 43)) [vPieces a, vPieces b] H = some (vB (decide (a = b)), none) := by
  rw [clD_body _ _ _ _ _ _ (noP _) fn43]
  have := eq_ev _ 3 _ encPiece (noP _) eqPieces_fn (fun _ => rfl) (fun _ => rfl) piece_cells a b (by omega) H
  simp [St.enter, enumFrom, this]

theorem splitTells_ev (l : List Note) (s : Spot) (p : List Piece) : clD EE (.p (.fn 6)) [vNotes l, vSpot s, vPieces p] [] = some (.p (.bool true), none) := by
  rw [clD_body _ _ _ _ _ _ (noP _) fn6]
  have hg := large22_ev l p []
  cases b : large22 l p with
  | true => rw [b] at hg; simp [St.enter, enumFrom, hg, awake22]
  | false =>
    rw [b] at hg
    have sm := small22_of b
    have h1 := sm.nl
    have h2 := sm.np
    have hl : linesOK l := fun n hn => by have := sm.lines n hn; omega
    have e1 := splitNext_ev l s p (by omega) (by omega) []
    have e2 := rnext_ev l s p (by omega) (by omega) []
    have e3 := splitHigh_ev l p s.begun hl (by omega) []
    have e4 := rsplitHigh_ev l p s.begun hl (by omega) []
    have e5 := splitLines_ev p (by omega) sm.pieces []
    have e6 := rlines22_ev p (by omega) sm.pieces []
    have e7 := splitSame_ev p p (by omega) []
    have e8 := splitSame_ev p [] (by omega) []
    have er : clD EE (.p (.fn 39)) [vSpot s] [] = some (vSpot s, none) := by
      rw [clD_body _ _ _ _ _ _ (noP _) fn39]
      simp [St.enter, enumFrom, subs, setSubs]
    simp only [vPieces, List.map_nil] at e8
    simp at e7
    simp [St.enter, enumFrom, subs, setSubs, hg, e1, e2, e3, e4, e5, e6, e7, e8, er, awake22]
end Go.EnvOf
