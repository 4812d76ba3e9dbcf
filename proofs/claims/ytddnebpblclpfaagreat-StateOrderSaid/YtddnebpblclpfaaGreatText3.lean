/- The program's functions and the document's, evaluated. -/
import Derived.KernelRfl
import Derived.Test.YtddnebpblclpfaaGreatText2
set_option linter.unusedSimpArgs false
set_option linter.unusedVariables false
/- Notes: how high lines are. -/
namespace Go.EnvOf
open Go Go.Eng

def note (lines pens : List Int) : V := .agg [sli lines, sli pens]
def far : Int := 1125899906842624
def hstep (s x : Int) : Int := min (s + min (max x 0) far) far
/-- The lines of so many that lie between. -/
def part (L : List Int) (frm to_ i : Int) : List Int := (L.take (min to_ i).toNat).drop (max frm 0).toNat
end Go.EnvOf

/- Notes: where they may split, and end. -/
namespace Go.EnvOf
open Go Go.Eng

end Go.EnvOf

/- Notes: all places where they may end. -/
namespace Go.EnvOf
open Go Go.Eng

end Go.EnvOf

/- Notes: where they may end, by the document; the same numbers. -/
namespace Go.EnvOf
open Go Go.Eng

end Go.EnvOf

/- Notes: first stop, whether a note may be; the law NoteTells. -/
namespace Go.EnvOf
open Go Go.Eng

end Go.EnvOf

/- Notes: whether a note may be, by the document. -/
namespace Go.EnvOf
open Go Go.Eng

end Go.EnvOf

/- Notes: the same notes. -/
namespace Go.EnvOf
open Go Go.Eng

end Go.EnvOf

/- Notes: the same by the document; all lines of notes. -/
namespace Go.EnvOf
open Go Go.Eng

/-- A list of notes. -/
def encN (x : List Int × List Int) : List PV := [.sl (x.1.map encI), .sl (x.2.map encI)]
@[simp] theorem encN_len (x : List Int × List Int) : (encN x).length = 2 := rfl
def notes (l : List (List Int × List Int)) : V := .p (.sl (l.map encN))
end Go.EnvOf

/- Notes: the same by the document. -/
namespace Go.EnvOf
open Go Go.Eng

end Go.EnvOf

/- The same jobs. -/
namespace Go.EnvOf
open Go Go.Eng

/-! ### Notes, pair by pair -/
/-! ### By the document -/
end Go.EnvOf

/- Jobs that are more than is gone through. -/
namespace Go.EnvOf
open Go Go.Eng

end Go.EnvOf

/- The layer queue: counts of classes. -/
namespace Go.EnvOf
open Go Go.Eng
set_option maxRecDepth 100000

structure C3 where
  a : Int
  b : Int
  c : Int
  deriving Inhabited, DecidableEq
abbrev okC3 (x : C3) : Prop := I64 x.a ∧ I64 x.b ∧ I64 x.c
/-! ### Through two counts, class by class -/
/-! ### Within -/
end Go.EnvOf

/- States: their fields, and their order. -/
namespace Go.EnvOf
open Go Go.Eng
set_option maxRecDepth 100000
structure Stt where
  at_ : Int
  col : Int
  note : Int
  line : Int
  h : C3
  deriving Inhabited, DecidableEq
abbrev vStt (s : Stt) : V := .agg [vI s.at_, vI s.col, vI s.note, vI s.line, vI s.h.a, vI s.h.b, vI s.h.c]
def cmp1 (x y : Int) : Int := if x < y then -1 else if y < x then 1 else 0
def orL : List Int → Int
  | [] => 0
  | x :: r => if x = 0 then orL r else x
def lexC : List Int → List Int → Int
  | x :: xs, y :: ys => if cmp1 x y = 0 then lexC xs ys else cmp1 x y
  | _, _ => 0
theorem cmp1_neg (x y : Int) : cmp1 x y = - cmp1 y x := by unfold cmp1; (repeat' split) <;> omega
theorem cmp1_zero (x y : Int) : cmp1 x y = 0 ↔ x = y := by
  unfold cmp1; constructor
  · intro h; split at h
    · omega
    · split at h <;> omega
  · rintro rfl; simp
theorem lexC_neg : ∀ a b : List Int, lexC a b = - lexC b a
  | [], [] => rfl
  | [], _ :: _ => rfl
  | _ :: _, [] => rfl
  | x :: a, y :: b => by
    have h := cmp1_neg x y
    simp only [lexC]
    by_cases c : cmp1 x y = 0
    · rw [if_pos c, if_pos (by omega), lexC_neg a b]
    · rw [if_neg c, if_neg (by omega)]; exact h
theorem lexC_zero : ∀ a b : List Int, a.length = b.length → (lexC a b = 0 ↔ a = b)
  | [], [], _ => by simp [lexC]
  | [], _ :: _, h => by simp at h
  | _ :: _, [], h => by simp at h
  | x :: a, y :: b, h => by
    have ih := lexC_zero a b (by simpa using h)
    simp only [lexC, List.cons.injEq]
    by_cases c : cmp1 x y = 0
    · rw [if_pos c, ih, ← cmp1_zero x y]; simp [c]
    · rw [if_neg c, ← cmp1_zero x y]; simp [c]
theorem lexC_trans : ∀ a b c : List Int, a.length = b.length → b.length = c.length → lexC a b ≤ 0 → lexC b c ≤ 0 → lexC a c ≤ 0
  | [], [], [], _, _, _, _ => by simp [lexC]
  | [], [], _ :: _, _, h, _, _ => by simp at h
  | [], _ :: _, _, h, _, _, _ => by simp at h
  | _ :: _, [], _, h, _, _, _ => by simp at h
  | _ :: _, _ :: _, [], _, h, _, _ => by simp at h
  | x :: a, y :: b, z :: c, h1, h2, h3, h4 => by
    have ih := lexC_trans a b c (by simpa using h1) (by simpa using h2)
    simp only [lexC] at *
    unfold cmp1 at *
    by_cases p : x < y
    · by_cases q : y < z
      · have : x < z := by omega
        simp [this]
      · by_cases r : z < y
        · simp [q, r] at h4
        · have : x < z := by omega
          simp [this]
    · by_cases p2 : y < x
      · simp [p, p2] at h3
      · have e : x = y := by omega
        subst e
        by_cases q : x < z
        · simp [q]
        · by_cases r : z < x
          · simp [q, r] at h4
          · simp [q, r] at h3 h4 ⊢
            exact ih h3 h4
def flds (s : Stt) : List Int := [s.at_, s.col, s.note, s.line, s.h.a, s.h.b, s.h.c]
def cmpS (a b : Stt) : Int := lexC (flds a) (flds b)
theorem flds_inj {a b : Stt} : flds a = flds b ↔ a = b := by
  obtain ⟨a1, a2, a3, a4, a5, a6, a7⟩ := a
  obtain ⟨b1, b2, b3, b4, b5, b6, b7⟩ := b
  simp [flds, and_assoc]
theorem cmpS_zero (a b : Stt) : cmpS a b = 0 ↔ a = b := by unfold cmpS; rw [lexC_zero (flds a) (flds b) rfl, flds_inj]
theorem cmpS_neg (a b : Stt) : cmpS a b = - cmpS b a := lexC_neg _ _
theorem cmpS_trans (a b c : Stt) : cmpS a b ≤ 0 → cmpS b c ≤ 0 → cmpS a c ≤ 0 := lexC_trans _ _ _ rfl rfl
end Go.EnvOf

/- States: which comes first, as the program and the document tell it. -/
namespace Go.EnvOf
open Go Go.Eng
set_option maxRecDepth 100000
theorem nan_ev (a : Int) (H : Heap) : clD EE (.p (.fn 170)) [vI a] H = some (vB false, none) := by
  rw [clD_body _ _ _ _ _ _ (noP _) fn170]
  simp [St.enter, enumFrom]
theorem cmpI_ev (a b : Int) (H : Heap) : clD EE (.p (.fn 76)) [vI a, vI b] H = some (vI (cmp1 a b), none) := by
  rw [clD_body _ _ _ _ _ _ (noP _) fn76]
  have n1 := fun H => nan_ev a H
  have n2 := fun H => nan_ev b H
  unfold cmp1
  by_cases h1 : a < b
  · simp [St.enter, enumFrom, n1, n2, h1]
  · by_cases h2 : b < a
    · simp [St.enter, enumFrom, n1, n2, h1, h2]
    · simp [St.enter, enumFrom, n1, n2, h1, h2]
def orE (l : List Int) (H : Heap) (i : Nat) : St := ⟨[(3, vI 0), (6, sli l), (7, vI l.length), (8, vI i)], [], H, H.length, []⟩
def orX (l : List Int) (H : Heap) : Ex × St := (.exit 0, ⟨[(3, vI 0), (6, sli l), (7, vI l.length), (8, vI l.length), (9, vB false)], [], H, H.length, []⟩)
def orS (H : Heap) (_ : Unit) (_ : Nat) (x : Int) : Unit ⊕ (Ex × St) := if x = 0 then .inl () else .inr (.ret, ⟨[(2, vI x)], [], H, H.length, []⟩)
theorem or_lp (l : List Int) (H : Heap) (hl : l.length ≤ 1000000) : evD EE lp75_0 (orE l H 0) = some (rng (orS H) (fun _ => orX l H) () 0 l) := by
  unfold lp75_0
  refine evD_rng l (fun (_ : Unit) i => orE l H i) (fun _ _ => True) (orS H) (fun _ => orX l H) (fun _ _ => rfl) ?_ ?_ () 0 trivial (Nat.zero_le _)
  · rintro _ i x - hx
    have hlt := (List.getElem?_eq_some_iff.1 hx).1
    have w : IntKind.i64.wrap ((i : Int) + 1) = ((i + 1 : Nat) : Int) := w64 (by omega) (by omega)
    have hix := fun H k => ixs_nat H encI (k := k) (s := 1) hx rfl
    by_cases h : x = 0
    · simp only [orS, if_pos h]
      simp [orE, hlt, hix, encI, subs, w, h]
    · simp only [orS, if_neg h]
      simp [orE, hlt, hix, encI, subs, w, h]
  · rintro _ -
    simp [orE, orX]
theorem or_rng (H : Heap) (fin : Ex × St) : ∀ (l : List Int) (i : Nat), rng (orS H) (fun _ => fin) () i l = if orL l = 0 then fin else (.ret, ⟨[(2, vI (orL l))], [], H, H.length, []⟩)
  | [], _ => by simp [rng, orL]
  | x :: r, i => by
    simp only [rng, orS, orL]
    by_cases h : x = 0
    · simp only [if_pos h]; exact or_rng H fin r (i + 1)
    · simp only [if_neg h]
theorem cmpOr_ev (l : List Int) (H : Heap) (hl : l.length ≤ 1000000) : clD EE (.p (.fn 75)) [sli l] H = some (vI (orL l), none) := by
  rw [clD_body _ _ _ _ _ _ (noP _) fn75]
  have k := or_lp l H hl
  rw [or_rng] at k
  by_cases h : orL l = 0
  · rw [if_pos h] at k
    simp [orE, orX] at k
    simp [St.enter, enumFrom, k, h]
  · rw [if_neg h] at k
    simp [orE] at k
    simp [St.enter, enumFrom, k]
theorem cmpSl_ev (H : Heap) (p q : Nat) (cs ds : List V) (a b : C3) (hp : Eng.boxAt H p = some cs) (hq : Eng.boxAt H q = some ds) (a0 : subs cs 4 1 = some [vI a.a]) (a1 : subs cs 5 1 = some [vI a.b]) (a2 : subs cs 6 1 = some [vI a.c])
    (b0 : subs ds 4 1 = some [vI b.a]) (b1 : subs ds 5 1 = some [vI b.b]) (b2 : subs ds 6 1 = some [vI b.c]) :
    clD EE (.p (.fn 77)) [.bvs p 4 3 1, .bvs q 4 3 1] H = some (vI (lexC [a.a, a.b, a.c] [b.a, b.b, b.c]), none) := by
  rw [clD_body _ _ _ _ _ _ (noP _) fn77]
  have c := fun a b H => cmpI_ev a b H
  have w1 : IntKind.i64.wrap 1 = 1 := by decide
  have w2 : IntKind.i64.wrap 2 = 2 := by decide
  have w3 : IntKind.i64.wrap 3 = 3 := by decide
  simp only [lexC]
  by_cases h1 : cmp1 a.a b.a = 0
  · by_cases h2 : cmp1 a.b b.b = 0
    · by_cases h3 : cmp1 a.c b.c = 0
      · simp [St.enter, enumFrom, lp77_0, evD_loop, ixsI, ixsV, lenV, hp, hq, a0, a1, a2, b0, b1, b2, c, w1, w2, w3, h1, h2, h3]
      · simp [St.enter, enumFrom, lp77_0, evD_loop, ixsI, ixsV, lenV, hp, hq, a0, a1, a2, b0, b1, b2, c, w1, w2, w3, h1, h2, h3]
    · simp [St.enter, enumFrom, lp77_0, evD_loop, ixsI, ixsV, lenV, hp, hq, a0, a1, a2, b0, b1, b2, c, w1, w2, w3, h1, h2]
  · simp [St.enter, enumFrom, lp77_0, evD_loop, ixsI, ixsV, lenV, hp, hq, a0, a1, a2, b0, b1, b2, c, w1, w2, w3, h1]
theorem or_lex (a b : Stt) : orL [cmp1 a.at_ b.at_, cmp1 a.col b.col, cmp1 a.note b.note, cmp1 a.line b.line, lexC [a.h.a, a.h.b, a.h.c] [b.h.a, b.h.b, b.h.c]] = cmpS a b := by
  unfold cmpS flds
  simp only [orL, lexC]
  (repeat' split) <;> first | rfl | (simp_all)
theorem stCmp_ev (a b : Stt) (H : Heap) : clD EE (.p (.fn 17)) [vStt a, vStt b] H = some (vI (cmpS a b), none) := by
  rw [clD_body _ _ _ _ _ _ (noP _) fn17]
  have c := fun a b H => cmpI_ev a b H
  have s := fun T => cmpSl_ev (H ++ (DObj.box [vI a.at_, vI a.col, vI a.note, vI a.line, vI a.h.a, vI a.h.b, vI a.h.c] :: DObj.box [vI b.at_, vI b.col, vI b.note, vI b.line, vI b.h.a, vI b.h.b, vI b.h.c] :: T)) H.length (H.length + 1) _ _ a.h b.h (by simp; rfl) (by simp; rfl) rfl rfl rfl rfl rfl rfl
  have o := fun H => cmpOr_ev [cmp1 a.at_ b.at_, cmp1 a.col b.col, cmp1 a.note b.note, cmp1 a.line b.line, lexC [a.h.a, a.h.b, a.h.c] [b.h.a, b.h.b, b.h.c]] H (by simp)
  rw [or_lex] at o
  simp only [sli, List.map_cons, List.map_nil, encI] at o
  have s0 := s []
  simp [St.enter, enumFrom, subs, setSubs, c, s0, slcaV, o]
theorem rstCmp_ev (a b : Stt) (H : Heap) : clD EE (.p (.fn 18)) [vStt a, vStt b] H = some (vI (cmpS a b), none) := by
  rw [clD_body _ _ _ _ _ _ (noP _) fn18]
  have w : ∀ k : Nat, k < 7 → IntKind.i64.wrap ((k : Int) + 1) = ((k + 1 : Nat) : Int) := fun k hk => w64 (by omega) (by omega)
  have key : evD EE lp18_0 ⟨[(5, .lptr 5 0), (6, .lptr 6 0), (7, vI 0)], [(5, (flds a).map vI), (6, (flds b).map vI)], H, H.length, []⟩ =
      some (rng (fun (_ : Unit) (_ : Nat) (p : Int × Int) => if cmp1 p.1 p.2 = 0 then .inl () else .inr (.ret, ⟨[(4, vI (cmp1 p.1 p.2))], [], H, H.length, []⟩)) (fun _ => (.exit 0, ⟨[(5, .lptr 5 0), (6, .lptr 6 0), (7, vI 7), (45, vB false)], [(5, (flds a).map vI), (6, (flds b).map vI)], H, H.length, []⟩)) () 0 ((flds a).zip (flds b))) := by
    unfold lp18_0
    refine evD_rng ((flds a).zip (flds b)) (fun (_ : Unit) i => ⟨[(5, .lptr 5 0), (6, .lptr 6 0), (7, vI i)], [(5, (flds a).map vI), (6, (flds b).map vI)], H, H.length, []⟩) (fun _ _ => True) _ _ (fun _ _ => rfl) ?_ ?_ () 0 trivial (Nat.zero_le _)
    · rintro _ i ⟨x, y⟩ - hx
      have hlt : i < 7 := by have := (List.getElem?_eq_some_iff.1 hx).1; simpa [flds] using this
      have wi := w i hlt
      have ex : subs ((flds a).map vI) i 1 = some [vI x] ∧ subs ((flds b).map vI) i 1 = some [vI y] := by
        have e : i = 0 ∨ i = 1 ∨ i = 2 ∨ i = 3 ∨ i = 4 ∨ i = 5 ∨ i = 6 := by omega
        rcases e with rfl | rfl | rfl | rfl | rfl | rfl | rfl <;> simp [flds] at hx <;> obtain ⟨rfl, rfl⟩ := hx <;> exact ⟨rfl, rfl⟩
      obtain ⟨e1, e2⟩ := ex
      have ha : ¬ (flds a).map vI = [] := by simp [flds]
      have hb : ¬ (flds b).map vI = [] := by simp [flds]
      generalize (flds a).map vI = A at *
      generalize (flds b).map vI = B at *
      have hi : (i : Int) < 7 := by omega
      unfold cmp1
      by_cases h1 : x < y
      · simp [hi, ixaV, shiftV, e1, e2, ha, hb, h1]
      · by_cases h2 : y < x
        · simp [hi, ixaV, shiftV, e1, e2, ha, hb, h1, h2]
        · simp [hi, ixaV, shiftV, e1, e2, ha, hb, h1, h2, wi]
    · rintro _ -
      simp [flds]
  have hr : ∀ (xs ys : List Int) (fin : Ex × St) (i : Nat), xs.length = ys.length → rng (fun (_ : Unit) (_ : Nat) (p : Int × Int) => if cmp1 p.1 p.2 = 0 then .inl () else .inr (.ret, (⟨[(4, vI (cmp1 p.1 p.2))], [], H, H.length, []⟩ : St))) (fun _ => fin) () i (xs.zip ys) = if lexC xs ys = 0 then fin else (.ret, ⟨[(4, vI (lexC xs ys))], [], H, H.length, []⟩) := by
    intro xs
    induction xs with
    | nil => intro ys fin i _; simp [rng, lexC]
    | cons x r ih =>
      intro ys fin i hl
      cases ys with
      | nil => simp at hl
      | cons y t =>
        simp only [List.zip_cons_cons, rng, lexC]
        by_cases h : cmp1 x y = 0
        · simp only [if_pos h]; exact ih t fin (i + 1) (by simpa using hl)
        · simp only [if_neg h]
  rw [hr (flds a) (flds b) _ _ rfl] at key
  change _ = some (if cmpS a b = 0 then _ else (Ex.ret, (⟨[(4, vI (cmpS a b))], [], H, H.length, []⟩ : St))) at key
  simp only [flds, List.map_cons, List.map_nil] at key
  by_cases h : cmpS a b = 0
  · rw [if_pos h] at key
    simp [St.enter, enumFrom, subs, setSubs, ixaV, shiftV, key, h]
  · rw [if_neg h] at key
    simp [St.enter, enumFrom, subs, setSubs, ixaV, shiftV, key]
theorem lexC_bd : ∀ a b : List Int, -1 ≤ lexC a b ∧ lexC a b ≤ 1
  | [], [] => by simp [lexC]
  | [], _ :: _ => by simp [lexC]
  | _ :: _, [] => by simp [lexC]
  | x :: a, y :: b => by
    have := lexC_bd a b
    simp only [lexC]
    unfold cmp1
    (repeat' split) <;> omega
theorem cmpS_bd (a b : Stt) : -1 ≤ cmpS a b ∧ cmpS a b ≤ 1 := lexC_bd _ _
theorem st_cells (a b : Stt) : eqCells [true, true, true, true, true, true, true] [vI a.at_, vI a.col, vI a.note, vI a.line, vI a.h.a, vI a.h.b, vI a.h.c] [vI b.at_, vI b.col, vI b.note, vI b.line, vI b.h.a, vI b.h.b, vI b.h.c] = some (decide (a = b)) := by
  obtain ⟨a1, a2, a3, a4, a5, a6, a7⟩ := a
  obtain ⟨b1, b2, b3, b4, b5, b6, b7⟩ := b
  simp [Bool.decide_and]
theorem stateOrder_ev (a b c : Stt) : clD EE (.p (.fn 4)) [vStt a, vStt b, vStt c] [] = some (.p (.bool true), none) := by
  rw [clD_body _ _ _ _ _ _ (noP _) fn4]
  have p1 := fun a b H => stCmp_ev a b H
  have p2 := fun a b H => rstCmp_ev a b H
  have e1 : cmpS b a = - cmpS a b := cmpS_neg b a
  have e2 : decide (cmpS a b = 0) = decide (a = b) := by simp only [cmpS_zero]
  have e3 := cmpS_trans a b c
  have bd := cmpS_bd a b
  have w : IntKind.i64.wrap (cmpS a b) = cmpS a b := w64 (by omega) (by omega)
  have hs := st_cells a b
  have aw := fun H => say12_ev H
  by_cases q1 : 0 < cmpS a b
  · simp [St.enter, enumFrom, subs, setSubs, p1, p2, e1, w, hs, e2, aw, q1]
  · by_cases q2 : 0 < cmpS b c
    · simp [St.enter, enumFrom, subs, setSubs, p1, p2, e1, w, hs, e2, aw, q1, q2]
    · have q3 := e3 (by omega) (by omega)
      simp [St.enter, enumFrom, subs, setSubs, p1, p2, e1, w, hs, e2, aw, q1, q2, q3]
end Go.EnvOf

/- The layer split: what follows pieces of notes, how high they are, how many lines they have. -/
namespace Go.EnvOf
open Go Go.Eng
set_option maxRecDepth 100000

structure Piece where
  n : Int
  frm : Int
  to : Int
  deriving Inhabited, DecidableEq
def encPiece (x : Piece) : List PV := [.int .i64 x.n, .int .i64 x.frm, .int .i64 x.to]
@[simp] theorem encPiece_len (x : Piece) : (encPiece x).length = 3 := rfl
/-! ### More than is gone through -/
/-! ### What follows -/
/-! ### How high -/
/-! ### How many lines -/
/-! ### The same pieces -/
end Go.EnvOf
