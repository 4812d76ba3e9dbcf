/- Notes: the same by the document; all lines of notes. -/
import Derived.Test.YtfjgcfloallohaaNtSame
namespace Go.EnvOf
open Go Go.Eng

/-- A list of notes. -/
def encN (x : List Int × List Int) : List PV := [.sl (x.1.map encI), .sl (x.2.map encI)]
@[simp] theorem encN_len (x : List Int × List Int) : (encN x).length = 2 := rfl
def notes (l : List (List Int × List Int)) : V := .p (.sl (l.map encN))
theorem ixs_notes (H : Heap) (L : List (List Int × List Int)) (k : IntKind) (i : Int) (h0 : 0 ≤ i) (h1 : i < L.length) : ixsI H (.p (.sl (L.map encN))) (.p (.int k i)) 2 = some (.eptr [.p (.sl ((rd L i).1.map encI)), .p (.sl ((rd L i).2.map encI))] 0) :=
  ixs_map H encN L k i 2 (fun _ => rfl) h0 h1

def linesF (l : List (List Int × List Int)) : Int := l.foldr (fun x s => (x.1.length : Int) + s) 0

theorem drop_rd' {α : Type} [Inhabited α] (L : List α) (i : Int) (h0 : 0 ≤ i) (h1 : i < L.length) : L.drop i.toNat = rd L i :: L.drop (i + 1).toNat := by
  have e : (i + 1).toNat = i.toNat + 1 := by omega
  rw [e, List.drop_eq_getElem_cons (by omega)]
  congr 1
  unfold rd
  have : i.toNat < L.length := by omega
  simp [List.getD_eq_getElem?_getD, this]

theorem linesF_nonneg : ∀ l, 0 ≤ linesF l
  | [] => by simp [linesF]
  | x :: r => by have := linesF_nonneg r; simp only [linesF, List.foldr_cons] at this ⊢; omega

theorem lines_lp (l : List (List Int × List Int)) (H : Heap) (Bs : Nat) (hl : l.length ≤ 1000000) : ∀ (n : Nat) (i s : Int), ((l.length : Int) - i).toNat = n → 0 ≤ i → i ≤ l.length → 0 ≤ s → s + linesF (l.drop i.toNat) ≤ 9223372036854775807 →
    evD EE lp31_0 ⟨[(3, .p (.int .i64 s)), (6, notes l), (7, .p (.int .i64 l.length)), (8, .p (.int .i64 i))], [], H, Bs, []⟩ =
      some (.exit 0, ⟨[(3, .p (.int .i64 (s + linesF (l.drop i.toNat)))), (6, notes l), (7, .p (.int .i64 l.length)), (8, .p (.int .i64 l.length)), (9, .p (.bool false))], [], H, Bs, []⟩) := by
  intro n
  induction n with
  | zero =>
    intro i s hn h0 h1 h2 h3
    have e : i = l.length := by omega
    subst e
    unfold lp31_0
    rw [evD_loop]
    simp [notes, linesF]
  | succ n ih =>
    intro i s hn h0 h1 h2 h3
    have c : i < (l.length : Int) := by omega
    have w : IntKind.i64.wrap (i + 1) = i + 1 := wrap64_in _ (by omega) (by omega)
    have hd := drop_rd' l i h0 c
    have hs : linesF (l.drop i.toNat) = ((rd l i).1.length : Int) + linesF (l.drop (i + 1).toNat) := by rw [hd]; rfl
    have hnn := linesF_nonneg (l.drop (i + 1).toNat)
    have w2 : IntKind.i64.wrap (s + ((rd l i).1.length : Int)) = s + ((rd l i).1.length : Int) := wrap64_in _ (by omega) (by omega)
    have key := ih (i + 1) (s + ((rd l i).1.length : Int)) (by omega) (by omega) (by omega) (by omega) (by omega)
    have e2 : s + linesF (l.drop i.toNat) = s + ((rd l i).1.length : Int) + linesF (l.drop (i + 1).toNat) := by omega
    rw [e2]
    unfold lp31_0
    rw [evD_loop]
    simp (disch := omega) [notes, c, ixs_notes, subs, setSubs, w, w2] at key ⊢
    exact key

theorem lines_ev (l : List (List Int × List Int)) (H : Heap) (hl : l.length ≤ 1000000) (hs : linesF l ≤ 9223372036854775807) : clD EE (.p (.fn 31)) [notes l] H = some (.p (.int .i64 (linesF l)), none) := by
  rw [clD_body _ _ _ _ _ _ (noP _) fn31]
  have key := lines_lp l H H.length hl _ 0 0 rfl (by omega) (by omega) (by omega) (by simpa using hs)
  simp [notes] at key
  simp [notes, St.enter, enumFrom, key]
end Go.EnvOf
