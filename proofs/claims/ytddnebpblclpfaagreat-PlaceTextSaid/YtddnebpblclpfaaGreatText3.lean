/- The program's functions and the document's, evaluated. -/
import Derived.KernelRfl
import Derived.Test.YtddnebpblclpfaaGreatText2
set_option linter.unusedSimpArgs false
set_option linter.unusedVariables false
/- Notes: how high lines are. -/
namespace Go.EnvOf
open Go Go.Eng

def note (lines pens : List Int) : V := .agg [sli lines, sli pens]
def far : Int := 1125899906842624
def hstep (s x : Int) : Int := min (s + min (max x 0) far) far
/-- The lines of so many that lie between. -/
def part (L : List Int) (frm to_ i : Int) : List Int := (L.take (min to_ i).toNat).drop (max frm 0).toNat
end Go.EnvOf

/- Notes: where they may split, and end. -/
namespace Go.EnvOf
open Go Go.Eng

end Go.EnvOf

/- Notes: all places where they may end. -/
namespace Go.EnvOf
open Go Go.Eng

end Go.EnvOf

/- Notes: where they may end, by the document; the same numbers. -/
namespace Go.EnvOf
open Go Go.Eng

end Go.EnvOf

/- Notes: first stop, whether a note may be; the law NoteTells. -/
namespace Go.EnvOf
open Go Go.Eng

/-- Is something wrong with one of them? -/
def bad (lo hi : Int) (l : List Int) : Bool := l.any fun x => decide (x < lo) || decide (hi < x)

end Go.EnvOf

/- Notes: whether a note may be, by the document. -/
namespace Go.EnvOf
open Go Go.Eng

end Go.EnvOf

/- Notes: the same notes. -/
namespace Go.EnvOf
open Go Go.Eng

end Go.EnvOf

/- Calls that may change memory; loops whose state is related to what has come. -/
namespace Go.EnvOf
open Go Go.Eng
set_option maxRecDepth 100000
def hpOf (H : Heap) : Option (Heap × List Nat) → Heap
  | none => H
  | some x => x.1
def dsOf : Option (Heap × List Nat) → List Nat
  | none => []
  | some x => x.2
theorem callR_opt (env : List (Nat × V)) (loc : List (Nat × List V)) (hp : Heap) (base : Nat) (dirty : List Nat) (d : Option Nat) (v : V) (r : Option (Heap × List Nat)) (hv : v.notL = true) : callR ⟨env, loc, hp, base, dirty⟩ false d (some (v, r)) = some (St.put ⟨env, loc, hpOf hp r, base, (dsOf r).foldr (addD base) dirty⟩ d v) := by
  cases r with
  | none => simp only [callR, hpOf, dsOf, hv]; simp
  | some x => obtain ⟨H, ds⟩ := x; simp only [callR, hpOf, dsOf, hv]; simp
theorem addD_mem {B i x : Nat} {d : List Nat} (h : x ∈ d) : x ∈ addD B i d := by
  unfold addD
  split
  · exact List.mem_cons_of_mem _ h
  · exact h
theorem foldD_mem {B x : Nat} : ∀ {ds d : List Nat}, x ∈ d → x ∈ ds.foldr (addD B) d
  | [], _, h => h
  | _ :: ds, _, h => addD_mem (foldD_mem (ds := ds) h)
theorem addD_self {B x : Nat} {d : List Nat} (h : x < B) : x ∈ addD B x d := by
  unfold addD
  rw [if_pos h]
  exact List.mem_cons_self
theorem foldD_in {B x : Nat} : ∀ {ds d : List Nat}, x ∈ ds → x < B → x ∈ ds.foldr (addD B) d
  | y :: ds, d, h, hx => by
    rcases List.mem_cons.1 h with rfl | h
    · exact addD_self hx
    · exact addD_mem (foldD_in h hx)
theorem foldD_sub {B x : Nat} : ∀ {ds d : List Nat}, x ∈ ds.foldr (addD B) d → x ∈ ds ∨ x ∈ d
  | [], _, h => .inr h
  | y :: ds, d, h => by
    simp only [List.foldr_cons, addD] at h
    split at h
    · rcases List.mem_cons.1 h with rfl | h
      · exact .inl List.mem_cons_self
      · rcases foldD_sub h with h | h
        · exact .inl (List.mem_cons_of_mem _ h)
        · exact .inr h
    · rcases foldD_sub h with h | h
      · exact .inl (List.mem_cons_of_mem _ h)
      · exact .inr h
theorem evD_foldR {α : Type} {E : Env} {ks kl : List Nat} {c : IC} (L : List α) (R : Nat → St → Prop) (F : Ex × St → Prop)
    (hk : ∀ i S, R i S → S.keep ks kl = S)
    (hstep : ∀ i x S, R i S → L[i]? = some x → ∃ S', evD E c S = some (.normal, S') ∧ R (i + 1) S')
    (hend : ∀ S, R L.length S → ∃ r, evD E c S = some r ∧ r.1 ≠ .normal ∧ F r) :
    ∀ (n i : Nat) S, L.length - i = n → R i S → i ≤ L.length → ∃ r, evD E (.loop ks kl c) S = some r ∧ F r
  | 0, i, S, hn, hR, hi => by
    have e : i = L.length := by omega
    subst e
    obtain ⟨⟨x, S'⟩, h1, h2, h3⟩ := hend S hR
    refine ⟨(x, S'), ?_, h3⟩
    rw [evD_loop, hk _ _ hR, h1]
    cases x with
    | normal => exact absurd rfl h2
    | _ => rfl
  | n + 1, i, S, hn, hR, hi => by
    have hlt : i < L.length := by omega
    obtain ⟨S', h1, h2⟩ := hstep i _ S hR (List.getElem?_eq_getElem hlt)
    rw [evD_loop, hk _ _ hR, h1, seqK_normal]
    exact evD_foldR L R F hk hstep hend n (i + 1) S' (by omega) h2 hlt
theorem rd_of {α : Type} [Inhabited α] {l : List α} {i : Nat} {x : α} (h : l[i]? = some x) : rd l i = x := by
  unfold rd
  simp [List.getD, h]
end Go.EnvOf

/- What stands in a column: a pen that sets things (the plain law). -/
namespace Go.EnvOf
open Go Go.Eng
set_option maxRecDepth 100000
structure Put where
  k : Int
  n : Int
  l : Int
  y : Int
  h : Int
  deriving Inhabited, DecidableEq
def encPut (x : Put) : List PV := [.int .i64 x.k, .int .i64 x.n, .int .i64 x.l, .int .i64 x.y, .int .i64 x.h]
@[simp] theorem encPut_len (x : Put) : (encPut x).length = 5 := rfl
abbrev vPuts (l : List Put) : V := .p (.sl (l.map encPut))
structure Pn where
  y : Int
  ps : List Put
def addY (y h : Int) : Int := IntKind.i64.wrap (y + h)
def movP (s : Pn) (h : Int) : Pn := ⟨addY s.y h, s.ps⟩
def putP (s : Pn) (k n l h : Int) : Pn := ⟨addY s.y h, s.ps ++ [⟨k, n, l, s.y, h⟩]⟩
def txS (st : Pn × List Int) (i : Nat) (x : Item) : Pn × List Int :=
  if x.k = 1 then (putP st.1 1 i 0 x.h, st.2) else if x.k = 2 then (movP st.1 (st.2.headD x.h), st.2.tail) else st
def txL (l : List Item) (to : Int) : List Item := l.take (max to 0).toNat
def textP (l : List Item) (frm to : Int) (s : Pn) (sz : List Int) : Pn := (fold txS (s, sz) (max frm 0).toNat ((txL l to).drop (max frm 0).toNat)).1
def footP (ps : List Put) : Int := ps.foldl (fun y p => max y (addY p.y p.h)) 0
/-- As the document goes through it. -/
def txR (frm to : Int) (sz : List Int) (st : Pn × Nat) (i : Nat) (x : Item) : Pn × Nat :=
  if frm ≤ i ∧ (i : Int) < to then
    if x.k = 1 then (putP st.1 1 i 0 x.h, st.2) else if x.k = 2 then (movP st.1 (if st.2 < sz.length then rd sz st.2 else x.h), st.2 + 1) else st
  else st
def txW (frm to : Int) (st : Pn × List Int) (i : Nat) (x : Item) : Pn × List Int := if frm ≤ i ∧ (i : Int) < to then txS st i x else st
theorem txR_W (frm to : Int) (sz : List Int) : ∀ (l : List Item) (i : Nat) (s : Pn) (n : Nat), (fold (txR frm to sz) (s, n) i l).1 = (fold (txW frm to) (s, sz.drop n) i l).1
  | [], _, _, _ => rfl
  | x :: r, i, s, n => by
    simp only [fold, txR, txW, txS]
    by_cases h : frm ≤ i ∧ (i : Int) < to
    · by_cases h1 : x.k = 1
      · simp only [if_pos h, if_pos h1]; exact txR_W frm to sz r (i + 1) _ n
      · by_cases h2 : x.k = 2
        · simp only [if_pos h, if_neg h1, if_pos h2]
          rw [txR_W frm to sz r (i + 1) _ (n + 1)]
          by_cases c : n < sz.length
          · have e : sz.drop n = rd sz n :: sz.drop (n + 1) := by rw [List.drop_eq_getElem_cons c, rd_of (List.getElem?_eq_getElem c)]
            rw [if_pos c, e]; rfl
          · rw [if_neg c, List.drop_eq_nil_of_le (show sz.length ≤ n by omega), List.drop_eq_nil_of_le (show sz.length ≤ n + 1 by omega)]; rfl
        · simp only [if_pos h, if_neg h1, if_neg h2]; exact txR_W frm to sz r (i + 1) s n
    · simp only [if_neg h]; exact txR_W frm to sz r (i + 1) s n
theorem txW_S (frm to : Int) : ∀ (l : List Item) (i : Nat) (st : Pn × List Int), fold (txW frm to) st i l = fold txS st (max i (max frm 0).toNat) ((l.take ((max to 0).toNat - i)).drop ((max frm 0).toNat - i))
  | [], _, _ => by simp [fold]
  | x :: r, i, st => by
    simp only [fold, txW]
    by_cases ht : (i : Int) < to
    · have e : (max to 0).toNat - i = ((max to 0).toNat - (i + 1)) + 1 := by omega
      rw [e, List.take_succ_cons]
      by_cases hf : frm ≤ i
      · rw [if_pos ⟨hf, ht⟩, txW_S frm to r (i + 1)]
        have e1 : (max frm 0).toNat - i = 0 := by omega
        have e2 : (max frm 0).toNat - (i + 1) = 0 := by omega
        have e3 : max i (max frm 0).toNat = i := by omega
        have e4 : max (i + 1) (max frm 0).toNat = i + 1 := by omega
        rw [e1, e2, e3, e4]; simp only [List.drop_zero, fold]
      · rw [if_neg (fun h => hf h.1), txW_S frm to r (i + 1)]
        have e1 : (max frm 0).toNat - i = ((max frm 0).toNat - (i + 1)) + 1 := by omega
        have e3 : max i (max frm 0).toNat = (max frm 0).toNat := by omega
        have e4 : max (i + 1) (max frm 0).toNat = (max frm 0).toNat := by omega
        rw [e1, e3, e4, List.drop_succ_cons]
    · rw [if_neg (fun h => ht h.2), txW_S frm to r (i + 1)]
      have e1 : (max to 0).toNat - i = 0 := by omega
      have e2 : (max to 0).toNat - (i + 1) = 0 := by omega
      rw [e1, e2]; simp [fold]
theorem txR_text (l : List Item) (frm to : Int) (s : Pn) (sz : List Int) : (fold (txR frm to sz) (s, 0) 0 l).1 = textP l frm to s sz := by
  rw [txR_W, txW_S, List.drop_zero]
  unfold textP txL
  simp
end Go.EnvOf

/- What stands in a column: the pen, text, the lowest foot; as the program and the document go through it. -/
namespace Go.EnvOf
open Go Go.Eng
set_option maxRecDepth 100000
/-- At p lies the pen, and what it has set up to now. -/
def Pen (H : Heap) (p : Nat) (s : Pn) : Prop :=
  p < H.length ∧ ∃ o, Eng.boxAt H p = some [vI s.y, o] ∧ (o = .nils ∧ s.ps = [] ∨ ∃ id, id < H.length ∧ p < id ∧ o = .row id s.ps.length 0 s.ps.length ∧ Eng.rowAt H id = some (5, upV (s.ps.map encPut)) ∧ s.ps ≠ [])
/-- What a call does that writes with the pen alone. -/
def penR (H : Heap) (p : Nat) (r : Option (Heap × List Nat)) (s : Pn) : Prop := Pen (hpOf H r) p s ∧ (∀ q ∈ dsOf r, p ≤ q)
theorem pMove_ev (p : Nat) (s : Pn) (k : Int) (H : Heap) (h : Pen H p s) :
    ∃ r, clD EE (.p (.fn 206)) [.ptr p 0, vI k] H = some (.tup [], r) ∧ penR H p r (movP s k) ∧ p ∈ dsOf r := by
  obtain ⟨hlt, o, hb, ho⟩ := h
  refine ⟨some (H.set p (DObj.box [vI (addY s.y k), o]), [p]), ?_, ⟨⟨by simpa [hpOf] using hlt, o, ?_, ?_⟩, by simp [dsOf]⟩, by simp [dsOf]⟩
  · rw [clD_body _ _ _ _ _ _ (noP _) fn206]
    simp [St.enter, enumFrom, hb, subs, setSubs, hlt, addY]
  · simp only [hpOf, movP]; exact boxAt_set _ _ _ hlt
  · rcases ho with ho | ⟨id, hid, hpi, rfl, hr, hw⟩
    · exact .inl ho
    · refine .inr ⟨id, by simpa [hpOf] using hid, hpi, rfl, ?_, hw⟩
      simp only [hpOf]
      rw [rowAt_set_ne _ _ _ _ (by omega)]; exact hr
theorem pSet_ev (p : Nat) (s : Pn) (k n l h : Int) (H : Heap) (hp : Pen H p s) (hn : s.ps.length ≤ 1000000000) :
    ∃ r, clD EE (.p (.fn 207)) [.ptr p 0, vI k, vI n, vI l, vI h] H = some (.tup [], r) ∧ penR H p r (putP s k n l h) ∧ p ∈ dsOf r := by
  obtain ⟨hlt, o, hb, ho⟩ := hp
  have hm : s.ps.length + 1 < most := by unfold most; omega
  rcases ho with ⟨rfl, hs⟩ | ⟨id, hid, hpi, rfl, hr, hw⟩
  · have hP : Pen ((H ++ [DObj.row 5 (upV [encPut ⟨k, n, l, s.y, h⟩])]).set p (DObj.box [vI s.y, V.row H.length 1 0 1])) p ⟨s.y, [⟨k, n, l, s.y, h⟩]⟩ := by
      refine ⟨by simp; omega, _, boxAt_set _ _ _ (by simp; omega), .inr ⟨H.length, by simp, hlt, rfl, ?_, by simp⟩⟩
      rw [rowAt_set_ne _ _ _ _ (by omega)]
      simp [Eng.rowAt]
    obtain ⟨r, h1, ⟨h2, h3⟩, h4⟩ := pMove_ev p _ h _ hP
    refine ⟨some (hpOf ((H ++ [DObj.row 5 (upV [encPut ⟨k, n, l, s.y, h⟩])]).set p (DObj.box [vI s.y, V.row H.length 1 0 1])) r, (dsOf r).foldr (addD H.length) [p]), ?_, ⟨?_, ?_⟩, ?_⟩
    · rw [clD_body _ _ _ _ _ _ (noP _) fn207]
      have h1' : 1 < most := by decide
      have hb2 := fun T => (boxAt_app_lt T hlt).trans hb
      have ne : (dsOf r).foldr (addD H.length) [p] ≠ [] := fun e => by have := foldD_mem (B := H.length) (ds := dsOf r) (d := [p]) (x := p) (by simp); rw [e] at this; cases this
      simp only [encPut, List.set_append_left _ _ hlt] at h1
      simp [St.enter, enumFrom, hb, hb2, h1', subs, setSubs, hlt, encPut, h1, callR_opt, ne]
    · simp only [hpOf, putP, hs, List.nil_append]; exact h2
    · intro q hq
      simp only [dsOf] at hq
      rcases foldD_sub hq with hq | hq
      · exact h3 q hq
      · simp at hq; omega
    · simp only [dsOf]; exact foldD_mem (by simp)
  · have hne : id ≠ p := by omega
    have hP : Pen ((H.set id (DObj.row 5 (upV ((s.ps ++ [(⟨k, n, l, s.y, h⟩ : Put)]).map encPut)))).set p (DObj.box [vI s.y, V.row id (s.ps.length + 1) 0 (s.ps.length + 1)])) p ⟨s.y, s.ps ++ [⟨k, n, l, s.y, h⟩]⟩ := by
      refine ⟨by simp; omega, _, boxAt_set _ _ _ (by simp; omega), .inr ⟨id, by simpa using hid, hpi, by simp, ?_, by simp⟩⟩
      rw [rowAt_set_ne _ _ _ _ (by omega)]
      exact rowAt_set _ _ _ _ hid
    obtain ⟨r, h1, ⟨h2, h3⟩, h4⟩ := pMove_ev p _ h _ hP
    refine ⟨some (hpOf ((H.set id (DObj.row 5 (upV ((s.ps ++ [(⟨k, n, l, s.y, h⟩ : Put)]).map encPut)))).set p (DObj.box [vI s.y, V.row id (s.ps.length + 1) 0 (s.ps.length + 1)])) r, (dsOf r).foldr (addD H.length) [p, id]), ?_, ⟨?_, ?_⟩, ?_⟩
    · rw [clD_body _ _ _ _ _ _ (noP _) fn207]
      have hb2 : ∀ es, Eng.boxAt (H.set id (.row 5 es)) p = some [vI s.y, .row id s.ps.length 0 s.ps.length] := fun es => (boxAt_set_ne H id p _ hne).trans hb
      have ne : (dsOf r).foldr (addD H.length) [p, id] ≠ [] := fun e => by have := foldD_mem (B := H.length) (ds := dsOf r) (d := [p, id]) (x := p) (by simp); rw [e] at this; cases this
      simp only [List.map_append, List.map_cons, List.map_nil, encPut] at h1
      simp at h1
      simp [St.enter, enumFrom, hb, hb2, hr, hm, subs, setSubs, hlt, hid, encPut, h1, callR_opt, ne]
    · simpa [hpOf, putP, movP] using h2
    · intro q hq
      simp only [dsOf] at hq
      rcases foldD_sub hq with hq | hq
      · exact h3 q hq
      · simp at hq; omega
    · simp only [dsOf]; exact foldD_mem (by simp)
theorem slc_tl (H : Heap) (z : Int) (zs : List Int) : slcI H 1 (sli (z :: zs)) (some (.p (.int .i64 1))) none = some (sli zs) := by
  have hh : headOK 1 ((z :: zs).map encI) = true := rfl
  simp only [List.map_cons] at hh
  simp [slcI, slcV, hh]; omega
def pmvV (p : Nat) : V := .fn (.func 206) [.ptr p 0] []
@[simp] theorem pmv_stale (p k : Nat) : staleB (pmvV p) k = true := rfl
theorem pMv_clo (p : Nat) (k : Int) (H : Heap) : clD EE (pmvV p) [vI k] H = clD EE (.p (.fn 206)) [.ptr p 0, vI k] H := by
  unfold pmvV; rw [clD_clo]; rfl
def ptE (l : List Item) (to : Int) (p B : Nat) (H : Heap) (d : List Nat) (sz : List Int) (i : Nat) : St :=
  ⟨[(0, .ptr p 0), (1, vItems l), (3, vI to), (4, sli sz), (10, pmvV p), (11, vI i)], [], H, B, d⟩
def ptR (N : Nat) (l : List Item) (to : Int) (p B : Nat) (H0 : Heap) (i0 : Nat) (fin : Pn) (i : Nat) (S : St) : Prop :=
  ∃ H d st, S = ptE l to p B H d st.2 i ∧ Pen H p st.1 ∧ (d = [] → Pen H0 p st.1) ∧ (∀ q ∈ d, p ≤ q) ∧ i0 ≤ i ∧ st.1.ps.length ≤ i + N ∧ (fold txS st i ((txL l to).drop i)).1 = fin
def ptF (p B : Nat) (H0 : Heap) (fin : Pn) (r : Ex × St) : Prop := ∃ env H d, r = (.exit 0, ⟨env, [], H, B, d⟩) ∧ Pen H p fin ∧ (d = [] → Pen H0 p fin) ∧ (∀ q ∈ d, p ≤ q)
theorem txL_len (l : List Item) (to : Int) (i : Nat) : ((i : Int) < min to l.length) ↔ i < (txL l to).length := by
  unfold txL; rw [List.length_take]; omega
theorem pt_lp (N : Nat) (hN : N ≤ 100000000) (l : List Item) (hl : l.length ≤ 1000000) (to : Int) (p B : Nat) (hpB : p < B) (H0 : Heap) (i0 : Nat) (hi : i0 ≤ (txL l to).length) (fin : Pn) (S : St) (hS : ptR N l to p B H0 i0 fin i0 S) :
    ∃ r, evD EE lp125_0 S = some r ∧ ptF p B H0 fin r := by
  unfold lp125_0
  refine evD_foldR (txL l to) (ptR N l to p B H0 i0 fin) (ptF p B H0 fin) (by rintro i S ⟨H, d, st, rfl, -⟩; rfl) ?_ ?_ _ i0 S rfl hS hi
  · rintro i x S ⟨H, d, st, rfl, hP, hP0, hd, h0, hn, hf⟩ hx
    have hlt' := (List.getElem?_eq_some_iff.1 hx).1
    have hlt := (txL_len l to i).2 hlt'
    have hxl : l[i]? = some x := by unfold txL at hx; rw [List.getElem?_take] at hx; split at hx <;> simp_all
    have hil : i < l.length := (List.getElem?_eq_some_iff.1 hxl).1
    have w : IntKind.i64.wrap ((i : Int) + 1) = ((i + 1 : Nat) : Int) := w64 (by omega) (by omega)
    have hix := fun H k => ixs_nat H encItem (k := k) (s := 7) hxl rfl
    simp only [encItem] at hix
    have hdr : (txL l to).drop i = x :: (txL l to).drop (i + 1) := by rw [List.drop_eq_getElem_cons hlt']; congr 1; exact (List.getElem?_eq_some_iff.1 hx).2
    rw [hdr, fold] at hf
    by_cases k1 : x.k = 1
    · obtain ⟨r, h1, ⟨h2, h3⟩, h4⟩ := pSet_ev p st.1 1 i 0 x.h H hP (by omega)
      refine ⟨ptE l to p B (hpOf H r) ((dsOf r).foldr (addD B) d) st.2 (i + 1), ?_, hpOf H r, (dsOf r).foldr (addD B) d, (putP st.1 1 i 0 x.h, st.2), rfl, h2, ?_, ?_, by omega, by simp [putP]; omega, ?_⟩
      · simp [ptE, hlt, hix, subs, setSubs, k1, h1, callR_opt, w]
      · intro e; have := foldD_in (B := B) (d := d) h4 hpB; rw [e] at this; cases this
      · intro q hq; rcases foldD_sub hq with hq | hq
        · exact h3 q hq
        · exact hd q hq
      · simp only [txS, if_pos k1] at hf; exact hf
    · by_cases k2 : x.k = 2
      · obtain ⟨r, h1, ⟨h2, h3⟩, h4⟩ := pMove_ev p st.1 (st.2.headD x.h) H hP
        rw [← pMv_clo] at h1
        refine ⟨ptE l to p B (hpOf H r) ((dsOf r).foldr (addD B) d) st.2.tail (i + 1), ?_, hpOf H r, (dsOf r).foldr (addD B) d, (movP st.1 (st.2.headD x.h), st.2.tail), rfl, h2, ?_, ?_, by omega, by simp [movP]; omega, ?_⟩
        · obtain ⟨s, sz⟩ := st
          cases sz with
          | nil =>
            simp only [List.headD_nil] at h1
            simp [ptE, hlt, hix, subs, setSubs, k1, k2, h1, callR_opt, w]
          | cons z zs =>
            simp only [List.headD_cons] at h1
            have i0 : ∀ H, ixsI H (sli (z :: zs)) (.p (.int .i64 0)) 1 = some (.eptr [vI z] 0) := fun H => ixs_nat H encI (i := 0) rfl rfl
            have s0 := fun H => slc_tl H z zs
            simp [ptE, hlt, hix, subs, setSubs, k1, k2, h1, callR_opt, w, i0, s0]
        · intro e; have := foldD_in (B := B) (d := d) h4 hpB; rw [e] at this; cases this
        · intro q hq; rcases foldD_sub hq with hq | hq
          · exact h3 q hq
          · exact hd q hq
        · simp only [txS, if_neg k1, if_pos k2] at hf; exact hf
      · refine ⟨ptE l to p B H d st.2 (i + 1), ?_, H, d, st, rfl, hP, hP0, hd, by omega, by omega, ?_⟩
        · simp [ptE, hlt, hix, subs, setSubs, k1, k2, w]
        · simp only [txS, if_neg k1, if_neg k2] at hf; exact hf
  · rintro S ⟨H, d, st, rfl, hP, hP0, hd, h0, hn, hf⟩
    have hlt := mt (txL_len l to (txL l to).length).1 (by omega)
    rw [List.drop_length, fold] at hf
    subst hf
    refine ⟨(.exit 0, ⟨[(0, .ptr p 0), (1, vItems l), (3, vI to), (4, sli st.2), (10, pmvV p), (11, vI (txL l to).length), (25, vB false)], [], H, B, d⟩), ?_, by simp, _, H, d, rfl, hP, hP0, hd⟩
    simp [ptE, hlt]
theorem pText_ev (p : Nat) (s : Pn) (l : List Item) (hl : l.length ≤ 1000000) (frm to : Int) (sz : List Int) (H : Heap) (hP : Pen H p s) (hn : s.ps.length ≤ 100000000) :
    ∃ r, clD EE (.p (.fn 125)) [.ptr p 0, vItems l, vI frm, vI to, sli sz] H = some (.tup [], r) ∧ penR H p r (textP l frm to s sz) := by
  have hlt := hP.1
  have e0 : ((max frm 0).toNat : Int) = max frm 0 := by omega
  by_cases hi : (max frm 0).toNat ≤ (txL l to).length
  · obtain ⟨x, h1, env, H1, d, rfl, h2, h3, h4⟩ := pt_lp s.ps.length hn l hl to p H.length hlt H (max frm 0).toNat hi (textP l frm to s sz) _ ⟨H, [], (s, sz), rfl, hP, fun _ => hP, by simp, Nat.le_refl _, Nat.le_add_left _ _, rfl⟩
    refine ⟨if d = [] then none else some (H1, d), ?_, ?_, ?_⟩
    · rw [clD_body _ _ _ _ _ _ (noP _) fn125]
      simp only [ptE, e0, pmvV] at h1
      simp [St.enter, enumFrom, h1]
    · by_cases hd : d = []
      · rw [if_pos hd]; exact h3 hd
      · rw [if_neg hd]; exact h2
    · by_cases hd : d = []
      · rw [if_pos hd]; simp [dsOf]
      · rw [if_neg hd]; exact h4
  · have hlt' := mt (txL_len l to (max frm 0).toNat).1 (by omega)
    rw [e0] at hlt'
    refine ⟨none, ?_, ?_, by simp [dsOf]⟩
    · rw [clD_body _ _ _ _ _ _ (noP _) fn125]
      simp [St.enter, enumFrom, lp125_0, evD_loop, hlt']
    · have : textP l frm to s sz = s := by unfold textP; rw [List.drop_eq_nil_of_le (by omega), fold]
      rw [this]; exact hP
theorem plText_ev (l : List Item) (hl : l.length ≤ 1000000) (frm to y : Int) (sz : List Int) (H : Heap) :
    clD EE (.p (.fn 48)) [vItems l, vI frm, vI to, vI y, sli sz] H = some (.tup [vPuts (textP l frm to ⟨y, []⟩ sz).ps, vI (textP l frm to ⟨y, []⟩ sz).y], none) := by
  have hP : Pen (H ++ [.box [vI y, .nils]]) H.length ⟨y, []⟩ := ⟨by simp, .nils, by simp, .inl ⟨rfl, rfl⟩⟩
  obtain ⟨r, h1, ⟨⟨hlt, o, hb, ho⟩, h3⟩⟩ := pText_ev H.length ⟨y, []⟩ l hl frm to sz _ hP (by simp)
  generalize textP l frm to ⟨y, []⟩ sz = q at *
  have hd : (dsOf r).foldr (addD H.length) [] = [] := by
    have : ∀ ds : List Nat, (∀ q ∈ ds, H.length ≤ q) → ds.foldr (addD H.length) [] = [] := by
      intro ds
      induction ds with
      | nil => intro _; rfl
      | cons a t ih =>
        intro h
        have := h a (by simp)
        rw [List.foldr_cons, ih fun q hq => h q (by simp [hq])]
        unfold addD; rw [if_neg (by omega)]
    exact this _ h3
  rw [clD_body _ _ _ _ _ _ (noP _) fn48]
  rcases ho with ⟨rfl, hs⟩ | ⟨id, hid, hpi, rfl, hr, hne⟩
  · rw [hs]
    simp [St.enter, enumFrom, subs, setSubs, h1, callR_opt, hb, hd]
  · simp [St.enter, enumFrom, subs, setSubs, h1, callR_opt, hb, hd, hr, show H.length ≤ id by omega]
end Go.EnvOf

/- The layer queue: counts of classes. -/
namespace Go.EnvOf
open Go Go.Eng
set_option maxRecDepth 100000

structure C3 where
  a : Int
  b : Int
  c : Int
  deriving Inhabited, DecidableEq
/-! ### Through two counts, class by class -/
/-! ### Within -/
end Go.EnvOf
