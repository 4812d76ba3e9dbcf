/- The program's functions and the document's, evaluated. -/
import Derived.Test.YtddnebpblclpfaaGreatText6
import Derived.Test.YtddnebpblclpfaaGreatText4
import Derived.Test.YtddnebpblclpfaaGreatText2
import Derived.Test.YtddnebpblclpfaaGreatText3
set_option linter.unusedSimpArgs false
set_option linter.unusedVariables false
/- The law ValidLess, evaluated. -/
namespace Go.EnvOf
open Go Go.Eng
set_option maxRecDepth 100000

def cutV {α : Type} (enc : α → List PV) (l : List α) (p : Nat) : V := if p = 0 then .nils else .p (.sl ((l.take p).map enc))
section
variable {α : Type} (enc : α → List PV) (l : List α) (p : Nat)
@[simp] theorem oneB_cut : (cutV enc l p).oneB = true := by unfold cutV; split <;> rfl
@[simp] theorem cells_cut : (cutV enc l p).cells = [cutV enc l p] := by unfold cutV; split <;> rfl
@[simp] theorem notL_cut : (cutV enc l p).notL = true := by unfold cutV; split <;> rfl
@[simp] theorem normC_cut : normC (cutV enc l p) = .p (.sl ((l.take p).map enc)) := by
  unfold cutV; split
  · rename_i h0; subst h0; rfl
  · rfl
theorem slc_cut0 (s : Nat) (hs : ∀ x, (enc x).length = s) (H : Heap) (k : IntKind) (h : p ≤ l.length) : slcI H s (.p (.sl (l.map enc))) none (some (.p (.int k (p : Int)))) = some (.p (.sl ((l.take p).map enc))) := by
  have hh : headOK s (l.map enc) = true := by
    cases l with
    | nil => rfl
    | cons x r => simp [headOK, hs]
  have h2 : (p : Int) ≤ l.length := by omega
  simp [slcI, slcV, hh, h2]
end
end Go.EnvOf

/- The world of a job, as the program makes it. -/
namespace Go.EnvOf
open Go Go.Eng
set_option maxRecDepth 100000
abbrev textH (j : Job) : Heap := [DObj.box [vListW j.items, vSumsW j.items, vMapW j.items j.floats]]
def nwS (j : Job) (i : Nat) : St :=
  ⟨[(1, .lptr 1 0), (6, .lptr 35 0), (53, vI (j.notes.length + 1)), (54, vI i)], [(1, cJobW j), (35, .ptr 0 0 :: (cJobW j ++ [cloneV 1 ((List.range i).map fun k => lineN (j.notes.take k)), vI (allS j).a, vI (allS j).b, vI (allS j).c]))],
    textH j ++ rowsG 1 encI ((List.range i).map fun k => lineN (j.notes.take k)), 0, []⟩
def nwX (j : Job) : Ex × St :=
  (.exit 0, ⟨[(1, .lptr 1 0), (6, .lptr 35 0), (53, vI (j.notes.length + 1)), (54, vI (j.notes.length + 1)), (55, vB false)], [(1, cJobW j), (35, .ptr 0 0 :: (cJobW j ++ [cloneV 1 (preN j.notes), vI (allS j).a, vI (allS j).b, vI (allS j).c]))],
    textH j ++ rowsG 1 encI (preN j.notes), 0, []⟩)
theorem nw_lp (j : Job) (n2 : j.notes.length ≤ 1000000) (hn : ∀ n ∈ j.notes, n.lines.length ≤ 1000000) : evD EE lp13_0 (nwS j 0) = some (nwX j) := by
  unfold lp13_0
  refine Eq.trans (evD_fold (List.range (j.notes.length + 1)) (fun (_ : Unit) i => nwS j i) (fun _ _ => True) (fun _ _ _ => ()) (fun _ => nwX j) (fun _ _ => rfl) ?_ ?_ () 0 trivial (Nat.zero_le _)) rfl
  · rintro _ i x - hx
    refine ⟨?_, trivial⟩
    have hlt : i < j.notes.length + 1 := by have := (List.getElem?_eq_some_iff.1 hx).1; simpa using this
    have w : IntKind.i64.wrap ((i : Int) + 1) = ((i + 1 : Nat) : Int) := w64 (by omega) (by omega)
    have hl2 : (i : Int) < (j.notes.length : Int) + 1 := by omega
    have sc := fun H k => slc_cut0 encNote j.notes i 2 (fun _ => rfl) H k (by omega)
    have lb := lineN_le (j.notes.take i) (fun n h => hn n (List.mem_of_mem_take h))
    have ll : (j.notes.take i).length ≤ 1000000 := by rw [List.length_take]; omega
    have nl := fun H => noteLines_ev (j.notes.take i) H ll (by omega)
    have ha := fun env loc => app_acc env loc (textH j) 0 [] 1 encI ((List.range i).map fun k => lineN (j.notes.take k)) (lineN (j.notes.take i)) rfl (by simp; unfold most; omega) (Nat.zero_le _)
    have er : (List.range (i + 1)).map (fun k => lineN (j.notes.take k)) = (List.range i).map (fun k => lineN (j.notes.take k)) ++ [lineN (j.notes.take i)] := by simp [List.range_succ]
    unfold nwS
    rw [er]
    generalize (List.range i).map (fun k => lineN (j.notes.take k)) = M at *
    generalize lineN (j.notes.take i) = y at *
    simp only [textH, List.length_cons, List.length_nil, Nat.zero_add, encI] at ha
    simp only [vNotes, List.map_take] at nl sc
    simp only [textH, cJobW, cGeom, List.cons_append, List.nil_append, encI] at ha ⊢
    simp [-appV_mk, hl2, subs, setSubs, w, sc, nl, ha]
  · rintro _ -
    simp only [nwS, nwX, List.length_range, preN, cJobW, cGeom, List.cons_append, List.nil_append]
    simp
theorem stNew_z (j : Job) (ok : okJob j) (okS : okJob (snapG j)) (hp : ∀ n ∈ (snapG j).notes, n.lines.length ≤ 1000000 ∧ n.pens.length ≤ 1000000) :
    zR (clD EE (.p (.fn 13)) [vJob j] []) = some (if (checkF j).1 = 0 then .tup [vW (snapG j), vB true] else .tup [.p .nilp, vB false]) := by
  rw [clD_body _ _ _ _ _ _ (noP _) fn13]
  have hr := fun H => validRight_ev j ok (snap_floats ok.n3) H
  have hs := fun H => snap_ev j ok H
  have hc := fun H => copied_ev (snapG j) okS.n1 okS.n2 okS.n3 hp H
  by_cases h : (checkF j).1 = 0
  · rw [if_pos h]
    have r := (right_iff j).1 h
    have hs2 := sumsNew_z (snapG j).items (by rw [snap_ilen]; have := r.n1; omega) (snap_fair r)
    have hv := vlistNew_z (snapG j).items okS.n1
    have ha := anchNew_z (snapG j).items (snapG j).floats okS.n1
    have hal := fun H => ahead_ev (snapG j).items (snapG j).floats (snapG j).items.length H
    have e : aheadP (snapG j).floats ((snapG j).items.take (putN (snapG j).items (snapG j).items.length)) = allS (snapG j) := by
      rw [putN_of (Nat.le_refl _), List.take_length]; rfl
    simp only [e] at hal
    have k := nw_lp (snapG j) okS.n2 (fun n hn => (hp n hn).1)
    have w : IntKind.i64.wrap (((snapG j).notes.length : Int) + 1) = ((snapG j).notes.length : Int) + 1 := w64 (by have := okS.n2; omega) (by have := okS.n2; omega)
    simp only [h, decide_true] at hr
    have hne : preN (snapG j).notes ≠ [] := by simp [preN]
    have hlen : (preN (snapG j).notes).length = (snapG j).notes.length + 1 := by simp [preN]
    generalize snapG j = J at *
    have f1 := fun R T => frz_plain (H := R :: DObj.row 1 (upV ((preN J.notes).map encI)) :: T) (id := 1) (n := (preN J.notes).length) rfl (by simp)
    simp only [nwS, nwX, textH, cJobW, cGeom, List.cons_append, List.nil_append, cloneV, rowsG, if_neg hne, List.range_zero, List.map_nil, if_true] at k
    simp only [vJob, cGeom, List.cons_append, List.nil_append] at hr hs hc ⊢
    simp at k
    simp [St.enter, enumFrom, subs, setSubs, solN, sd, hr, hs, hc, hs2, hv, ha, hal, w, k, allO, f1, vW, vTextW]
  · rw [if_neg h]
    have hb : decide ((checkF j).1 = 0) = false := by simpa using h
    rw [hb] at hr
    simp only [vJob, cGeom, List.cons_append, List.nil_append] at hr ⊢
    simp [St.enter, enumFrom, subs, setSubs, hr, allO]
end Go.EnvOf

/- Worlds: whether a state may be, what it holds, what follows. -/
namespace Go.EnvOf
open Go Go.Eng
set_option maxRecDepth 100000
/-- What of a job has to hold that its world's methods are as they should be. -/
structure okW (j : Job) : Prop where
  n1 : j.items.length ≤ 1000000
  n2 : j.notes.length ≤ 1000000
  n3 : j.floats.length ≤ 100000
  lines : ∀ n ∈ j.notes, n.lines.length ≤ 1000000
  cols : I64 j.g.cols ∧ j.g.cols ≤ 1000
  refs : begunP j.items ≤ j.notes.length
theorem begunF_le {j : Job} (w : okW j) (n : Int) : begunF j n ≤ j.notes.length := by
  have h := w.refs
  unfold begunF begunP at *
  have := cnt_take_le 5 j.items (putN j.items n)
  omega
theorem begunF_ge (j : Job) (n : Int) : 0 ≤ begunF j n := (begunP_bd _).1
section
variable (j : Job) (w : okW j)
theorem plain_ev (H : Heap) : clD EE (.p (.fn 30)) [vW j] H = some (vJob j, none) := by
  rw [clD_body _ _ _ _ _ _ (noP _) fn30]
  simp only [vW, cJobW, cGeom, List.cons_append, List.nil_append]
  simp [St.enter, enumFrom, subs, setSubs]
include w in
theorem carries_ev (s : Stt) (H : Heap) : clD EE (.p (.fn 79)) [vW j, vStt s] H = some (vB (carriesF j s), none) := by
  rw [clD_body _ _ _ _ _ _ (noP _) fn79]
  have hb := fun H => begun_ev j.items j.floats s.at_ H
  have hle := begunF_le w s.at_
  have hge := begunF_ge j s.at_
  change ∀ H, clD EE _ _ H = some (vI (begunF j s.at_), none) at hb
  have w1 : IntKind.i64.wrap (begunF j s.at_ - 1) = begunF j s.at_ - 1 := w64 (by have := w.n2; omega) (by have := w.n2; omega)
  unfold carriesF
  generalize begunF j s.at_ = b at *
  simp only [vW, vTextW, cJobW, cGeom, List.cons_append, List.nil_append]
  by_cases h0 : s.line = 0
  · simp [St.enter, enumFrom, subs, setSubs, hb, h0]
  · by_cases h1 : s.note = b - 1
    · by_cases h2 : s.note < 0
      · simp [St.enter, enumFrom, subs, setSubs, hb, h0, w1, h1, show b - 1 < 0 by omega]
      · by_cases h3 : s.line < 1
        · simp [St.enter, enumFrom, subs, setSubs, hb, h0, w1, h1, show ¬ b - 1 < 0 by omega, h3]
        · have hx := rd_get j.notes s.note (by omega) (by omega)
          have hix := fun H k => ixs_int H encNote (k := k) (s := 2) (by omega) hx rfl
          have hl := w.lines _ (List.mem_of_getElem? hx)
          have hm := fun H => may_ev (rd j.notes s.note).lines (rd j.notes s.note).pens s.line H (by omega)
          rw [h1] at hix hm hl ⊢
          simp only [encNote] at hix
          simp only [note, sli] at hm
          by_cases h4 : s.line < ((rd j.notes (b - 1)).lines.length : Int)
          · simp [St.enter, enumFrom, subs, setSubs, hb, h0, w1, h1, show ¬ b - 1 < 0 by omega, h3, hix, h4, hm]
          · simp [St.enter, enumFrom, subs, setSubs, hb, h0, w1, h1, show ¬ b - 1 < 0 by omega, h3, hix, h4]
    · simp [St.enter, enumFrom, subs, setSubs, hb, h0, w1, h1]
include w in
theorem stRight_ev (s : Stt) (H : Heap) : clD EE (.p (.fn 19)) [vW j, vStt s] H = some (vB (rightS j s), none) := by
  rw [clD_body _ _ _ _ _ _ (noP _) fn19]
  have hl := fun H => listLen_ev j.items H
  have ht := fun H => trim_ev j.items s.at_ w.n1 H
  have hc := fun H => carries_ev j w s H
  have ha := fun H => ahead_ev j.items j.floats s.at_ H
  change ∀ H, clD EE _ _ H = some (vC (aheadF j s.at_), none) at ha
  have i1 := fun H => in_ev zeroC s.h H
  have i2 := fun H => in_ev s.h (aheadF j s.at_) H
  unfold rightS
  simp only [vW, vTextW, cJobW, cGeom, List.cons_append, List.nil_append, zeroC] at hc i1 ⊢
  by_cases h1 : s.at_ < 0
  · simp [St.enter, enumFrom, subs, setSubs, h1]
  · by_cases h2 : (j.items.length : Int) < s.at_
    · simp [St.enter, enumFrom, subs, setSubs, h1, hl, h2]
    · by_cases h3 : (trimF j.items s.at_ : Int) = s.at_
      · by_cases h4 : s.col < 0
        · simp [St.enter, enumFrom, subs, setSubs, h1, hl, h2, ht, h3, h4]
        · by_cases h5 : j.g.cols < s.col
          · simp [St.enter, enumFrom, subs, setSubs, h1, hl, h2, ht, h3, h4, h5]
          · cases c1 : carriesF j s with
            | false => simp [St.enter, enumFrom, subs, setSubs, h1, hl, h2, ht, h3, h4, h5, hc, c1]
            | true =>
              cases c2 : inC ⟨0, 0, 0⟩ s.h with
              | false => simp [St.enter, enumFrom, subs, setSubs, h1, hl, h2, ht, h3, h4, h5, hc, c1, i1, c2]
              | true => simp [St.enter, enumFrom, subs, setSubs, h1, hl, h2, ht, h3, h4, h5, hc, c1, i1, c2, ha, i2]
      · simp [St.enter, enumFrom, subs, setSubs, h1, hl, h2, ht, h3]
end
end Go.EnvOf

/- The layer queue: the counts up to given ones. -/
namespace Go.EnvOf
open Go Go.Eng
set_option maxRecDepth 100000
end Go.EnvOf

/- The layer queue: the counts up to given ones, as the reference lists them. -/
namespace Go.EnvOf
open Go Go.Eng
set_option maxRecDepth 100000

/-! ### Numbers from one to another; the counts in their order -/
/-! ### The reference -/
def encC (x : C3) : List PV := [.int .i64 x.a, .int .i64 x.b, .int .i64 x.c]
@[simp] theorem encC_len (x : C3) : (encC x).length = 3 := rfl
end Go.EnvOf

/- The layer queue: the counts up to given ones, one after the other. -/
namespace Go.EnvOf
open Go Go.Eng
set_option maxRecDepth 100000

/-! ### From counts on -/
/-! ### The largest place that still can grow -/
def place (m s : C3) : Int := if s.c < m.c then 2 else if s.b < m.b then 1 else if s.a < m.a then 0 else -1
/-! ### One after the other -/
def left (m s : C3) : Int := 1600 * (m.a - s.a) + 40 * (m.b - s.b) + (m.c - s.c)
end Go.EnvOf

/- The law of counts. -/
namespace Go.EnvOf
open Go Go.Eng
set_option maxRecDepth 100000

/-! ### The reference's ways -/
/-! ### The law -/
end Go.EnvOf

/- Worlds, as the document tells them. -/
namespace Go.EnvOf
open Go Go.Eng
set_option maxRecDepth 100000
/-! ### Anchors -/
/-! ### States -/
section
variable (j : Job) (w : okW j)
include w in
end
end Go.EnvOf

/- Worlds: where notes stand, what follows a column, the start, the end; nil worlds. -/
namespace Go.EnvOf
open Go Go.Eng
set_option maxRecDepth 100000
section
variable (j : Job) (w : okW j)
include w in
theorem stSpot_ev (s : Stt) (to : Int) (H : Heap) : clD EE (.p (.fn 31)) [vW j, vStt s, vI to] H = some (vSpot (spotS j s to), none) := by
  rw [clD_body _ _ _ _ _ _ (noP _) fn31]
  have hr := fun H => stRight_ev j w s H
  have b1 := fun H => begun_ev j.items j.floats to H
  have b2 := fun H => begun_ev j.items j.floats s.at_ H
  change ∀ H, clD EE _ _ H = some (vI (begunF j to), none) at b1
  change ∀ H, clD EE _ _ H = some (vI (begunF j s.at_), none) at b2
  unfold spotS
  cases c : rightS j s with
  | false =>
    rw [c] at hr
    simp [St.enter, enumFrom, subs, setSubs, hr]
  | true =>
    rw [c] at hr
    simp only [vW, vTextW, cJobW, cGeom, List.cons_append, List.nil_append] at hr ⊢
    simp [St.enter, enumFrom, subs, setSubs, hr, b1, b2]
include w in
theorem stHigh_ev (s : Stt) (H : Heap) : clD EE (.p (.fn 22)) [vW j, vStt s] H = some (vI (highS j s), none) := by
  rw [clD_body _ _ _ _ _ _ (noP _) fn22]
  have hr := fun H => stRight_ev j w s H
  unfold highS
  cases c : rightS j s with
  | false =>
    rw [c] at hr
    simp [St.enter, enumFrom, subs, setSubs, hr]
  | true =>
    rw [c] at hr
    simp only [vW, vTextW, cJobW, cGeom, List.cons_append, List.nil_append] at hr ⊢
    by_cases h : s.col < j.g.cols
    · simp [St.enter, enumFrom, subs, setSubs, hr, h]
    · simp [St.enter, enumFrom, subs, setSubs, hr, h]
include w in
theorem stWaits_ev (s : Stt) (H : Heap) : clD EE (.p (.fn 25)) [vW j, vStt s] H = some (vC (waitsS j s), none) := by
  rw [clD_body _ _ _ _ _ _ (noP _) fn25]
  have hr := fun H => stRight_ev j w s H
  have ha := fun H => ahead_ev j.items j.floats s.at_ H
  change ∀ H, clD EE _ _ H = some (vC (aheadF j s.at_), none) at ha
  have re := fun H => ready_ev s.h (aheadF j s.at_) H
  unfold waitsS
  cases c : rightS j s with
  | false =>
    rw [c] at hr
    simp [St.enter, enumFrom, subs, setSubs, hr, zeroC]
  | true =>
    rw [c] at hr
    simp only [vW, vTextW, cJobW, cGeom, List.cons_append, List.nil_append] at hr ⊢
    simp [St.enter, enumFrom, subs, setSubs, hr, ha, re]
include w in
include w in
include w in
theorem stNext_ev (s : Stt) (c : Colm) (c1 : c.notes.length ≤ 1000000) (c2 : c.top.length ≤ 1000000) (c3 : c.bot.length ≤ 1000000) (H : Heap) : clD EE (.p (.fn 15)) [vW j, vStt s, vColm c] H = some (vStt (nextS j s c), none) := by
  rw [clD_body _ _ _ _ _ _ (noP _) fn15]
  have hr := fun H => stRight_ev j w s H
  have hs := fun H => stSpot_ev j w s c.to H
  have ht := fun H => trim_ev j.items c.to w.n1 H
  have hn := fun H => splitNext_ev j.notes (spotS j s c.to) c.notes w.n2 c1 H
  have o1 := fun H => of_ev j.floats c.top H w.n3 c2
  have o2 := fun H => of_ev j.floats c.bot H w.n3 c3
  have a1 := fun x y H => qadd_ev x y H
  have k1 : IntKind.i64.wrap 1 = 1 := by decide
  have k2 : IntKind.i64.wrap 2 = 2 := by decide
  unfold nextS
  cases cr : rightS j s with
  | false =>
    rw [cr] at hr
    simp [St.enter, enumFrom, subs, setSubs, hr, zeroS]
  | true =>
    rw [cr] at hr
    have hcol : 0 ≤ s.col ∧ s.col ≤ j.g.cols := by
      unfold rightS at cr
      split at cr
      · cases cr
      · rename_i h; omega
    have hw := w.cols
    have w1 : IntKind.i64.wrap (s.col + 1) = s.col + 1 := w64 (by omega) (by omega)
    generalize spotS j s c.to = sp at *
    generalize nextF j.notes sp c.notes = nx at *
    simp only [vW, vTextW, cJobW, cGeom, List.cons_append, List.nil_append] at hr hs ⊢
    by_cases h1 : c.k = 1
    · simp [St.enter, enumFrom, subs, setSubs, hr, hs, ht, hn, w1, h1, lp15_0, evD_loop, ixsI, ixsV, k1, k2, o1, o2, a1]
    · simp [St.enter, enumFrom, subs, setSubs, hr, hs, ht, hn, w1, h1, lp15_0, evD_loop, ixsI, ixsV, k1, k2, o1, o2, a1]
end
end Go.EnvOf

/- Worlds by the document: where notes stand, what follows a column, whether there is one. -/
namespace Go.EnvOf
open Go Go.Eng
set_option maxRecDepth 100000
section
variable (j : Job) (w : okW j)
include w in
include w in
end
/-- The zero job. -/
abbrev zJobC : List V := [vI 0, vI 0, vI 0, vI 0, vI 0, vI 0, vI 0, vI 0, vI 0, vI 0, vI 0, vI 0, vI 0, vI 0, vI 0, vI 0, vI 0, vI 0, vB false, .p (.sl []), .p (.sl []), .p (.sl [])]
theorem rstNew_ev (j : Job) (ok : okJob j) (H : Heap) : clD EE (.p (.fn 14)) [vJob j] H = some (if (checkF j).1 = 0 then .agg (cJobW (snapG j) ++ [vB true]) else .agg (zJobC ++ [vB false]), none) := by
  rw [clD_body _ _ _ _ _ _ (noP _) fn14]
  have hc := fun H => rvalidCheck_ev j ok (snap_floats ok.n3) H
  have hs := fun H => rsnap_ev j ok H
  simp only [vJob, cGeom, List.cons_append, List.nil_append] at hc hs ⊢
  by_cases h : (checkF j).1 = 0
  · simp [St.enter, enumFrom, subs, setSubs, fldvV, hc, hs, h]
  · simp [St.enter, enumFrom, subs, setSubs, fldvV, hc, h]
end Go.EnvOf

/- Jobs whose lengths may be. -/
namespace Go.EnvOf
open Go Go.Eng

def fairN (x : Int) : Bool := decide (0 ≤ x) && decide (x ≤ 1073741823)
def lensOf (j : Job) : List Int := [j.g.grid, j.g.high, j.g.first, j.g.rule, j.g.sep] ++ j.items.map (·.h) ++ j.notes.flatMap (·.lines) ++ j.floats.map (·.h)
def fairF (j : Job) : Bool := !((lensOf j).any fun x => !fairN x)

end Go.EnvOf

/- The law GridStays, evaluated: what is snapped is on the grid, and stays. -/
namespace Go.EnvOf
open Go Go.Eng
set_option maxRecDepth 100000

/-! ### Numbers -/
/-! ### Jobs -/
theorem okItemG {x : Item} (s : Int) (h : okItem x) : okItem (itemG s x) := by
  have z : I64 0 := ⟨by omega, by omega⟩
  unfold itemG
  split
  · exact ⟨h.1, upG_i64 h.2.1, h.2.2⟩
  · split
    · exact ⟨h.1, nearG_i64 h.2.1, h.2.2.1, z, z, z, h.2.2.2.2.2.2⟩
    · exact h
theorem jobI_snap {j : Job} (h : jobI j) : jobI (snapG j) := by
  unfold snapG
  split
  · exact h
  · have hg := h.g
    simp only [okGeom] at hg
    refine ⟨⟨hg.1, hg.2.1, hg.2.2.1, downG_i64 hg.2.2.2.1, downG_i64 hg.2.2.2.2.1, hg.2.2.2.2.2.1, upG_i64 hg.2.2.2.2.2.2.1, upG_i64 hg.2.2.2.2.2.2.2.1, hg.2.2.2.2.2.2.2.2⟩, ?_, ?_, ?_⟩
    · intro x hx
      obtain ⟨y, hy, rfl⟩ := List.mem_map.1 hx
      exact okItemG _ (h.items y hy)
    · intro n hn x hx
      obtain ⟨m, hm, rfl⟩ := List.mem_map.1 hn
      obtain ⟨y, hy, rfl⟩ := List.mem_map.1 hx
      exact upG_i64 (h.notes m hm y hy)
    · intro x hx
      obtain ⟨y, hy, rfl⟩ := List.mem_map.1 hx
      exact ⟨(h.floats y hy).1, upG_i64 (h.floats y hy).2.1, (h.floats y hy).2.2⟩
section
variable {j : Job} (hf : fairF j = true)
include hf
end

end Go.EnvOf

/- The laws of states: what follows a column; the start. -/
namespace Go.EnvOf
open Go Go.Eng
set_option maxRecDepth 100000
theorem okW_of {j : Job} (r : Right j) (sm : small (snapG j)) : okW (snapG j) := by
  obtain ⟨f, hf, hk⟩ := snap_items j
  have hg := geom_grid r.g
  have hn := refF_all 5 j.notes.length j.items 0 0 (Nat.zero_le _) r.r5
  have h5 : cnt 5 (snapG j).items = cnt 5 j.items := by rw [hf]; exact cnt_map 5 f (fun x => (hk x).1) _
  refine ⟨by have := sm.items; omega, by have := sm.notes; omega, by have := sm.floats; omega, fun n hn => by have := sm.each n hn; omega, ?_, ?_⟩
  · rw [snap_cols]; exact ⟨⟨by omega, by omega⟩, by omega⟩
  · rw [snap_nlen]; unfold begunP; omega
end Go.EnvOf

/- States: which comes first, as the program and the document tell it. -/
namespace Go.EnvOf
open Go Go.Eng
set_option maxRecDepth 100000
end Go.EnvOf

/- Columns: their order, and which are the same. -/
namespace Go.EnvOf
open Go Go.Eng
set_option maxRecDepth 100000
/-! ### Too large -/
def lcE (c : Colm) (H : Heap) (i : Nat) : St := ⟨[(1, .lptr 1 0), (3, vI i)], [(1, [vI c.k, vI c.frm, vI c.to, vPieces c.notes, sli c.top, sli c.bot])], H, H.length, []⟩
def lcX (c : Colm) (H : Heap) (i : Nat) : Ex × St := (.exit 0, ⟨[(1, .lptr 1 0), (3, vI i), (12, vB false)], [(1, [vI c.k, vI c.frm, vI c.to, vPieces c.notes, sli c.top, sli c.bot])], H, H.length, []⟩)
def lcB (H : Heap) : Ex × St := (.ret, ⟨[(2, vB true)], [], H, H.length, []⟩)
theorem largeC_lp (c : Colm) (H : Heap) : evD EE lp39_0 (lcE c H 0) = some (if (c.notes.take 50).any badPiece = true then lcB H else lcX c H (min 50 c.notes.length)) := by
  unfold lp39_0
  refine Eq.trans (evD_rng (c.notes.take 50) (fun (_ : Unit) i => lcE c H i) (fun _ _ => True) (stepB badPiece (lcB H)) (fun _ => lcX c H (min 50 c.notes.length)) (fun _ _ => rfl) ?_ ?_ () 0 trivial (Nat.zero_le _)) (by rw [List.drop_zero, rng_any])
  · rintro _ i x - hx
    have hlt := (List.getElem?_eq_some_iff.1 hx).1
    rw [List.length_take] at hlt
    have hx' : c.notes[i]? = some x := by rw [List.getElem?_take] at hx; split at hx <;> simp_all
    have hl1 : i < c.notes.length := by omega
    have hl2 : (i : Int) < 50 := by omega
    have w1 : IntKind.i64.wrap ((i : Int) + 1) = ((i + 1 : Nat) : Int) := w64 (by omega) (by omega)
    have hix := fun H k => ixs_nat H encPiece (k := k) (s := 3) hx' rfl
    simp only [encPiece] at hix
    by_cases a : x.frm < -1073741824
    · simp [stepB, badPiece, lcE, lcB, hl1, hl2, hix, subs, a]
    · by_cases b : 1073741824 < x.frm
      · simp [stepB, badPiece, lcE, lcB, hl1, hl2, hix, subs, a, b]
      · by_cases d : x.to < -1073741824
        · simp [stepB, badPiece, lcE, lcB, hl1, hl2, hix, subs, a, b, d]
        · by_cases e : 1073741824 < x.to
          · simp [stepB, badPiece, lcE, lcB, hl1, hl2, hix, subs, a, b, d, e]
          · simp [stepB, badPiece, lcE, hl1, hl2, hix, subs, a, b, d, e, w1]
  · rintro _ -
    refine ⟨?_, by simp [lcX]⟩
    rw [List.length_take]
    by_cases h : c.notes.length ≤ 50
    · have e : min 50 c.notes.length = c.notes.length := by omega
      rw [e]; simp [lcE, lcX, subs]
    · have e : min 50 c.notes.length = 50 := by omega
      have h2 : (50 : Int) < c.notes.length := by omega
      rw [e]; simp [lcE, lcX, subs, h2]
theorem largeC_ev (c : Colm) (H : Heap) : clD EE (.p (.fn 39)) [vColm c] H = some (vB (badC c), none) := by
  rw [clD_body _ _ _ _ _ _ (noP _) fn39]
  have k := largeC_lp c H
  unfold badC
  simp only [lcE, lcX, lcB] at k
  cases b : (c.notes.take 50).any badPiece with
  | true => simp [b] at k; simp [St.enter, enumFrom, subs, setSubs, k]
  | false =>
    simp [b] at k
    by_cases d : 50 < (c.notes.length : Int)
    · simp [St.enter, enumFrom, subs, setSubs, k, d]
    · by_cases e : 50 < (c.top.length : Int) <;> simp [St.enter, enumFrom, subs, setSubs, k, d, e]
/-! ### The same columns -/
/-! ### Which comes first -/
end Go.EnvOf

/- Items: which may go at a break, which force one. -/
namespace Go.EnvOf
open Go Go.Eng
set_option maxRecDepth 100000
def looseX (x : Item) : Bool := decide (x.k = 2) || decide (x.k = 3)
def forcesX (x : Item) : Bool := decide (x.k = 3) && decide (x.n ≤ -10000)
theorem loose_ev (x : Item) (H : Heap) : clD EE (.p (.fn 235)) [vItem x] H = some (vB (looseX x), none) := by
  rw [clD_body _ _ _ _ _ _ (noP _) fn235]
  unfold looseX
  by_cases h : x.k = 2 <;> simp [St.enter, enumFrom, subs, setSubs, h]
theorem forces_ev (x : Item) (H : Heap) : clD EE (.p (.fn 195)) [vItem x] H = some (vB (forcesX x), none) := by
  rw [clD_body _ _ _ _ _ _ (noP _) fn195]
  unfold forcesX
  by_cases h : x.k = 3 <;> simp [St.enter, enumFrom, subs, setSubs, h]
end Go.EnvOf

/- Areas: what fits. -/
namespace Go.EnvOf
open Go Go.Eng
set_option maxRecDepth 100000
/-! ### Where may it go? -/
/-! ### How high are these? -/
abbrev fz : Int := 1125899906842624
def hz (n : Int) : Int := min (max n 0) fz
theorem hz_ev (n : Int) (H : Heap) : clD EE (.p (.fn 212)) [vI n] H = some (vI (hz n), none) := by
  rw [clD_body _ _ _ _ _ _ (noP _) fn212]
  simp [St.enter, enumFrom, hz]
theorem hz_in (n : Int) : 0 ≤ hz n ∧ hz n ≤ fz := by unfold hz fz; omega
def hiS (l : List Float) (sep : Int) (s : Int) (x : Int) : Int := match atF l x with | some f => hz (s + hz f.h + hz sep) | none => s
def highQ (l : List Float) (xs : List Int) (sep : Int) : Int := xs.foldl (hiS l sep) 0
def fhE (l : List Float) (xs : List Int) (sep : Int) (H : Heap) (s : Int) (i : Nat) : St :=
  ⟨[(0, vFloats l), (2, vI sep), (7, .p (.fn 212)), (8, vI s), (13, sli xs), (14, vI xs.length), (15, vI i)], [], H, H.length, []⟩
def fhX (l : List Float) (xs : List Int) (sep : Int) (H : Heap) (s : Int) : Ex × St :=
  (.exit 0, ⟨[(0, vFloats l), (2, vI sep), (7, .p (.fn 212)), (8, vI s), (13, sli xs), (14, vI xs.length), (15, vI xs.length), (16, vB false)], [], H, H.length, []⟩)
theorem foldG {σ α : Type} (f : σ → α → σ) : ∀ (l : List α) (s : σ) (i : Nat), fold (fun s _ x => f s x) s i l = l.foldl f s
  | [], _, _ => rfl
  | x :: r, s, i => by simp only [fold, List.foldl_cons, foldG f r]
theorem fh_lp (l : List Float) (xs : List Int) (sep : Int) (H : Heap) (hx : xs.length ≤ 1000000) : evD EE lp128_0 (fhE l xs sep H 0 0) = some (fhX l xs sep H (highQ l xs sep)) := by
  unfold lp128_0
  refine Eq.trans (evD_fold xs (fhE l xs sep H) (fun s _ => 0 ≤ s ∧ s ≤ fz) (fun s _ x => hiS l sep s x) (fhX l xs sep H) (fun _ _ => rfl) ?_ ?_ 0 0 (by simp) (Nat.zero_le _)) (by rw [List.drop_zero, foldG]; rfl)
  · intro s i x hi hp
    have hlt := (List.getElem?_eq_some_iff.1 hp).1
    have hix := fun H k => ixs_nat H encI (k := k) (s := 1) hp rfl
    have ha := fun H => at_ev l x H
    have w : IntKind.i64.wrap ((i : Int) + 1) = ((i + 1 : Nat) : Int) := w64 (by omega) (by omega)
    unfold hiS
    cases hat : atF l x with
    | none =>
      rw [hat] at ha
      refine ⟨?_, hi⟩
      simp [fhE, hlt, hix, encI, subs, setSubs, ha, w]
    | some f =>
      rw [hat] at ha
      simp only at ha ⊢
      refine ⟨?_, hz_in _⟩
      have h1 := hz_in f.h
      have h2 := hz_in sep
      simp only [fz] at h1 h2 hi
      have w1 : IntKind.i64.wrap (s + hz f.h) = s + hz f.h := w64 (by omega) (by omega)
      have w2 : IntKind.i64.wrap (s + hz f.h + hz sep) = s + hz f.h + hz sep := w64 (by omega) (by omega)
      simp [fhE, hlt, hix, encI, subs, setSubs, ha, w, hz_ev, w1, w2]
  · intro s hi
    refine ⟨?_, by simp [fhX]⟩
    simp [fhE, fhX]
theorem fhigh_ev (l : List Float) (xs : List Int) (sep : Int) (H : Heap) (hx : xs.length ≤ 1000000) : clD EE (.p (.fn 128)) [vFloats l, sli xs, vI sep] H = some (vI (highQ l xs sep), none) := by
  rw [clD_body _ _ _ _ _ _ (noP _) fn128]
  have k := fh_lp l xs sep H hx
  simp [fhE, fhX] at k
  simp [St.enter, enumFrom, k]

/-! ### Does it fit? -/
abbrev Pr : Type := List Int × List Int
def encP (p : Pr) : List PV := [.sl (p.1.map encI), .sl (p.2.map encI)]
@[simp] theorem encP_len (x : Pr) : (encP x).length = 2 := rfl
end Go.EnvOf

/- What is told of a column: its notes, its floats, its room, its text's setting. -/
namespace Go.EnvOf
open Go Go.Eng
set_option maxRecDepth 100000
/-! ### A world's parts -/
theorem wList_ev (j : Job) (H : Heap) : clD EE (.p (.fn 26)) [vW j] H = some (vListW j.items, none) := by
  rw [clD_body _ _ _ _ _ _ (noP _) fn26]
  have p : ∀ H, clD EE (.p (.fn 84)) [vW j] H = some (vTextW j, none) := by
    intro H
    rw [clD_body _ _ _ _ _ _ (noP _) fn84]
    simp [vW, St.enter, enumFrom, subs, setSubs]
  have q : ∀ H, clD EE (.p (.fn 85)) [vTextW j] H = some (vListW j.items, none) := by
    intro H
    rw [clD_body _ _ _ _ _ _ (noP _) fn85]
    simp [vTextW, St.enter, enumFrom, subs, setSubs]
  simp [St.enter, enumFrom, p, q]
theorem wSums_ev (j : Job) (H : Heap) : clD EE (.p (.fn 27)) [vW j] H = some (vSumsW j.items, none) := by
  rw [clD_body _ _ _ _ _ _ (noP _) fn27]
  have p : ∀ H, clD EE (.p (.fn 84)) [vW j] H = some (vTextW j, none) := by
    intro H
    rw [clD_body _ _ _ _ _ _ (noP _) fn84]
    simp [vW, St.enter, enumFrom, subs, setSubs]
  have q : ∀ H, clD EE (.p (.fn 86)) [vTextW j] H = some (vSumsW j.items, none) := by
    intro H
    rw [clD_body _ _ _ _ _ _ (noP _) fn86]
    simp [vTextW, St.enter, enumFrom, subs, setSubs]
  simp [St.enter, enumFrom, p, q]
/-! ### A piece's total -/
def sumT (l : List Item) (a b : Int) : Tot := if max a 0 < min b l.length then subT (totP (l.take (min b l.length).toNat)) (totP (l.take (max a 0).toNat)) else zeroT
theorem sumsLen_ev (l : List Item) (H : Heap) : clD EE (.p (.fn 257)) [vSumsW l] H = some (vI l.length, none) := by
  rw [clD_body _ _ _ _ _ _ (noP _) fn257]
  simp [vSumsW, St.enter, enumFrom, subs, setSubs]
theorem swithin_ev (l : List Item) (a b : Int) (H : Heap) : clD EE (.p (.fn 204)) [vSumsW l, vI a, vI b] H = some (.tup [vI (max a 0), vI (min b l.length), vB (decide (max a 0 < min b l.length))], none) := by
  rw [clD_body _ _ _ _ _ _ (noP _) fn204]
  have h := fun H => sumsLen_ev l H
  simp [St.enter, enumFrom, subs, setSubs, h]
theorem totSub_ev (a b : Tot) (ha : inT64 a) (hb : inT64 b) (hc : inT64 (subT a b)) (H : Heap) : clD EE (.p (.fn 205)) [vTot a, vTot b] H = some (.tup [vTot (subT a b), vB true], none) := by
  rw [clD_body _ _ _ _ _ _ (noP _) fn205]
  have one : ∀ (x y : Int) (H : Heap), I64 x → I64 y → I64 (x - y) → clD EE (.p (.fn 258)) [vI x, vI y] H = some (resT (some (x - y)), none) := by
    intro x y H hx hy hz
    rw [sub_ev x y H hx hy, subF_in hz]
  have h := fun H => both_ev 258 a b (subT a b) H (fun x y z H hm => by
    simp only [List.mem_cons, Prod.mk.injEq, List.not_mem_nil, or_false] at hm
    rcases hm with ⟨rfl, rfl, rfl⟩ | ⟨rfl, rfl, rfl⟩ | ⟨rfl, rfl, rfl⟩ | ⟨rfl, rfl, rfl⟩ | ⟨rfl, rfl, rfl⟩ | ⟨rfl, rfl, rfl⟩
    · exact one _ _ _ ha.nat hb.nat hc.nat
    · exact one _ _ _ ha.s0 hb.s0 hc.s0
    · exact one _ _ _ ha.s1 hb.s1 hc.s1
    · exact one _ _ _ ha.s2 hb.s2 hc.s2
    · exact one _ _ _ ha.s3 hb.s3 hc.s3
    · exact one _ _ _ ha.shr hb.shr hc.shr)
  generalize subT a b = c at *
  simp [St.enter, enumFrom, subs, setSubs, h]
theorem inT_sub {m k : Int} {a b : Tot} (ha : inT m a) (hb : inT k b) (hm : m ≤ 9223372036854775807) (hk : k ≤ 9223372036854775807) : inT64 (subT a b) := by
  obtain ⟨⟨a1, a2⟩, ⟨a3, a4⟩, ⟨a5, a6⟩, ⟨a7, a8⟩, ⟨a9, b1⟩, ⟨b2, b3⟩⟩ := ha
  obtain ⟨⟨c1, c2⟩, ⟨c3, c4⟩, ⟨c5, c6⟩, ⟨c7, c8⟩, ⟨c9, d1⟩, ⟨d2, d3⟩⟩ := hb
  constructor <;> constructor <;> simp only [subT] <;> omega
theorem totP_in' (l : List Item) (hl : l.length ≤ 1000000) (hf : ∀ x ∈ l, fairI x) (n : Nat) : inT 4294967296000000 (totP (l.take n)) := by
  have h := totP_in (l.take n) (fun x hx => hf x (List.mem_of_mem_take hx))
  have hn : (l.take n).length ≤ 1000000 := by rw [List.length_take]; omega
  have hm : 4294967296 * ((l.take n).length : Int) ≤ 4294967296000000 := by omega
  obtain ⟨⟨a1, a2⟩, ⟨a3, a4⟩, ⟨a5, a6⟩, ⟨a7, a8⟩, ⟨a9, b1⟩, ⟨b2, b3⟩⟩ := h
  constructor <;> constructor <;> omega
theorem sumsOf_ev (l : List Item) (hl : l.length ≤ 1000000) (hf : ∀ x ∈ l, fairI x) (a b : Int) (H : Heap) : clD EE (.p (.fn 123)) [vSumsW l, vI a, vI b] H = some (vTot (sumT l a b), none) := by
  rw [clD_body _ _ _ _ _ _ (noP _) fn123]
  have hw := fun H => swithin_ev l a b H
  unfold sumT
  by_cases c : max a 0 < min b l.length
  · have ha : (preL totP l (l.length + 1))[(max a 0).toNat]? = some (totP (l.take (max a 0).toNat)) := preL_get _ _ _ _ (by omega)
    have hb : (preL totP l (l.length + 1))[(min b l.length).toNat]? = some (totP (l.take (min b l.length).toNat)) := preL_get _ _ _ _ (by omega)
    have ia := fun H k => ixs_int H encTot (k := k) (s := 6) (i := max a 0) (by omega) ha rfl
    have ib := fun H k => ixs_int H encTot (k := k) (s := 6) (i := min b l.length) (by omega) hb rfl
    have i1 := totP_in' l hl hf (min b l.length).toNat
    have i2 := totP_in' l hl hf (max a 0).toNat
    have hs := fun H => totSub_ev _ _ (inT64_of i1 (by omega)) (inT64_of i2 (by omega)) (inT_sub i1 i2 (by omega) (by omega)) H
    rw [if_pos c]
    generalize totP (l.take (min b l.length).toNat) = t1 at *
    generalize totP (l.take (max a 0).toNat) = t2 at *
    generalize subT t1 t2 = t3 at *
    generalize max a 0 = a' at *
    generalize min b l.length = b' at *
    simp only [encTot] at ia ib
    simp only [vSumsW] at hw ⊢
    simp [St.enter, enumFrom, subs, setSubs, hw, c, ia, ib, hs]
  · rw [if_neg c]
    simp [St.enter, enumFrom, subs, setSubs, hw, c, zeroT]
end Go.EnvOf

/- How text is set in a room; a column's facts. -/
namespace Go.EnvOf
open Go Go.Eng
set_option maxRecDepth 100000
/-! ### A setting -/
structure Setg where
  how : Int
  ord : Int
  by_ : Int
  of_ : Int
  left : Int
  deriving Inhabited, DecidableEq
def zeroG : Setg := ⟨0, 0, 0, 0, 0⟩
abbrev vSet (s : Setg) : V := .agg [vI s.how, vI s.ord, vI s.by_, vI s.of_, vI s.left]
def fairL (n : Int) : Bool := decide (0 ≤ n) && decide (n ≤ 1125899906842624)
def fieldsT (t : Tot) : Bool := fairL t.s0 && fairL t.s1 && fairL t.s2 && fairL t.s3 && fairL t.nat && fairL t.shr
def rightG (t : Tot) (h : Int) : Bool := fieldsT t && decide (-1125899906842624 ≤ h) && decide (h ≤ 1125899906842624)
def ordT (t : Tot) : Int := if t.s3 ≠ 0 then 3 else if t.s2 ≠ 0 then 2 else if t.s1 ≠ 0 then 1 else 0
def strT (t : Tot) (o : Int) : Int := if o = 3 then t.s3 else if o = 2 then t.s2 else if o = 1 then t.s1 else t.s0
def gsetOf (t : Tot) (h : Int) (last : Bool) : Setg :=
  if rightG t h = true then
    if h - t.nat = 0 then zeroG
    else if 0 < h - t.nat ∧ 0 < strT t (ordT t) ∧ ¬ (last = true ∧ ordT t = 0) then ⟨1, ordT t, h - t.nat, strT t (ordT t), 0⟩
    else if 0 < h - t.nat then ⟨0, 0, 0, 0, h - t.nat⟩
    else if 0 ≤ t.shr + (h - t.nat) then ⟨2, 0, -(h - t.nat), t.shr, 0⟩
    else ⟨3, 0, t.shr, t.shr, t.shr + (h - t.nat)⟩
  else zeroG
theorem fairL_ev (n : Int) (H : Heap) : clD EE (.p (.fn 208)) [vI n] H = some (vB (fairL n), none) := by
  rw [clD_body _ _ _ _ _ _ (noP _) fn208]
  unfold fairL
  by_cases h : 0 ≤ n <;> simp [St.enter, enumFrom, h]
theorem fieldsT_ev (t : Tot) (H : Heap) : clD EE (.p (.fn 209)) [vTot t] H = some (vB (fieldsT t), none) := by
  rw [clD_body _ _ _ _ _ _ (noP _) fn209]
  have f := fun n H => fairL_ev n H
  have w1 : IntKind.i64.wrap 1 = 1 := by decide
  have w2 : IntKind.i64.wrap 2 = 2 := by decide
  have w3 : IntKind.i64.wrap 3 = 3 := by decide
  have w4 : IntKind.i64.wrap 4 = 4 := by decide
  unfold fieldsT
  cases c0 : fairL t.s0 with
  | false => simp [St.enter, enumFrom, subs, setSubs, f, lp209_0, evD_loop, ixvV, ixaV, shiftV, w1, w2, w3, w4, c0]
  | true =>
    cases c1 : fairL t.s1 with
    | false => simp [St.enter, enumFrom, subs, setSubs, f, lp209_0, evD_loop, ixvV, ixaV, shiftV, w1, w2, w3, w4, c0, c1]
    | true =>
      cases c2 : fairL t.s2 with
      | false => simp [St.enter, enumFrom, subs, setSubs, f, lp209_0, evD_loop, ixvV, ixaV, shiftV, w1, w2, w3, w4, c0, c1, c2]
      | true =>
        cases c3 : fairL t.s3 with
        | false => simp [St.enter, enumFrom, subs, setSubs, f, lp209_0, evD_loop, ixvV, ixaV, shiftV, w1, w2, w3, w4, c0, c1, c2, c3]
        | true =>
          cases c4 : fairL t.nat <;> simp [St.enter, enumFrom, subs, setSubs, f, lp209_0, evD_loop, ixvV, ixaV, shiftV, w1, w2, w3, w4, c0, c1, c2, c3, c4]
theorem rightG_ev (t : Tot) (h : Int) (H : Heap) : clD EE (.p (.fn 202)) [vTot t, vI h] H = some (vB (rightG t h), none) := by
  rw [clD_body _ _ _ _ _ _ (noP _) fn202]
  have f := fun H => fieldsT_ev t H
  unfold rightG
  cases c : fieldsT t with
  | false => simp [St.enter, enumFrom, subs, setSubs, f, c]
  | true => by_cases d : -1125899906842624 ≤ h <;> simp [St.enter, enumFrom, subs, setSubs, f, c, d]
theorem ordT_ev (t : Tot) (H : Heap) : clD EE (.p (.fn 203)) [vTot t] H = some (vI (ordT t), none) := by
  rw [clD_body _ _ _ _ _ _ (noP _) fn203]
  have w0 : IntKind.i64.wrap 0 = 0 := by decide
  have w1 : IntKind.i64.wrap 1 = 1 := by decide
  have w2 : IntKind.i64.wrap 2 = 2 := by decide
  unfold ordT
  by_cases c3 : t.s3 = 0
  · by_cases c2 : t.s2 = 0
    · by_cases c1 : t.s1 = 0
      · simp [St.enter, enumFrom, subs, setSubs, lp203_0, evD_loop, ixaV, shiftV, w0, w1, w2, c3, c2, c1]
      · simp [St.enter, enumFrom, subs, setSubs, lp203_0, evD_loop, ixaV, shiftV, w0, w1, w2, c3, c2, c1]
    · simp [St.enter, enumFrom, subs, setSubs, lp203_0, evD_loop, ixaV, shiftV, w0, w1, w2, c3, c2]
  · simp [St.enter, enumFrom, subs, setSubs, lp203_0, evD_loop, ixaV, shiftV, w0, w1, w2, c3]
theorem rightG_bd {t : Tot} {h : Int} (r : rightG t h = true) : (0 ≤ t.nat ∧ t.nat ≤ 1125899906842624) ∧ (0 ≤ t.shr ∧ t.shr ≤ 1125899906842624) ∧ -1125899906842624 ≤ h ∧ h ≤ 1125899906842624 := by
  unfold rightG fieldsT fairL at r
  simp at r
  omega
theorem gsetOf_ev (t : Tot) (h : Int) (last : Bool) (H : Heap) : clD EE (.p (.fn 122)) [vTot t, vI h, vB last] H = some (vSet (gsetOf t h last), none) := by
  rw [clD_body _ _ _ _ _ _ (noP _) fn122]
  have r := fun H => rightG_ev t h H
  have o := fun H => ordT_ev t H
  unfold gsetOf
  cases c : rightG t h with
  | false => simp [St.enter, enumFrom, subs, setSubs, r, c, zeroG]
  | true =>
    have bd := rightG_bd c
    obtain ⟨need, hneed⟩ : ∃ n, h - t.nat = n := ⟨_, rfl⟩
    have w1 : IntKind.i64.wrap (h - t.nat) = need := by rw [hneed]; exact w64 (by omega) (by omega)
    have w2 : IntKind.i64.wrap (t.shr + need) = t.shr + need := w64 (by omega) (by omega)
    have w3 : IntKind.i64.wrap (-need) = -need := w64 (by omega) (by omega)
    have ho : (ordT t = 0 ∧ strT t (ordT t) = t.s0) ∨ (ordT t = 1 ∧ strT t (ordT t) = t.s1) ∨ (ordT t = 2 ∧ strT t (ordT t) = t.s2) ∨ (ordT t = 3 ∧ strT t (ordT t) = t.s3) := by
      unfold ordT
      (repeat' split) <;> simp [strT]
    simp only [hneed]
    clear hneed bd
    generalize strT t (ordT t) = str at *
    generalize ordT t = od at *
    simp only [if_true]
    by_cases n0 : need = 0
    · subst n0
      simp [St.enter, enumFrom, subs, setSubs, r, c, o, w1, zeroG]
    · by_cases n1 : 0 < need
      · rcases ho with ⟨rfl, rfl⟩ | ⟨rfl, rfl⟩ | ⟨rfl, rfl⟩ | ⟨rfl, rfl⟩
        · by_cases s : 0 < t.s0
          · cases last <;> simp [St.enter, enumFrom, subs, setSubs, ixaV, shiftV, r, c, o, w1, w2, n0, n1, s]
          · simp [St.enter, enumFrom, subs, setSubs, ixaV, shiftV, r, c, o, w1, w2, n0, n1, s]
        · by_cases s : 0 < t.s1
          · cases last <;> simp [St.enter, enumFrom, subs, setSubs, ixaV, shiftV, r, c, o, w1, w2, n0, n1, s]
          · simp [St.enter, enumFrom, subs, setSubs, ixaV, shiftV, r, c, o, w1, w2, n0, n1, s]
        · by_cases s : 0 < t.s2
          · cases last <;> simp [St.enter, enumFrom, subs, setSubs, ixaV, shiftV, r, c, o, w1, w2, n0, n1, s]
          · simp [St.enter, enumFrom, subs, setSubs, ixaV, shiftV, r, c, o, w1, w2, n0, n1, s]
        · by_cases s : 0 < t.s3
          · cases last <;> simp [St.enter, enumFrom, subs, setSubs, ixaV, shiftV, r, c, o, w1, w2, n0, n1, s]
          · simp [St.enter, enumFrom, subs, setSubs, ixaV, shiftV, r, c, o, w1, w2, n0, n1, s]
      · by_cases n2 : 0 ≤ t.shr + need
        · simp [St.enter, enumFrom, subs, setSubs, r, c, o, w1, w2, w3, n0, n1, n2]
        · simp [St.enter, enumFrom, subs, setSubs, r, c, o, w1, w2, n0, n1, n2]
/-! ### A column's facts -/
def highA (g : Geom) (fs : List Float) (a b : List Int) : Int := IntKind.i64.wrap (highQ fs a g.sep + highQ fs b g.sep)
def stackA (g : Geom) (fs : List Float) (a : List Int) : Int := if highQ fs a g.sep = 0 then 0 else IntKind.i64.wrap (highQ fs a g.sep - min (max g.sep 0) 1125899906842624)
theorem areaHigh_ev (g : Geom) (fs : List Float) (a b : List Int) (ha : a.length ≤ 1000000) (hb : b.length ≤ 1000000) (H : Heap) : clD EE (.p (.fn 119)) [vGeom g, vFloats fs, .agg [sli a, sli b]] H = some (vI (highA g fs a b), none) := by
  rw [clD_body _ _ _ _ _ _ (noP _) fn119]
  have h1 := fun H => fhigh_ev fs a g.sep H ha
  have h2 := fun H => fhigh_ev fs b g.sep H hb
  unfold highA
  simp [St.enter, enumFrom, subs, setSubs, h1, h2]
theorem areaStack_ev (g : Geom) (fs : List Float) (a : List Int) (ha : a.length ≤ 1000000) (H : Heap) : clD EE (.p (.fn 120)) [vGeom g, vFloats fs, sli a] H = some (vI (stackA g fs a), none) := by
  rw [clD_body _ _ _ _ _ _ (noP _) fn120]
  have h1 := fun H => fhigh_ev fs a g.sep H ha
  unfold stackA
  by_cases c : highQ fs a g.sep = 0 <;> simp [St.enter, enumFrom, subs, setSubs, h1, c]
def lastC (l : List Item) (c : Colm) : Bool := decide (c.k = 1) && (decide (c.to = l.length) || match itemAt l c.to with | some x => decide (0 < c.to) && forcesX x | none => false)
theorem lastC_ev (j : Job) (c : Colm) (H : Heap) : clD EE (.p (.fn 121)) [vW j, vColm c] H = some (vB (lastC j.items c), none) := by
  rw [clD_body _ _ _ _ _ _ (noP _) fn121]
  have l1 := fun H => wList_ev j H
  have l2 := fun H => listLen_ev j.items H
  have l3 := fun H => listAt_ev j.items c.to H
  have f := fun x H => forces_ev x H
  unfold lastC
  by_cases k : c.k = 1
  · by_cases e : c.to = j.items.length
    · cases h : itemAt j.items c.to with
      | none => rw [h] at l3; simp [St.enter, enumFrom, subs, setSubs, l1, l2, l3, k, ← e]
      | some x => rw [h] at l3; simp [St.enter, enumFrom, subs, setSubs, l1, l2, l3, k, ← e]
    · cases h : itemAt j.items c.to with
      | none => rw [h] at l3; simp [St.enter, enumFrom, subs, setSubs, l1, l2, l3, k, e]
      | some x =>
        rw [h] at l3
        by_cases p : 0 < c.to <;> simp [St.enter, enumFrom, subs, setSubs, l1, l2, l3, k, e, p, f]
  · simp [St.enter, enumFrom, subs, setSubs, k]
structure Fcts where
  notes : Int
  floats : Int
  room : Int
  last : Bool
  over : Bool
  set_ : Setg
def zeroF : Fcts := ⟨0, 0, 0, false, false, zeroG⟩
abbrev vFcts (f : Fcts) : V := .agg [vI f.notes, vI f.floats, vI f.room, vB f.last, vB f.over, vI f.set_.how, vI f.set_.ord, vI f.set_.by_, vI f.set_.of_, vI f.set_.left]
def floatsC (j : Job) (c : Colm) : Int := if c.k = 1 then highA j.g j.floats c.top c.bot else if c.k = 2 then stackA j.g j.floats c.top else 0
def roomC (j : Job) (s : Stt) (c : Colm) : Int := IntKind.i64.wrap (IntKind.i64.wrap (highS j s - highP j.notes c.notes j.g.rule) - floatsC j c)
def fullC (j : Job) (c : Colm) : Bool := decide (0 < c.notes.length) && decide (j.g.noteMost < highP j.notes c.notes j.g.rule)
def setC (j : Job) (s : Stt) (c : Colm) : Setg := gsetOf (sumT j.items s.at_ c.to) (roomC j s c) (lastC j.items c)
def factsC (j : Job) (s : Stt) (c : Colm) : Fcts :=
  if rightS j s = true then
    ⟨highP j.notes c.notes j.g.rule, floatsC j c, roomC j s c, lastC j.items c,
      if c.k = 1 then fullC j c || decide ((setC j s c).how = 3) else fullC j c || decide (roomC j s c < 0),
      if c.k = 1 then setC j s c else zeroG⟩
  else zeroF
theorem facts_ev (j : Job) (w : okW j) (hf : ∀ x ∈ j.items, fairI x) (s : Stt) (c : Colm) (c1 : c.notes.length ≤ 1000000) (c2 : c.top.length ≤ 1000000) (c3 : c.bot.length ≤ 1000000) (H : Heap) :
    clD EE (.p (.fn 42)) [vW j, vStt s, vColm c] H = some (vFcts (factsC j s c), none) := by
  rw [clD_body _ _ _ _ _ _ (noP _) fn42]
  have r := fun H => stRight_ev j w s H
  have pl := fun H => plain_ev j H
  have sh := fun H => splitHigh_ev j.notes c.notes j.g.rule w.lines c1 H
  have ah := fun H => areaHigh_ev j.g j.floats c.top c.bot c2 c3 H
  have as := fun H => areaStack_ev j.g j.floats c.top c2 H
  have hi := fun H => stHigh_ev j w s H
  have la := fun H => lastC_ev j c H
  have su := fun H => wSums_ev j H
  have so := fun H => sumsOf_ev j.items w.n1 hf s.at_ c.to H
  have gs := fun H => gsetOf_ev (sumT j.items s.at_ c.to) (roomC j s c) (lastC j.items c) H
  unfold factsC
  cases b : rightS j s with
  | false =>
    rw [b] at r
    simp [St.enter, enumFrom, subs, setSubs, r, zeroF, zeroG]
  | true =>
    rw [b] at r
    have e : setC j s c = gsetOf (sumT j.items s.at_ c.to) (roomC j s c) (lastC j.items c) := rfl
    rw [← e] at gs
    have hr : roomC j s c = IntKind.i64.wrap (IntKind.i64.wrap (highS j s - highP j.notes c.notes j.g.rule) - floatsC j c) := rfl
    generalize setC j s c = G at *
    have hfu : fullC j c = (decide (0 < c.notes.length) && decide (j.g.noteMost < highP j.notes c.notes j.g.rule)) := rfl
    have hfl : floatsC j c = if c.k = 1 then highA j.g j.floats c.top c.bot else if c.k = 2 then stackA j.g j.floats c.top else 0 := rfl
    generalize lastC j.items c = L at *
    generalize highA j.g j.floats c.top c.bot = A1 at *
    generalize stackA j.g j.floats c.top = A2 at *
    generalize sumT j.items s.at_ c.to = T at *
    generalize roomC j s c = R at *
    generalize highP j.notes c.notes j.g.rule = hp at *
    generalize highS j s = hs at *
    generalize floatsC j c = F at *
    generalize fullC j c = U at *
    simp only [vJob, vGeom, cGeom, List.cons_append, List.nil_append] at pl ah as
    have hn : (0 : Int) < c.notes.length ↔ 0 < c.notes.length := by omega
    by_cases k1 : c.k = 1
    · rw [if_pos k1] at hfl
      subst hfl
      simp only [vColm, k1] at la
      by_cases n0 : 0 < c.notes.length
      · simp only [n0, decide_true, Bool.true_and] at hfu
        by_cases q : j.g.noteMost < hp <;> simp only [q, decide_true, decide_false] at hfu <;> subst hfu <;>
          simp [St.enter, enumFrom, subs, setSubs, fldvV, r, pl, sh, ah, hi, la, su, so, gs, k1, hn, n0, ← hr, q]
      · simp only [n0, decide_false, Bool.false_and] at hfu
        subst hfu
        simp [St.enter, enumFrom, subs, setSubs, fldvV, r, pl, sh, ah, hi, la, su, so, gs, k1, hn, n0, ← hr]
    · rw [if_neg k1] at hfl
      by_cases k2 : c.k = 2
      · rw [if_pos k2] at hfl
        subst hfl
        simp only [vColm, k2] at la
        by_cases n0 : 0 < c.notes.length
        · simp only [n0, decide_true, Bool.true_and] at hfu
          by_cases q : j.g.noteMost < hp <;> simp only [q, decide_true, decide_false] at hfu <;> subst hfu <;>
            simp [St.enter, enumFrom, subs, setSubs, fldvV, r, pl, sh, as, hi, la, k1, k2, hn, n0, ← hr, q, zeroG]
        · simp only [n0, decide_false, Bool.false_and] at hfu
          subst hfu
          simp [St.enter, enumFrom, subs, setSubs, fldvV, r, pl, sh, as, hi, la, k1, k2, hn, n0, ← hr, zeroG]
      · rw [if_neg k2] at hfl
        subst hfl
        rw [Int.sub_zero] at hr
        by_cases n0 : 0 < c.notes.length
        · simp only [n0, decide_true, Bool.true_and] at hfu
          by_cases q : j.g.noteMost < hp <;> simp only [q, decide_true, decide_false] at hfu <;> subst hfu <;>
            simp [St.enter, enumFrom, subs, setSubs, fldvV, r, pl, sh, hi, la, k1, k2, hn, n0, ← hr, q, zeroG]
        · simp only [n0, decide_false, Bool.false_and] at hfu
          subst hfu
          simp [St.enter, enumFrom, subs, setSubs, fldvV, r, pl, sh, hi, la, k1, k2, hn, n0, ← hr, zeroG]
end Go.EnvOf

/- What a column costs: sums held, badness. -/
namespace Go.EnvOf
open Go Go.Eng
set_option maxRecDepth 100000
/-! ### Held sums -/
def heldN (n : Int) : Int := min (max n 0) 1125899906842624
def addM (a b : Int) : Int := heldN (heldN a + heldN b)
theorem heldN_bd (n : Int) : 0 ≤ heldN n ∧ heldN n ≤ 1125899906842624 := by unfold heldN; omega
theorem held1_ev (n : Int) (H : Heap) : clD EE (.p (.fn 240)) [vI n] H = some (vI (heldN n), none) := by
  rw [clD_body _ _ _ _ _ _ (noP _) fn240]
  unfold heldN
  simp [St.enter, enumFrom]
theorem held2_ev (n : Int) (H : Heap) : clD EE (.p (.fn 241)) [vI n] H = some (vI (heldN n), none) := by
  rw [clD_body _ _ _ _ _ _ (noP _) fn241]
  unfold heldN
  simp [St.enter, enumFrom]
theorem addM1_ev (a b : Int) (H : Heap) : clD EE (.p (.fn 177)) [vI a, vI b] H = some (vI (addM a b), none) := by
  rw [clD_body _ _ _ _ _ _ (noP _) fn177]
  have h := fun n H => held1_ev n H
  have b1 := heldN_bd a
  have b2 := heldN_bd b
  have w : IntKind.i64.wrap (heldN a + heldN b) = heldN a + heldN b := w64 (by omega) (by omega)
  unfold addM
  simp [St.enter, enumFrom, h, w]
theorem addM2_ev (a b : Int) (H : Heap) : clD EE (.p (.fn 178)) [vI a, vI b] H = some (vI (addM a b), none) := by
  rw [clD_body _ _ _ _ _ _ (noP _) fn178]
  have h := fun n H => held2_ev n H
  have b1 := heldN_bd a
  have b2 := heldN_bd b
  have w : IntKind.i64.wrap (heldN a + heldN b) = heldN a + heldN b := w64 (by omega) (by omega)
  unfold addM
  simp [St.enter, enumFrom, h, w]
abbrev vCost (o s : Int) : V := .agg [vI o, vI s]
theorem costAdd_ev (a b c d : Int) (H : Heap) : clD EE (.p (.fn 98)) [vCost a b, vCost c d] H = some (vCost (addM a c) (addM b d), none) := by
  rw [clD_body _ _ _ _ _ _ (noP _) fn98]
  have h1 := fun H => addM1_ev a c H
  have h2 := fun H => addM2_ev b d H
  simp [St.enter, enumFrom, subs, setSubs, h1, h2]
theorem put_ev (p : Nat) (o s a b : Int) (H : Heap) (h : Eng.boxAt H p = some [vI o, vI s]) : clD EE (.p (.fn 199)) [.ptr p 0, vCost a b] H = some (.tup [], some (H.set p (.box [vI (addM o a), vI (addM s b)]), [p])) := by
  rw [clD_body _ _ _ _ _ _ (noP _) fn199]
  have hlt := boxAt_lt h
  have k := fun H => costAdd_ev o s a b H
  simp [St.enter, enumFrom, subs, setSubs, h, k, hlt]
theorem sumCost_ev (p : Nat) (o s : Int) (H : Heap) (h : Eng.boxAt H p = some [vI o, vI s]) : clD EE (.p (.fn 200)) [.ptr p 0] H = some (vCost o s, none) := by
  rw [clD_body _ _ _ _ _ _ (noP _) fn200]
  simp [St.enter, enumFrom, subs, setSubs, h]
def coS (st : Int × Int) (_ : Nat) (n : Int) : Int × Int := (addM st.1 0, addM st.2 n)
def costOf (over : Bool) (l : List Int) : Int × Int := fold coS (if over = true then (1, 0) else (0, 0)) 0 l
def coFn (H : Heap) : V := .fn (.func 199) [.ptr H.length 0] []
@[simp] theorem coFn_stale (H : Heap) (k : Nat) : staleB (coFn H) k = true := rfl
theorem coFn_clo (K : Heap) (v : V) (H : Heap) : clD EE (coFn K) [v] H = clD EE (.p (.fn 199)) [.ptr K.length 0, v] H := by unfold coFn; rw [clD_clo]; rfl
def coE (H : Heap) (v : V) (n : Nat) (st : Int × Int) (i : Nat) : St := ⟨[(4, .lptr 4 0), (5, .ptr H.length 0), (6, coFn H), (14, v), (15, vI n), (16, vI i)], [(4, [vI 0, vI 0])], H ++ [.box [vI st.1, vI st.2]], H.length, []⟩
def coX (H : Heap) (v : V) (n : Nat) (st : Int × Int) : Ex × St := (.exit 0, ⟨[(4, .lptr 4 0), (5, .ptr H.length 0), (6, coFn H), (14, v), (15, vI n), (16, vI n), (17, vB false)], [(4, [vI 0, vI 0])], H ++ [.box [vI st.1, vI st.2]], H.length, []⟩)
theorem co_lp (H : Heap) (l : List Int) (hl : l.length ≤ 1000000) (id : Nat) (hr : Go.Eng.rowAt H id = some (1, upV (l.map encI))) (st0 : Int × Int) :
    evD EE lp117_0 (coE H (.row id l.length 0 l.length) l.length st0 0) = some (coX H (.row id l.length 0 l.length) l.length (fold coS st0 0 l)) := by
  unfold lp117_0
  refine evD_fold l (fun st i => coE H (.row id l.length 0 l.length) l.length st i) (fun _ _ => True) coS (fun st => coX H (.row id l.length 0 l.length) l.length st) (fun _ _ => rfl) ?_ ?_ st0 0 trivial (Nat.zero_le _)
  · rintro st i x - hx
    refine ⟨?_, trivial⟩
    have hlt := (List.getElem?_eq_some_iff.1 hx).1
    have w : IntKind.i64.wrap ((i : Int) + 1) = ((i + 1 : Nat) : Int) := w64 (by omega) (by omega)
    have hid : id < H.length := by
      unfold Go.Eng.rowAt at hr
      rcases Nat.lt_or_ge id H.length with g | g
      · exact g
      · rw [List.getElem?_eq_none g] at hr; cases hr
    have hr2 : ∀ T, Go.Eng.rowAt (H ++ T) id = some (1, upV (l.map encI)) := fun T => by
      unfold Go.Eng.rowAt; rw [List.getElem?_append_left hid]; exact hr
    have hix : ∀ T, ixsI (H ++ T) (.row id l.length 0 l.length) (vI i) 1 = some (.rptr id l.length i 0) := fun T => by
      rw [ixs_row, hr2, ixR_some]; simp [upV, hlt]
    have hux : (upV (l.map encI))[i]? = some [vI x] := by simp [upV, encI, hx]
    have hgx : ∀ h : i < (upV (l.map encI)).length, (upV (l.map encI))[i]'h = [vI x] := fun h => (List.getElem?_eq_some_iff.1 hux).2
    have p := put_ev H.length st.1 st.2 0 x (H ++ [.box [vI st.1, vI st.2]]) (by simp)
    rw [← coFn_clo] at p
    have ad : addD H.length H.length [] = [] := by unfold addD; rw [if_neg (by omega)]
    simp [coE, coS, hlt, hix, hr2, hgx, subs, setSubs, w, p, ad]
  · rintro st -
    refine ⟨?_, by simp [coX]⟩
    simp [coE, coX]
theorem costOf_ev (H : Heap) (over : Bool) (l : List Int) (hl : l.length ≤ 1000000) (id : Nat) (hr : Go.Eng.rowAt H id = some (1, upV (l.map encI))) :
    clD EE (.p (.fn 117)) [vB over, .row id l.length 0 l.length] H = some (vCost (costOf over l).1 (costOf over l).2, none) := by
  rw [clD_body _ _ _ _ _ _ (noP _) fn117]
  have ad : addD H.length H.length [] = [] := by unfold addD; rw [if_neg (by omega)]
  have sc := fun a b => sumCost_ev H.length a b (H ++ [.box [vI a, vI b]]) (by simp)
  have a1 : addM 0 1 = 1 := by decide
  have a0 : addM 0 0 = 0 := by decide
  have k := fun st => co_lp H l hl id hr st
  unfold costOf
  cases over with
  | true =>
    have p := put_ev H.length 0 0 1 0 (H ++ [.box [vI 0, vI 0]]) (by simp)
    rw [← coFn_clo] at p
    have k1 := k (1, 0)
    simp only [if_true]
    generalize fold coS (1, 0) 0 l = q at *
    simp [coE, coX, coFn] at k1 p
    simp [St.enter, enumFrom, subs, setSubs, p, a1, a0, ad, k1, sc]
  | false =>
    have k1 := k (0, 0)
    simp only [Bool.false_eq_true, if_false]
    generalize fold coS (0, 0) 0 l = q at *
    simp [coE, coX, coFn] at k1
    simp [St.enter, enumFrom, subs, setSubs, ad, k1, sc]
theorem costOf_over (over : Bool) (l : List Int) : (costOf over l).1 = if over = true then 1 else 0 := by
  have : ∀ (l : List Int) (i : Nat) (a b : Int), (a = 0 ∨ a = 1) → (fold coS (a, b) i l).1 = a := by
    intro l
    induction l with
    | nil => intro i a b _; rfl
    | cons x r ih =>
      intro i a b h
      simp only [fold, coS]
      have : addM a 0 = a := by rcases h with rfl | rfl <;> decide
      rw [this]; exact ih (i + 1) a _ h
  unfold costOf
  cases over with
  | true => simp only [if_true]; exact this l 0 1 0 (.inr rfl)
  | false => simp only [Bool.false_eq_true, if_false]; exact this l 0 0 0 (.inl rfl)
theorem costOf_sum (over : Bool) (l : List Int) : 0 ≤ (costOf over l).2 := by
  have : ∀ (l : List Int) (i : Nat) (a b : Int), 0 ≤ b → 0 ≤ (fold coS (a, b) i l).2 := by
    intro l
    induction l with
    | nil => intro i a b h; exact h
    | cons x r ih => intro i a b _; exact ih (i + 1) _ _ (heldN_bd _).1
  unfold costOf
  split <;> exact this l 0 _ _ (Int.le_refl _)
end Go.EnvOf

/- Badness. -/
namespace Go.EnvOf
open Go Go.Eng
set_option maxRecDepth 100000
theorem wrap_le (n : Int) : IntKind.i64.wrap n ≤ 9223372036854775807 := by
  have e : IntKind.i64.wrap n = if n % 18446744073709551616 ≥ 9223372036854775808 then n % 18446744073709551616 - 18446744073709551616 else n % 18446744073709551616 := by
    simp [IntKind.wrap, IntKind.bits, IntKind.signed]
  rw [e]; split <;> omega
theorem shr18 (a : Int) : binV .shr (.p (.int .i64 a)) (.p (.int .u64 18)) = some (.p (.int .i64 (a / 262144))) := by
  have e : (2 : Int) ^ (min (18 : Int).toNat (IntKind.bits .i64)) = 262144 := by decide
  simp only [binV, intOp]
  rw [if_pos (by simp), if_neg (by decide), e, Int.fdiv_eq_ediv_of_nonneg _ (by decide)]
  rfl
def W64 (n : Int) : Int := IntKind.i64.wrap n
def quarQ (need has : Int) : Int :=
  min (if need < 1 then 0 else if has < 1 then 1291 else if need ≤ 7230584 then W64 ((W64 (need * 297)).tdiv has) else if 1663497 ≤ has then W64 (need.tdiv (W64 (has.tdiv 297))) else need) 1291
def cubeQ (r : Int) : Int := if 1290 < r then 10000 else if r < 1 then 0 else (r * r * r + 131072) / 262144
def badQ (need has : Int) : Int := cubeQ (quarQ need has)
theorem ru1_ev (a b : Int) (H : Heap) : clD EE (.p (.fn 315)) [vI a, vI b] H = some (vB (decide (a < 1)), none) := by
  rw [clD_body _ _ _ _ _ _ (noP _) fn315]; simp [St.enter, enumFrom]
theorem ru2_ev (a b : Int) (H : Heap) : clD EE (.p (.fn 316)) [vI a, vI b] H = some (vI 0, none) := by
  rw [clD_body _ _ _ _ _ _ (noP _) fn316]; simp [St.enter, enumFrom]
theorem ru3_ev (a b : Int) (H : Heap) : clD EE (.p (.fn 317)) [vI a, vI b] H = some (vB (decide (b < 1)), none) := by
  rw [clD_body _ _ _ _ _ _ (noP _) fn317]; simp [St.enter, enumFrom]
theorem ru4_ev (a b : Int) (H : Heap) : clD EE (.p (.fn 318)) [vI a, vI b] H = some (vI 1291, none) := by
  rw [clD_body _ _ _ _ _ _ (noP _) fn318]; simp [St.enter, enumFrom]
theorem ru5_ev (a b : Int) (H : Heap) : clD EE (.p (.fn 319)) [vI a, vI b] H = some (vB (decide (a ≤ 7230584)), none) := by
  rw [clD_body _ _ _ _ _ _ (noP _) fn319]; simp [St.enter, enumFrom]
theorem ru6_ev (a b : Int) (hb : 1 ≤ b) (H : Heap) : clD EE (.p (.fn 320)) [vI a, vI b] H = some (vI (W64 ((W64 (a * 297)).tdiv b)), none) := by
  rw [clD_body _ _ _ _ _ _ (noP _) fn320]
  have h : ¬ b = 0 := by omega
  unfold W64
  simp [St.enter, enumFrom, h]
theorem ru7_ev (a b : Int) (H : Heap) : clD EE (.p (.fn 321)) [vI a, vI b] H = some (vB (decide (1663497 ≤ b)), none) := by
  rw [clD_body _ _ _ _ _ _ (noP _) fn321]; simp [St.enter, enumFrom]
theorem ru8_ev (a b : Int) (hb : 1663497 ≤ b) (hB : b ≤ 9223372036854775807) (H : Heap) : clD EE (.p (.fn 322)) [vI a, vI b] H = some (vI (W64 (a.tdiv (W64 (b.tdiv 297)))), none) := by
  rw [clD_body _ _ _ _ _ _ (noP _) fn322]
  have e : b.tdiv 297 = b / 297 := Int.tdiv_eq_ediv_of_nonneg (by omega)
  have w : IntKind.i64.wrap (b.tdiv 297) = b.tdiv 297 := by rw [e]; exact w64 (by omega) (by omega)
  have h : ¬ b.tdiv 297 = 0 := by rw [e]; omega
  unfold W64
  simp [St.enter, enumFrom, w, h]
theorem rules_ev (H : Heap) : clD EE (.p (.fn 288)) [] H = some (.p (.sl [[.fn 315, .fn 316], [.fn 317, .fn 318], [.fn 319, .fn 320], [.fn 321, .fn 322]]), none) := by
  rw [clD_body _ _ _ _ _ _ (noP _) fn288]
  simp [St.enter, enumFrom, subs, setSubs]
theorem quar_ev (need has : Int) (hh : has ≤ 9223372036854775807) (H : Heap) : clD EE (.p (.fn 251)) [vI need, vI has] H = some (vI (quarQ need has), none) := by
  rw [clD_body _ _ _ _ _ _ (noP _) fn251]
  have r := fun H => rules_ev H
  have r1 := fun H => ru1_ev need has H
  have r2 := fun H => ru2_ev need has H
  have r3 := fun H => ru3_ev need has H
  have r4 := fun H => ru4_ev need has H
  have r5 := fun H => ru5_ev need has H
  have r7 := fun H => ru7_ev need has H
  have w1 : IntKind.i64.wrap 1 = 1 := by decide
  have w2 : IntKind.i64.wrap 2 = 2 := by decide
  have w3 : IntKind.i64.wrap 3 = 3 := by decide
  have w4 : IntKind.i64.wrap 4 = 4 := by decide
  unfold quarQ
  by_cases c1 : need < 1
  · simp [St.enter, enumFrom, subs, setSubs, lp251_0, evD_loop, ixsI, ixsV, w1, w2, w3, w4, r, r1, r2, c1]
  · by_cases c2 : has < 1
    · simp [St.enter, enumFrom, subs, setSubs, lp251_0, evD_loop, ixsI, ixsV, w1, w2, w3, w4, r, r1, r3, r4, c1, c2]
    · by_cases c3 : need ≤ 7230584
      · have r6 := fun H => ru6_ev need has (by omega) H
        simp [St.enter, enumFrom, subs, setSubs, lp251_0, evD_loop, ixsI, ixsV, w1, w2, w3, w4, r, r1, r3, r5, r6, c1, c2, c3]
      · by_cases c4 : 1663497 ≤ has
        · have r8 := fun H => ru8_ev need has c4 hh H
          simp [St.enter, enumFrom, subs, setSubs, lp251_0, evD_loop, ixsI, ixsV, w1, w2, w3, w4, r, r1, r3, r5, r7, r8, c1, c2, c3, c4]
        · simp [St.enter, enumFrom, subs, setSubs, lp251_0, evD_loop, ixsI, ixsV, w1, w2, w3, w4, r, r1, r3, r5, r7, c1, c2, c3, c4]
theorem cube_ev (r : Int) (H : Heap) : clD EE (.p (.fn 250)) [vI r] H = some (vI (cubeQ r), none) := by
  rw [clD_body _ _ _ _ _ _ (noP _) fn250]
  unfold cubeQ
  by_cases c1 : 1290 < r
  · simp [St.enter, enumFrom, c1]
  · by_cases c2 : r < 1
    · simp [St.enter, enumFrom, c1, c2]
    · have b2 : r * r ≤ 1290 * 1290 := Int.mul_le_mul (by omega) (by omega) (by omega) (by omega)
      have b2' : 0 ≤ r * r := Int.mul_nonneg (by omega) (by omega)
      have b3 : r * r * r ≤ 1290 * 1290 * 1290 := Int.mul_le_mul b2 (by omega) (by omega) (by omega)
      have b3' : 0 ≤ r * r * r := Int.mul_nonneg b2' (by omega)
      have w2 : IntKind.i64.wrap (r * r) = r * r := w64 (by omega) (by omega)
      have w3 : IntKind.i64.wrap (r * r * r) = r * r * r := w64 (by omega) (by omega)
      have w4 : IntKind.i64.wrap (r * r * r + 131072) = r * r * r + 131072 := w64 (by omega) (by omega)
      have w5 : IntKind.i64.wrap ((r * r * r + 131072) / 262144) = (r * r * r + 131072) / 262144 := w64 (by omega) (by omega)
      simp [St.enter, enumFrom, c1, c2, w2, w3, w4, shr18]
theorem badOf_ev (need has : Int) (hh : has ≤ 9223372036854775807) (H : Heap) : clD EE (.p (.fn 192)) [vI need, vI has] H = some (vI (badQ need has), none) := by
  rw [clD_body _ _ _ _ _ _ (noP _) fn192]
  have q := fun H => quar_ev need has hh H
  have c := fun H => cube_ev (quarQ need has) H
  unfold badQ
  simp [St.enter, enumFrom, q, c]
def badG (s : Setg) (spare : Int) (last : Bool) : Int :=
  if s.how = 0 then (if s.left = 0 ∨ last = true then 0 else badQ s.left (min (max spare 0) 1125899906842624))
  else if s.how = 1 then (if 0 < s.ord then 0 else badQ s.by_ (W64 (s.of_ + min (max spare 0) 1125899906842624)))
  else if s.how = 2 then badQ s.by_ s.of_ else 10000
theorem gsetBad_ev (s : Setg) (spare : Int) (last : Bool) (h : s.of_ ≤ 9223372036854775807) (H : Heap) : clD EE (.p (.fn 110)) [vSet s, vI spare, vB last] H = some (vI (badG s spare last), none) := by
  rw [clD_body _ _ _ _ _ _ (noP _) fn110]
  have b1 := fun H => badOf_ev s.left (min (max spare 0) 1125899906842624) (by omega) H
  have b3 := fun H => badOf_ev s.by_ s.of_ h H
  have b2 := fun H => badOf_ev s.by_ (W64 (s.of_ + min (max spare 0) 1125899906842624)) (wrap_le _) H
  unfold badG
  unfold W64 at b2 ⊢
  by_cases h0 : s.how = 0
  · by_cases l0 : s.left = 0
    · simp [St.enter, enumFrom, subs, setSubs, h0, l0]
    · cases last <;> simp [St.enter, enumFrom, subs, setSubs, h0, l0, b1]
  · by_cases h1 : s.how = 1
    · by_cases o : 0 < s.ord
      · simp [St.enter, enumFrom, subs, setSubs, h1, o]
      · simp [St.enter, enumFrom, subs, setSubs, h1, o, b2]
    · by_cases h2 : s.how = 2
      · simp [St.enter, enumFrom, subs, setSubs, h2, b3]
      · simp [St.enter, enumFrom, subs, setSubs, h0, h1, h2]
end Go.EnvOf

/- Breaks: where they may be; clubs, widows; what a break costs; what a torn note costs. -/
namespace Go.EnvOf
open Go Go.Eng
set_option maxRecDepth 100000
def forbX (x : Item) : Bool := decide (x.k = 3) && decide (10000 ≤ x.n)
theorem forb_ev (x : Item) (H : Heap) : clD EE (.p (.fn 252)) [vItem x] H = some (vB (forbX x), none) := by
  rw [clD_body _ _ _ _ _ _ (noP _) fn252]
  unfold forbX
  by_cases h : x.k = 3 <;> simp [St.enter, enumFrom, subs, setSubs, h]
def mayV (l : List Item) (n : Int) : Bool :=
  if n < 1 ∨ (l.length : Int) < n then false else match itemAt l n with
    | none => true
    | some x => if x.k = 2 then !looseX (rd l (n - 1)) else if x.k = 3 then !forbX x else false
theorem mayV_ev (l : List Item) (hl : l.length ≤ 1000000) (n : Int) (H : Heap) : clD EE (.p (.fn 194)) [vListW l, vI n] H = some (vB (mayV l n), none) := by
  rw [clD_body _ _ _ _ _ _ (noP _) fn194]
  have l2 := fun H => listLen_ev l H
  have l3 := fun H => listAt_ev l n H
  have f := fun x H => forb_ev x H
  have lo := fun x H => loose_ev x H
  unfold mayV
  by_cases c1 : n < 1
  · cases h : itemAt l n with
    | none => rw [h] at l3; simp [St.enter, enumFrom, subs, setSubs, l2, l3, c1]
    | some x => rw [h] at l3; simp [St.enter, enumFrom, subs, setSubs, l2, l3, c1]
  · by_cases c2 : (l.length : Int) < n
    · cases h : itemAt l n with
      | none => rw [h] at l3; simp [St.enter, enumFrom, subs, setSubs, l2, l3, c1, c2]
      | some x => rw [h] at l3; simp [St.enter, enumFrom, subs, setSubs, l2, l3, c1, c2]
    · cases h : itemAt l n with
      | none => rw [h] at l3; simp [St.enter, enumFrom, subs, setSubs, l2, l3, c1, c2]
      | some x =>
        rw [h] at l3
        have w : IntKind.i64.wrap (n - 1) = n - 1 := w64 (by omega) (by omega)
        have hx := rd_get l (n - 1) (by omega) (by omega)
        have hix := fun H k => ixs_int H encItem (k := k) (s := 7) (by omega) hx rfl
        simp only [encItem] at hix
        by_cases k2 : x.k = 2
        · simp only [vListW] at l2 l3 ⊢
          simp [St.enter, enumFrom, subs, setSubs, l2, l3, c1, c2, k2, w, hix, lo]
        · by_cases k3 : x.k = 3
          · have f1 := fun H => f x H
            simp only [vItem, k3] at f1
            simp [St.enter, enumFrom, subs, setSubs, l2, l3, c1, c2, k3, f1]
          · simp [St.enter, enumFrom, subs, setSubs, l2, l3, c1, c2, k2, k3]
/-! ### The next box, the last box -/
def fwdB : List Item → Nat → Int
  | [], _ => -1
  | x :: r, i => if x.k = 1 then i else fwdB r (i + 1)
def bwdB (l : List Item) : Nat → Int
  | 0 => -1
  | n + 1 => if (rd l (n : Int)).k = 1 then n else bwdB l n
theorem seekF_lp (l : List Item) (hl : l.length ≤ 1000000) (H : Heap) (B : Nat) : ∀ (n i : Nat), l.length - i = n → 
    ∃ env, evD EE lp290_0 ⟨[(0, vListW l), (2, vI 1), (7, vI (-1)), (8, vI i)], [], H, B, []⟩ = some (.exit 0, ⟨env, [], H, B, []⟩) ∧ getE env 7 = vI (fwdB (l.drop i) i)
  | 0, i, hn => by
    have l2 := fun H => listLen_ev l H
    have c : ¬ i < l.length := by omega
    refine ⟨[(0, vListW l), (2, vI 1), (7, vI (-1)), (8, vI i), (19, vB false)], ?_, ?_⟩
    · unfold lp290_0
      rw [evD_loop]
      simp [l2, c]
    · rw [List.drop_eq_nil_of_le (by omega)]; simp [fwdB]
  | n + 1, i, hn => by
    have l2 := fun H => listLen_ev l H
    have c : i < l.length := by omega
    have l3 := fun H => listAt_ev l i H
    have hx : l[i]? = some l[i] := List.getElem?_eq_getElem c
    rw [itemAt_nat, hx] at l3
    rw [List.drop_eq_getElem_cons c, fwdB]
    generalize l[i] = x at *
    have w : IntKind.i64.wrap ((i : Int) + 1) = ((i + 1 : Nat) : Int) := w64 (by omega) (by omega)
    by_cases k : x.k = 1
    · refine ⟨[(7, vI i)], ?_, by rw [if_pos k]; simp⟩
      unfold lp290_0
      rw [evD_loop]
      simp [l2, l3, c, k, subs, setSubs]
    · obtain ⟨env, h1, h2⟩ := seekF_lp l hl H B n (i + 1) (by omega)
      refine ⟨env, ?_, by rw [if_neg k]; exact h2⟩
      rw [← h1]
      conv => lhs; unfold lp290_0
      rw [evD_loop]
      simp [l2, l3, c, k, subs, setSubs, w]
      rfl
theorem seekB_lp (l : List Item) (hl : l.length ≤ 1000000) (H : Heap) (B : Nat) : ∀ (n : Nat), n ≤ l.length → 
    ∃ env, evD EE lp290_0 ⟨[(0, vListW l), (2, vI (-1)), (7, vI (-1)), (8, vI ((n : Int) - 1))], [], H, B, []⟩ = some (.exit 0, ⟨env, [], H, B, []⟩) ∧ getE env 7 = vI (bwdB l n)
  | 0, hn => by
    refine ⟨[(0, vListW l), (2, vI (-1)), (7, vI (-1)), (8, vI (-1)), (19, vB false)], ?_, by simp [bwdB]⟩
    unfold lp290_0
    rw [evD_loop]
    simp
  | n + 1, hn => by
    have l2 := fun H => listLen_ev l H
    have l3 := fun H => listAt_ev l n H
    have c : n < l.length := by omega
    have hx : l[n]? = some l[n] := List.getElem?_eq_getElem c
    have hr : rd l (n : Int) = l[n] := by
      have := rd_get l (n : Int) (by omega) (by omega)
      simp at this
      rw [hx] at this; simpa using this.symm
    rw [itemAt_nat, hx] at l3
    rw [bwdB, hr]
    generalize l[n] = x at *
    have e : ((n + 1 : Nat) : Int) - 1 = n := by omega
    rw [e]
    have w : IntKind.i64.wrap ((n : Int) + -1) = (n : Int) - 1 := w64 (by omega) (by omega)
    by_cases k : x.k = 1
    · refine ⟨[(7, vI n)], ?_, by rw [if_pos k]; simp⟩
      unfold lp290_0
      rw [evD_loop]
      simp [l2, l3, c, k, subs, setSubs]
    · obtain ⟨env, h1, h2⟩ := seekB_lp l hl H B n (by omega)
      refine ⟨env, ?_, by rw [if_neg k]; exact h2⟩
      rw [← h1]
      conv => lhs; unfold lp290_0
      rw [evD_loop]
      simp [l2, l3, c, k, subs, setSubs, w]
      rfl
end Go.EnvOf

/- Clubs and widows; what a break costs. -/
namespace Go.EnvOf
open Go Go.Eng
set_option maxRecDepth 100000
def behL (l : List Item) (b : Int) : Int := fwdB (l.drop (max b 0).toNat) (max b 0).toNat
def ahL (l : List Item) (b : Int) : Int := if b < 1 then -1 else bwdB l (min b l.length).toNat
theorem behL_ev (l : List Item) (hl : l.length ≤ 1000000) (b : Int) (H : Heap) : clD EE (.p (.fn 255)) [vListW l, vI b] H = some (vI (behL l b), none) := by
  rw [clD_body _ _ _ _ _ _ (noP _) fn255]
  have s : ∀ H, clD EE (.p (.fn 290)) [vListW l, vI (max b 0), vI 1] H = some (vI (behL l b), none) := by
    intro H
    rw [clD_body _ _ _ _ _ _ (noP _) fn290]
    obtain ⟨env, h1, h2⟩ := seekF_lp l hl H H.length _ (max b 0).toNat rfl
    have e : ((max b 0).toNat : Int) = max b 0 := by omega
    rw [e] at h1
    simp [St.enter, enumFrom, h1, h2, behL]
  simp [St.enter, enumFrom, s]
theorem ahL_ev (l : List Item) (hl : l.length ≤ 1000000) (b : Int) (H : Heap) : clD EE (.p (.fn 254)) [vListW l, vI b] H = some (vI (ahL l b), none) := by
  rw [clD_body _ _ _ _ _ _ (noP _) fn254]
  have l2 := fun H => listLen_ev l H
  unfold ahL
  by_cases c : b < 1
  · simp [St.enter, enumFrom, c]
  · have w : IntKind.i64.wrap (min b l.length - 1) = min b l.length - 1 := w64 (by omega) (by omega)
    have s : ∀ H, clD EE (.p (.fn 290)) [vListW l, vI (min b l.length - 1), vI (-1)] H = some (vI (bwdB l (min b l.length).toNat), none) := by
      intro H
      rw [clD_body _ _ _ _ _ _ (noP _) fn290]
      obtain ⟨env, h1, h2⟩ := seekB_lp l hl H H.length (min b l.length).toNat (by omega)
      have e : ((min b l.length).toNat : Int) = min b l.length := by omega
      rw [e] at h1
      simp [St.enter, enumFrom, h1, h2]
    simp [St.enter, enumFrom, c, l2, w, s]
def isAt (l : List Item) (f : Int) (t : Int) : Bool := match itemAt l t with | some x => decide (x.f = f) | none => false
theorem isAt_ev (l : List Item) (f t : Int) (p q : Nat) (H : Heap) (h1 : Eng.boxAt H p = some [vListW l]) (h2 : Eng.boxAt H q = some [vI f]) : clD EE (.fn (.func 289) [] [.ptr p 0, .ptr q 0]) [vI t] H = some (vB (isAt l f t), none) := by
  rw [clD_clo, clD_body _ _ _ _ _ _ (noP _) fn289]
  have l3 := fun H => listAt_ev l t H
  have e1 : subs [vListW l] 0 1 = some [vListW l] := rfl
  unfold isAt
  cases h : itemAt l t with
  | none => rw [h] at l3; simp [St.enter, enumFrom, subs, setSubs, h1, h2, l3]
  | some x => rw [h] at l3; simp [St.enter, enumFrom, subs, setSubs, h1, h2, l3]
theorem pIs_ev (l : List Item) (f : Int) (H : Heap) : clD EE (.p (.fn 253)) [vListW l, vI f] H = some (.fn (.func 289) [] [.ptr H.length 0, .ptr (H.length + 1) 0], some (H ++ [.box [vListW l], .box [vI f]], [])) := by
  rw [clD_body _ _ _ _ _ _ (noP _) fn253]
  simp [St.enter, enumFrom, subs, setSubs]
theorem club_ev (l : List Item) (hl : l.length ≤ 1000000) (b : Int) (H : Heap) : clD EE (.p (.fn 196)) [vListW l, vI b] H = some (vB (isAt l 1 (ahL l b)), none) := by
  rw [clD_body _ _ _ _ _ _ (noP _) fn196]
  have a := fun H => ahL_ev l hl b H
  have i := fun H => pIs_ev l 1 H
  have k := fun t => isAt_ev l 1 t H.length (H.length + 1) (H ++ [.box [vListW l], .box [vI 1]]) (by simp) (by simp)
  simp [St.enter, enumFrom, a, i, k]
theorem widow_ev (l : List Item) (hl : l.length ≤ 1000000) (b : Int) (H : Heap) : clD EE (.p (.fn 197)) [vListW l, vI b] H = some (vB (isAt l 2 (behL l b)), none) := by
  rw [clD_body _ _ _ _ _ _ (noP _) fn197]
  have a := fun H => behL_ev l hl b H
  have i := fun H => pIs_ev l 2 H
  have k := fun t => isAt_ev l 2 t H.length (H.length + 1) (H ++ [.box [vListW l], .box [vI 2]]) (by simp) (by simp)
  simp [St.enter, enumFrom, a, i, k]
def paraF (g : Geom) (l : List Item) (b : Int) : Int :=
  match itemAt l b with
  | none => 0
  | some x => if mayV l b = false ∨ forcesX x = true then 0 else
      let n := if x.k = 3 then max x.n 0 else 0
      let n := if isAt l 1 (ahL l b) = true then IntKind.i64.wrap (n + max g.club 0) else n
      if isAt l 2 (behL l b) = true then IntKind.i64.wrap (n + max g.widow 0) else n
theorem paraF_ev (g : Geom) (l : List Item) (hl : l.length ≤ 1000000) (b : Int) (H : Heap) : clD EE (.p (.fn 112)) [vGeom g, vListW l, vI b] H = some (vI (paraF g l b), none) := by
  rw [clD_body _ _ _ _ _ _ (noP _) fn112]
  have l3 := fun H => listAt_ev l b H
  have m := fun H => mayV_ev l hl b H
  have f := fun x H => forces_ev x H
  have cl := fun H => club_ev l hl b H
  have wi := fun H => widow_ev l hl b H
  unfold paraF
  generalize isAt l 1 (ahL l b) = C at *
  generalize isAt l 2 (behL l b) = Wd at *
  cases h : itemAt l b with
  | none => rw [h] at l3; simp [St.enter, enumFrom, subs, setSubs, l3]
  | some x =>
    rw [h] at l3
    cases q : mayV l b with
    | false => rw [q] at m; simp [St.enter, enumFrom, subs, setSubs, l3, m]
    | true =>
      rw [q] at m
      cases u : forcesX x with
      | true =>
        have f1 := fun H => f x H
        rw [u] at f1
        simp [St.enter, enumFrom, subs, setSubs, l3, m, f1, u]
      | false =>
        have f1 := fun H => f x H
        rw [u] at f1
        by_cases k3 : x.k = 3
        · simp only [vItem, k3] at f1
          cases C <;> cases Wd <;> simp [St.enter, enumFrom, subs, setSubs, l3, m, f1, k3, cl, wi, u]
        · cases C <;> cases Wd <;> simp [St.enter, enumFrom, subs, setSubs, l3, m, f1, k3, cl, wi, u]
/-! ### What a torn note costs -/
def tornF (l : List Note) (p : List Piece) : Int :=
  let x := rd p ((p.length : Int) - 1)
  if x.n < 0 ∨ (l.length : Int) ≤ x.n then 0 else penF (rd l x.n).lines (rd l x.n).pens x.to
theorem tornF_ev (j : Job) (p : List Piece) (hp : 0 < p.length) (hp2 : p.length ≤ 1000000) (hn : ∀ n ∈ j.notes, n.lines.length ≤ 1000000) (H : Heap) : clD EE (.p (.fn 115)) [vJob j, vPieces p] H = some (vI (tornF j.notes p), none) := by
  rw [clD_body _ _ _ _ _ _ (noP _) fn115]
  have w : IntKind.i64.wrap ((p.length : Int) - 1) = (p.length : Int) - 1 := w64 (by omega) (by omega)
  have hx := rd_get p ((p.length : Int) - 1) (by omega) (by omega)
  have hix := fun H k => ixs_int H encPiece (k := k) (s := 3) (by omega) hx rfl
  unfold tornF
  simp only [encPiece] at hix
  generalize rd p ((p.length : Int) - 1) = x at *
  simp only [vJob, cGeom, List.cons_append, List.nil_append]
  by_cases c1 : x.n < 0
  · simp [St.enter, enumFrom, subs, setSubs, w, hix, c1]
  · by_cases c2 : (j.notes.length : Int) ≤ x.n
    · simp [St.enter, enumFrom, subs, setSubs, w, hix, c1, c2]
    · have hy := rd_get j.notes x.n (by omega) (by omega)
      have hiy := fun H k => ixs_int H encNote (k := k) (s := 2) (by omega) hy rfl
      have pe := fun H => pen_ev (rd j.notes x.n).lines (rd j.notes x.n).pens x.to H (by have := hn _ (List.mem_of_getElem? hy); omega)
      generalize rd j.notes x.n = y at *
      simp only [encNote] at hiy
      simp only [note, sli] at pe
      simp [St.enter, enumFrom, subs, setSubs, w, hix, c1, c2, hiy, pe]
end Go.EnvOf
