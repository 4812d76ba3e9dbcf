/- The program's functions and the document's, evaluated. -/
import Derived.Test.YtddnebpblclpfaaGreatText7
set_option linter.unusedSimpArgs false
set_option linter.unusedVariables false
/- What a column costs. -/
namespace Go.EnvOf
open Go Go.Eng
set_option maxRecDepth 100000
abbrev cFcts (f : Fcts) : List V := [vI f.notes, vI f.floats, vI f.room, vB f.last, vB f.over, vI f.set_.how, vI f.set_.ord, vI f.set_.by_, vI f.set_.of_, vI f.set_.left]
abbrev cColm (c : Colm) : List V := [vI c.k, vI c.frm, vI c.to, vPieces c.notes, sli c.top, sli c.bot]
abbrev cStt (s : Stt) : List V := [vI s.at_, vI s.col, vI s.note, vI s.line, vI s.h.a, vI s.h.b, vI s.h.c]
section
variable (j : Job) (H : Heap)
theorem cost1_ev (f : Fcts) (hf : f.set_.of_ ≤ 9223372036854775807) (p q : Nat) (h1 : Eng.boxAt H p = some (cFcts f)) (h2 : Eng.boxAt H q = some (cJobW j)) :
    clD EE (.fn (.func 109) [] [.ptr p 0, .ptr q 0]) [] H = some (vI (badG f.set_ j.g.grid f.last), none) := by
  rw [clD_clo, clD_body _ _ _ _ _ _ (noP _) fn109]
  have b := fun H => gsetBad_ev f.set_ j.g.grid f.last hf H
  simp only [cJobW, cGeom, List.cons_append, List.nil_append] at h2
  simp [St.enter, enumFrom, subs, setSubs, h1, h2, b]
theorem cost2_ev (hl : j.items.length ≤ 1000000) (c : Colm) (q w r : Nat) (h2 : Eng.boxAt H q = some (cJobW j)) (h3 : Eng.boxAt H w = some [vW j]) (h4 : Eng.boxAt H r = some (cColm c)) :
    clD EE (.fn (.func 111) [] [.ptr q 0, .ptr w 0, .ptr r 0]) [] H = some (vI (paraF j.g j.items c.to), none) := by
  rw [clD_clo, clD_body _ _ _ _ _ _ (noP _) fn111]
  have b := fun H => paraF_ev j.g j.items hl c.to H
  have l := fun H => wList_ev j H
  have e : subs [vW j] 0 1 = some [vW j] := rfl
  simp only [vGeom, cGeom] at b
  simp only [cJobW, cGeom, List.cons_append, List.nil_append] at h2
  simp [St.enter, enumFrom, subs, setSubs, h2, h3, h4, b, l]
theorem cost3_ev (q : Nat) (h2 : Eng.boxAt H q = some (cJobW j)) : clD EE (.fn (.func 113) [] [.ptr q 0]) [] H = some (vI j.g.spare, none) := by
  rw [clD_clo, clD_body _ _ _ _ _ _ (noP _) fn113]
  simp only [cJobW, cGeom, List.cons_append, List.nil_append] at h2
  simp [St.enter, enumFrom, subs, setSubs, h2]
theorem cost4_ev (hn : ∀ n ∈ j.notes, n.lines.length ≤ 1000000) (c : Colm) (hc : 0 < c.notes.length) (hc2 : c.notes.length ≤ 1000000) (q r : Nat) (h2 : Eng.boxAt H q = some (cJobW j)) (h4 : Eng.boxAt H r = some (cColm c)) :
    clD EE (.fn (.func 114) [] [.ptr q 0, .ptr r 0]) [] H = some (vI (W64 (j.g.split + tornF j.notes c.notes)), none) := by
  rw [clD_clo, clD_body _ _ _ _ _ _ (noP _) fn114]
  have b := fun H => tornF_ev j c.notes hc hc2 hn H
  simp only [vJob, cGeom, List.cons_append, List.nil_append] at b
  simp only [cJobW, cGeom, List.cons_append, List.nil_append] at h2
  unfold W64
  simp [St.enter, enumFrom, subs, setSubs, h2, h4, b]
theorem cost5_ev (o : okW j) (t : Stt) (q w r : Nat) (h2 : Eng.boxAt H q = some (cJobW j)) (h3 : Eng.boxAt H w = some [vW j]) (h4 : Eng.boxAt H r = some (cStt t)) :
    clD EE (.fn (.func 116) [] [.ptr q 0, .ptr w 0, .ptr r 0]) [] H = some (vI (W64 (j.g.defer * sumC (waitsS j t))), none) := by
  rw [clD_clo, clD_body _ _ _ _ _ _ (noP _) fn116]
  have b := fun H => stWaits_ev j o t H
  have s := fun H => sum_ev (waitsS j t) H
  have e : subs [vW j] 0 1 = some [vW j] := rfl
  simp only [cJobW, cGeom, List.cons_append, List.nil_append] at h2
  unfold W64
  generalize sumC (waitsS j t) = z at *
  simp [St.enter, enumFrom, subs, setSubs, h2, h3, h4, b, s]
end
/-- The parts of what a column costs. -/
def partsC (j : Job) (s : Stt) (c : Colm) : List Int :=
  (if c.k = 1 ∧ (factsC j s c).over = false then [badG (factsC j s c).set_ j.g.grid (factsC j s c).last] else []) ++
  (if c.k = 1 then [paraF j.g j.items c.to] else []) ++
  (if c.k = 1 then [] else [j.g.spare]) ++
  (if 0 < c.notes.length ∧ 0 < (nextS j s c).line then [W64 (j.g.split + tornF j.notes c.notes)] else []) ++
  [W64 (j.g.defer * sumC (waitsS j (nextS j s c)))]
def costC (j : Job) (s : Stt) (c : Colm) : Int × Int := if rightS j s = true then costOf (factsC j s c).over (partsC j s c) else (0, 0)
theorem upV_split (x y : List PV) (r : List (List PV)) : upV (x :: y :: r) = upV [x] ++ upV (y :: r) := rfl
theorem strT_bd {t : Tot} (h : fieldsT t = true) (o : Int) : strT t o ≤ 1125899906842624 := by
  unfold fieldsT fairL at h
  simp at h
  unfold strT
  (repeat' split) <;> omega
theorem setC_of (j : Job) (s : Stt) (c : Colm) : (factsC j s c).set_.of_ ≤ 9223372036854775807 := by
  have z : ∀ t h l, (gsetOf t h l).of_ ≤ 9223372036854775807 := by
    intro t h l
    unfold gsetOf
    by_cases r : rightG t h = true
    · have bd := rightG_bd r
      have f : fieldsT t = true := by unfold rightG at r; simp at r; exact r.1.1
      have sb := strT_bd f (ordT t)
      rw [if_pos r]
      (repeat' split) <;> simp only [zeroG] <;> omega
    · rw [if_neg r]; simp [zeroG]
  unfold factsC
  split
  · simp only
    split
    · exact z _ _ _
    · simp [zeroG]
  · simp [zeroF, zeroG]
theorem cost_ev (j : Job) (w : okW j) (hf : ∀ x ∈ j.items, fairI x) (s : Stt) (c : Colm) (c1 : c.notes.length ≤ 1000000) (c2 : c.top.length ≤ 1000000) (c3 : c.bot.length ≤ 1000000) (H : Heap) :
    clD EE (.p (.fn 41)) [vW j, vStt s, vColm c] H = some (vCost (costC j s c).1 (costC j s c).2, none) := by
  rw [clD_body _ _ _ _ _ _ (noP _) fn41]
  have r := fun H => stRight_ev j w s H
  have pl := fun H => plain_ev j H
  have fa := fun H => facts_ev j w hf s c c1 c2 c3 H
  have nx := fun H => stNext_ev j w s c c1 c2 c3 H
  unfold costC
  have e : subs [vW j] 0 1 = some [vW j] := rfl
  cases b : rightS j s with
  | false =>
    rw [b] at r
    simp [St.enter, enumFrom, subs, setSubs, r]
  | true =>
    rw [b] at r
    have k1 := fun H p q => cost1_ev j H (factsC j s c) (setC_of j s c) p q
    have k2 := fun H p q r => cost2_ev j H w.n1 c p q r
    have k3 := fun H p => cost3_ev j H p
    have k4 := fun h H p q => cost4_ev j H w.lines c h c1 p q
    have k5 := fun H p q r => cost5_ev j H w (nextS j s c) p q r
    have po : partsC j s c = (if c.k = 1 ∧ (factsC j s c).over = false then [badG (factsC j s c).set_ j.g.grid (factsC j s c).last] else []) ++
      (if c.k = 1 then [paraF j.g j.items c.to] else []) ++ (if c.k = 1 then [] else [j.g.spare]) ++
      (if 0 < c.notes.length ∧ 0 < (nextS j s c).line then [W64 (j.g.split + tornF j.notes c.notes)] else []) ++ [W64 (j.g.defer * sumC (waitsS j (nextS j s c)))] := rfl
    generalize badG (factsC j s c).set_ j.g.grid (factsC j s c).last = v1 at *
    generalize paraF j.g j.items c.to = v2 at *
    generalize W64 (j.g.split + tornF j.notes c.notes) = v4 at *
    generalize W64 (j.g.defer * sumC (waitsS j (nextS j s c))) = v5 at *
    generalize factsC j s c = F at *
    generalize nextS j s c = N at *
    generalize partsC j s c = P at *
    have K1 := fun T => k1 (H ++ (DObj.box [vW j] :: DObj.box [vI c.k, vI c.frm, vI c.to, vPieces c.notes, sli c.top, sli c.bot] :: DObj.box [vI F.notes, vI F.floats, vI F.room, vB F.last, vB F.over, vI F.set_.how, vI F.set_.ord, vI F.set_.by_, vI F.set_.of_, vI F.set_.left] :: DObj.box (cJobW j) :: DObj.box [vI N.at_, vI N.col, vI N.note, vI N.line, vI N.h.a, vI N.h.b, vI N.h.c] :: T)) (H.length + 2) (H.length + 3) (by simp) (by simp)
    have K2 := fun T => k2 (H ++ (DObj.box [vW j] :: DObj.box [vI c.k, vI c.frm, vI c.to, vPieces c.notes, sli c.top, sli c.bot] :: DObj.box [vI F.notes, vI F.floats, vI F.room, vB F.last, vB F.over, vI F.set_.how, vI F.set_.ord, vI F.set_.by_, vI F.set_.of_, vI F.set_.left] :: DObj.box (cJobW j) :: DObj.box [vI N.at_, vI N.col, vI N.note, vI N.line, vI N.h.a, vI N.h.b, vI N.h.c] :: T)) (H.length + 3) H.length (H.length + 1) (by simp) (by simp) (by simp)
    have K3 := fun T => k3 (H ++ (DObj.box [vW j] :: DObj.box [vI c.k, vI c.frm, vI c.to, vPieces c.notes, sli c.top, sli c.bot] :: DObj.box [vI F.notes, vI F.floats, vI F.room, vB F.last, vB F.over, vI F.set_.how, vI F.set_.ord, vI F.set_.by_, vI F.set_.of_, vI F.set_.left] :: DObj.box (cJobW j) :: DObj.box [vI N.at_, vI N.col, vI N.note, vI N.line, vI N.h.a, vI N.h.b, vI N.h.c] :: T)) (H.length + 3) (by simp)
    have K4 := fun h T => k4 h (H ++ (DObj.box [vW j] :: DObj.box [vI c.k, vI c.frm, vI c.to, vPieces c.notes, sli c.top, sli c.bot] :: DObj.box [vI F.notes, vI F.floats, vI F.room, vB F.last, vB F.over, vI F.set_.how, vI F.set_.ord, vI F.set_.by_, vI F.set_.of_, vI F.set_.left] :: DObj.box (cJobW j) :: DObj.box [vI N.at_, vI N.col, vI N.note, vI N.line, vI N.h.a, vI N.h.b, vI N.h.c] :: T)) (H.length + 3) (H.length + 1) (by simp) (by simp)
    have K5 := fun T => k5 (H ++ (DObj.box [vW j] :: DObj.box [vI c.k, vI c.frm, vI c.to, vPieces c.notes, sli c.top, sli c.bot] :: DObj.box [vI F.notes, vI F.floats, vI F.room, vB F.last, vB F.over, vI F.set_.how, vI F.set_.ord, vI F.set_.by_, vI F.set_.of_, vI F.set_.left] :: DObj.box (cJobW j) :: DObj.box [vI N.at_, vI N.col, vI N.note, vI N.line, vI N.h.a, vI N.h.b, vI N.h.c] :: T)) (H.length + 3) H.length (H.length + 4) (by simp) (by simp) (by simp)
    have CS := fun (P' : List Int) (hl : P'.length ≤ 1000000) => costOf_ev (H ++ (DObj.box [vW j] :: DObj.box [vI c.k, vI c.frm, vI c.to, vPieces c.notes, sli c.top, sli c.bot] :: DObj.box [vI F.notes, vI F.floats, vI F.room, vB F.last, vB F.over, vI F.set_.how, vI F.set_.ord, vI F.set_.by_, vI F.set_.of_, vI F.set_.left] :: DObj.box (cJobW j) :: DObj.box [vI N.at_, vI N.col, vI N.note, vI N.line, vI N.h.a, vI N.h.b, vI N.h.c] :: [DObj.row 1 (upV (P'.map encI))])) F.over P' hl (H.length + 5) (by simp [Go.Eng.rowAt])
    clear k1 k2 k3 k4 k5
    simp only [vJob, cJobW, cGeom, List.cons_append, List.nil_append] at pl K1 K2 K3 K4 K5 CS
    have w1 : IntKind.i64.wrap 1 = 1 := by decide
    have w2 : IntKind.i64.wrap 2 = 2 := by decide
    have w3 : IntKind.i64.wrap 3 = 3 := by decide
    have w4 : IntKind.i64.wrap 4 = 4 := by decide
    have w5 : IntKind.i64.wrap 5 = 5 := by decide
    have m1 : 1 < most := by decide
    have m2 : 2 < most := by decide
    have m3 : 3 < most := by decide
    have m4 : 4 < most := by decide
    have m5 : 5 < most := by decide
    by_cases q1 : c.k = 1
    · have fa1 := fa
      have nx1 := nx
      simp only [vColm, q1] at fa1 nx1
      simp only [q1] at K1 K2 K3 K4 K5 CS
      cases ov : F.over with
      | true =>
        simp only [vFcts, ov] at fa1
        simp only [ov] at K1 K2 K3 K4 K5 CS
        by_cases n0 : 0 < c.notes.length
        · have K4' := K4 n0
          by_cases n1 : 0 < N.line
          · have cs := CS [v2, v4, v5] (by simp)
            have eP : P = [v2, v4, v5] := by rw [po]; simp [q1, ov, n0, n1]
            subst eP
            generalize costOf true [v2, v4, v5] = Q at *
            simp only [List.length_cons, List.length_nil, List.map_cons, List.map_nil, Nat.zero_add, Nat.reduceAdd, encI, upV_split] at cs
            simp [St.enter, enumFrom, subs, setSubs, r, pl, fa1, nx1, q1, ov, n0, n1, e, lp41_0, evD_loop, ixsI, ixsV, w1, w2, w3, w4, w5, m1, m2, m3, m4, m5, K1, K2, K3, K4', K5, cs]
          · have cs := CS [v2, v5] (by simp)
            have eP : P = [v2, v5] := by rw [po]; simp [q1, ov, n0, n1]
            subst eP
            generalize costOf true [v2, v5] = Q at *
            simp only [List.length_cons, List.length_nil, List.map_cons, List.map_nil, Nat.zero_add, Nat.reduceAdd, encI, upV_split] at cs
            simp [St.enter, enumFrom, subs, setSubs, r, pl, fa1, nx1, q1, ov, n0, n1, e, lp41_0, evD_loop, ixsI, ixsV, w1, w2, w3, w4, w5, m1, m2, m3, m4, m5, K1, K2, K3, K4', K5, cs]
        · have cs := CS [v2, v5] (by simp)
          have eP : P = [v2, v5] := by rw [po]; simp [q1, ov, n0]
          subst eP
          generalize costOf true [v2, v5] = Q at *
          simp only [List.length_cons, List.length_nil, List.map_cons, List.map_nil, Nat.zero_add, Nat.reduceAdd, encI, upV_split] at cs
          simp [St.enter, enumFrom, subs, setSubs, r, pl, fa1, nx1, q1, ov, n0, e, lp41_0, evD_loop, ixsI, ixsV, w1, w2, w3, w4, w5, m1, m2, m3, m4, m5, K1, K2, K3, K5, cs]
      | false =>
        simp only [vFcts, ov] at fa1
        simp only [ov] at K1 K2 K3 K4 K5 CS
        by_cases n0 : 0 < c.notes.length
        · have K4' := K4 n0
          by_cases n1 : 0 < N.line
          · have cs := CS [v1, v2, v4, v5] (by simp)
            have eP : P = [v1, v2, v4, v5] := by rw [po]; simp [q1, ov, n0, n1]
            subst eP
            generalize costOf false [v1, v2, v4, v5] = Q at *
            simp only [List.length_cons, List.length_nil, List.map_cons, List.map_nil, Nat.zero_add, Nat.reduceAdd, encI, upV_split] at cs
            simp [St.enter, enumFrom, subs, setSubs, r, pl, fa1, nx1, q1, ov, n0, n1, e, lp41_0, evD_loop, ixsI, ixsV, w1, w2, w3, w4, w5, m1, m2, m3, m4, m5, K1, K2, K3, K4', K5, cs]
          · have cs := CS [v1, v2, v5] (by simp)
            have eP : P = [v1, v2, v5] := by rw [po]; simp [q1, ov, n0, n1]
            subst eP
            generalize costOf false [v1, v2, v5] = Q at *
            simp only [List.length_cons, List.length_nil, List.map_cons, List.map_nil, Nat.zero_add, Nat.reduceAdd, encI, upV_split] at cs
            simp [St.enter, enumFrom, subs, setSubs, r, pl, fa1, nx1, q1, ov, n0, n1, e, lp41_0, evD_loop, ixsI, ixsV, w1, w2, w3, w4, w5, m1, m2, m3, m4, m5, K1, K2, K3, K4', K5, cs]
        · have cs := CS [v1, v2, v5] (by simp)
          have eP : P = [v1, v2, v5] := by rw [po]; simp [q1, ov, n0]
          subst eP
          generalize costOf false [v1, v2, v5] = Q at *
          simp only [List.length_cons, List.length_nil, List.map_cons, List.map_nil, Nat.zero_add, Nat.reduceAdd, encI, upV_split] at cs
          simp [St.enter, enumFrom, subs, setSubs, r, pl, fa1, nx1, q1, ov, n0, e, lp41_0, evD_loop, ixsI, ixsV, w1, w2, w3, w4, w5, m1, m2, m3, m4, m5, K1, K2, K3, K5, cs]
    · by_cases n0 : 0 < c.notes.length
      · have K4' := K4 n0
        by_cases n1 : 0 < N.line
        · have cs := CS [j.g.spare, v4, v5] (by simp)
          have eP : P = [j.g.spare, v4, v5] := by rw [po]; simp [q1, n0, n1]
          subst eP
          generalize costOf F.over [j.g.spare, v4, v5] = Q at *
          simp only [List.length_cons, List.length_nil, List.map_cons, List.map_nil, Nat.zero_add, Nat.reduceAdd, encI, upV_split] at cs
          simp [St.enter, enumFrom, subs, setSubs, r, pl, fa, nx, q1, n0, n1, e, lp41_0, evD_loop, ixsI, ixsV, w1, w2, w3, w4, w5, m1, m2, m3, m4, m5, K1, K2, K3, K4', K5, cs]
        · have cs := CS [j.g.spare, v5] (by simp)
          have eP : P = [j.g.spare, v5] := by rw [po]; simp [q1, n0, n1]
          subst eP
          generalize costOf F.over [j.g.spare, v5] = Q at *
          simp only [List.length_cons, List.length_nil, List.map_cons, List.map_nil, Nat.zero_add, Nat.reduceAdd, encI, upV_split] at cs
          simp [St.enter, enumFrom, subs, setSubs, r, pl, fa, nx, q1, n0, n1, e, lp41_0, evD_loop, ixsI, ixsV, w1, w2, w3, w4, w5, m1, m2, m3, m4, m5, K1, K2, K3, K4', K5, cs]
      · have cs := CS [j.g.spare, v5] (by simp)
        have eP : P = [j.g.spare, v5] := by rw [po]; simp [q1, n0]
        subst eP
        generalize costOf F.over [j.g.spare, v5] = Q at *
        simp only [List.length_cons, List.length_nil, List.map_cons, List.map_nil, Nat.zero_add, Nat.reduceAdd, encI, upV_split] at cs
        simp [St.enter, enumFrom, subs, setSubs, r, pl, fa, nx, q1, n0, e, lp41_0, evD_loop, ixsI, ixsV, w1, w2, w3, w4, w5, m1, m2, m3, m4, m5, K1, K2, K3, K5, cs]
end Go.EnvOf

/- The law of full columns. -/
namespace Go.EnvOf
open Go Go.Eng
set_option maxRecDepth 100000
theorem columnFull_ev (j : Job) (hj : jobI j) (s : Stt) (c : Colm) : clD EE (.p (.fn 7)) [vJob j, vStt s, vColm c] [] = some (.p (.bool true), none) := by
  rw [clD_body _ _ _ _ _ _ (noP _) fn7]
  have l1 := fun H => large_ev j H
  have l2 := fun H => largeC_ev c H
  have aw := fun H => say40_ev H
  simp only [vJob, cGeom, List.cons_append, List.nil_append] at l1
  cases b1 : largeF j with
  | true => simp [St.enter, enumFrom, subs, setSubs, l1, b1, aw]
  | false =>
    cases b2 : badC c with
    | true => simp [St.enter, enumFrom, subs, setSubs, l1, b1, l2, b2, aw]
    | false =>
      have sm := small_of b1
      have ok := okJob_of hj sm
      have sms := small_snap sm
      have sc := smCol_of b2
      have okS := okJob_of (jobI_snap hj) sms
      have hw := stNew_z j ok okS (fun n hn => by have := sms.each n hn; omega)
      have hx := fun H => rstNew_ev j ok H
      by_cases h : (checkF j).1 = 0
      · have r := (right_iff j).1 h
        have w := okW_of r sms
        have hf := snap_fair r
        have n1 := sc.n1
        have n2 := sc.n2
        have n3 := sc.n3
        have k1 := fun H => cost_ev (snapG j) w hf s c (by omega) (by omega) (by omega) H
        have k2 := fun H => facts_ev (snapG j) w hf s c (by omega) (by omega) (by omega) H
        simp only [if_pos h] at hw
        have e1 : (costC (snapG j) s c).1 = if (factsC (snapG j) s c).over = true then 1 else 0 := by
          unfold costC
          by_cases q : rightS (snapG j) s = true
          · rw [if_pos q, costOf_over]
          · rw [if_neg q]; unfold factsC; rw [if_neg q]; rfl
        have e2 : 0 ≤ (costC (snapG j) s c).2 := by
          unfold costC
          split
          · exact costOf_sum _ _
          · exact Int.le_refl _
        generalize costC (snapG j) s c = Q at *
        generalize factsC (snapG j) s c = F at *
        generalize snapG j = J at *
        simp only [vJob, cJobW, cGeom, List.cons_append, List.nil_append] at hw
        cases ov : F.over with
        | true =>
          rw [ov] at e1
          simp only [if_true] at e1
          simp [St.enter, enumFrom, subs, setSubs, fldvV, solN, sd, l1, b1, l2, b2, aw, hw, k1, k2, ov, e1, e2]
        | false =>
          rw [ov] at e1
          simp only [Bool.false_eq_true, if_false] at e1
          simp [St.enter, enumFrom, subs, setSubs, fldvV, solN, sd, l1, b1, l2, b2, aw, hw, k1, k2, ov, e1, e2]
      · simp only [if_neg h] at hw hx
        simp only [vJob, cGeom, List.cons_append, List.nil_append] at hw hx
        simp [St.enter, enumFrom, subs, setSubs, fldvV, solN, sd, l1, b1, l2, b2, aw, hw, hx]
end Go.EnvOf
