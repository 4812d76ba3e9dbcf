/- The program's functions and the document's, evaluated. -/
import Derived.Test.YtpibjnnbploadaaGreatText8
import Derived.Test.YtpibjnnbploadaaGreatText7
set_option linter.unusedSimpArgs false
set_option linter.unusedVariables false
namespace Go.EnvOf
open Go Go.Eng
set_option maxRecDepth 100000
abbrev cAsk (j : Job) (s : Stt) (c : Colm) : List V := vW j :: (cStt s ++ cColm c ++ cJobW j)
abbrev vAsk (j : Job) (s : Stt) (c : Colm) : V := .agg (cAsk j s c)
section
variable (j : Job) (w : wfJ j) (s : Stt) (c : Colm)
theorem q0bh (H : Heap) : clD EE (.p (.fn 258)) [vAsk j s c] H = some (vB (decide (s.at_ = j.items.length)), none) := by
 rw [q000 _ _ _ _ _ _ (noP _) fn258]
 have wl := fun H => q03s j H
 have ll := fun H => q00o j.items H
 simp only [vAsk, cAsk, cStt, cColm, cJobW, cGeom, List.cons_append, List.nil_append]
 simp [St.enter, enumFrom, subs, setSubs, wl, ll]
theorem q0bi (H : Heap) : clD EE (.p (.fn 266)) [vAsk j s c] H = some (vB (decide (c.to ≠ s.at_)), none) := by
 rw [q000 _ _ _ _ _ _ (noP _) fn266]
 simp only [vAsk, cAsk, cStt, cColm, cJobW, cGeom, List.cons_append, List.nil_append]
 simp [St.enter, enumFrom, subs, setSubs]
include w in
theorem q0lv (H : Heap) : clD EE (.p (.fn 259)) [vAsk j s c] H = some (vB (!flushedS j s), none) := by
 rw [q000 _ _ _ _ _ _ (noP _) fn259]
 have fl := fun H => q06p j w.w s H
 simp only [vAsk, cAsk, cStt, cColm, cJobW, cGeom, List.cons_append, List.nil_append]
 simp [St.enter, enumFrom, subs, setSubs, fl]
include w in
theorem q0lw (H : Heap) : clD EE (.p (.fn 260)) [vAsk j s c] H = some (vB (!(brkF j.items s.at_).contains c.to), none) := by
 rw [q000 _ _ _ _ _ _ (noP _) fn260]
 have wl := fun H => q03s j H
 have br := fun H => q0lc j.items w.w.n1 s.at_ H
 have hl : (brkF j.items s.at_).length ≤ 1000000 := by
  unfold brkF brkN
  rw [List.length_map]
  have := List.length_filter_le (fun (m : Nat) => decide ((m : Int) ≤ forceF j.items s.at_) && mayN j.items m) (List.range' (pos s.at_ + 1) (j.items.length - pos s.at_))
  rw [List.length_range'] at this
  have := w.w.n1
  omega
 have hi := fun H => q0lu (brkF j.items s.at_) c.to hl H
 generalize brkF j.items s.at_ = B at *
 simp only [vAsk, cAsk, cStt, cColm, cJobW, cGeom, List.cons_append, List.nil_append]
 simp [St.enter, enumFrom, subs, setSubs, wl, br, hi]
include w in
theorem q0sb (H : Heap) : clD EE (.p (.fn 261)) [vAsk j s c] H = some (vB (!mayPc j.notes (spotS j s c.to) c.notes), none) := by
 rw [q000 _ _ _ _ _ _ (noP _) fn261]
 have sp := fun H => q044 j w.w s c.to H
 have my := fun H => q07r j.notes (spotS j s c.to) (q070 j w s _) c.notes H
 generalize spotS j s c.to = q at *
 simp only [vAsk, cAsk, cStt, cColm, cJobW, cGeom, List.cons_append, List.nil_append]
 simp [St.enter, enumFrom, subs, setSubs, sp, my]
include w in
theorem q0h8 (c2 : c.top.length ≤ 1000000) (c3 : c.bot.length ≤ 1000000) (to : Int) (H : Heap) : clD EE (.p (.fn 264)) [vAsk j s c, vI to] H = some (vB (setF j s c to), none) := by
 rw [q000 _ _ _ _ _ _ (noP _) fn264]
 have o1 := fun H => of_ev j.floats c.top H w.w.n3 c2
 have o2 := fun H => of_ev j.floats c.bot H w.w.n3 c3
 have a1 := fun x y H => q0r3 x y H
 have n1 := fun x H => q0gl j.floats x c.top H w.w.n3 c2
 have n2 := fun x H => q0gl j.floats x c.bot H w.w.n3 c3
 have mp := fun H => q0a3 j H
 have hd := fun H => q05c j.items j.floats to H
 change ∀ H, clD EE _ _ H = some (vC (aheadF j to), none) at hd
 have re := fun H => in_ev (headsC j s c) (aheadF j to) H
 unfold setF
 unfold headsC at *
 generalize ofL j.floats c.top = x1 at *
 generalize ofL j.floats c.bot = x2 at *
 generalize hm : addC s.h x1 = m1 at *
 generalize hn : addC m1 x2 = m2 at *
 simp only [vAsk, cAsk, cStt, cColm, cJobW, cGeom, List.cons_append, List.nil_append]
 cases e1 : nextQ j.floats s.h c.top with
 | false =>
   have n1' := fun H => n1 s.h H
   rw [e1] at n1'
   simp [St.enter, enumFrom, subs, setSubs, o1, o2, a1, hm, hn, n1']
 | true =>
   have n1' := fun H => n1 s.h H
   rw [e1] at n1'
   cases e2 : nextQ j.floats m1 c.bot with
   | false =>
     have n2' := fun H => n2 m1 H
     rw [e2] at n2'
     simp [St.enter, enumFrom, subs, setSubs, o1, o2, a1, hm, hn, n1', n2']
   | true =>
     have n2' := fun H => n2 m1 H
     rw [e2] at n2'
     simp [St.enter, enumFrom, subs, setSubs, o1, o2, a1, hm, hn, n1', n2', mp, hd, re]
include w in
theorem q0p5 (c2 : c.top.length ≤ 1000000) (c3 : c.bot.length ≤ 1000000) (H : Heap) : clD EE (.p (.fn 263)) [vAsk j s c] H = some (vB (!(setF j s c c.to && fitsC j c)), none) := by
 rw [q000 _ _ _ _ _ _ (noP _) fn263]
 have st := fun H => q0h8 j w s c c2 c3 c.to H
 have ft := fun H => q0ni j.g j.floats (c.top, c.bot) H c2 c3
 unfold fitsC
 simp only [vAsk, cAsk, cStt, cColm, cJobW, vGeom, cGeom, List.cons_append, List.nil_append] at st ft ⊢
 generalize (fitT j.g j.floats c.top && fitB j.g j.floats c.bot) = F at *
 cases e : setF j s c c.to with
 | false => rw [e] at st; simp [St.enter, enumFrom, subs, setSubs, st]
 | true => rw [e] at st; simp [St.enter, enumFrom, subs, setSubs, st, ft]
include w in
theorem q0ep (hf : ∀ x ∈ j.items, fairI x) (c1 : c.notes.length ≤ 1000000) (c2 : c.top.length ≤ 1000000) (c3 : c.bot.length ≤ 1000000) (H : Heap) : clD EE (.p (.fn 125)) [vAsk j s c] H = some (vB (factsC j s c).over, none) := by
 rw [q000 _ _ _ _ _ _ (noP _) fn125]
 have fc := fun H => q0oo j w.w hf s c c1 c2 c3 H
 generalize factsC j s c = F at *
 simp only [vAsk, cAsk, cStt, cColm, cJobW, cGeom, List.cons_append, List.nil_append]
 simp [St.enter, enumFrom, subs, setSubs, fldvV, fc]
theorem q0p6 (H : Heap) : clD EE (.p (.fn 257)) [vAsk j s c] H = some (vB (decide (c.notes ≠ [])), none) := by
 rw [q000 _ _ _ _ _ _ (noP _) fn257]
 have e : (0 < (c.notes.length : Int)) = (c.notes ≠ []) := by simp [List.length_pos_iff]
 simp only [vAsk, cAsk, cStt, cColm, cJobW, cGeom, List.cons_append, List.nil_append]
 cases hn : c.notes <;> simp [St.enter, enumFrom, subs, setSubs, hn]
include w in
theorem q0lx (H : Heap) : clD EE (.p (.fn 270)) [vAsk j s c] H = some (vB (mayPc j.notes (freshS (spotS j s s.at_)) c.notes), none) := by
 rw [q000 _ _ _ _ _ _ (noP _) fn270]
 have sp := fun H => q044 j w.w s s.at_ H
 have my := fun H => q07r j.notes (freshS (spotS j s s.at_)) (q08e j w s _) c.notes H
 generalize spotS j s s.at_ = q at *
 unfold freshS at *
 simp only [vAsk, cAsk, cStt, cColm, cJobW, cGeom, List.cons_append, List.nil_append]
 simp [St.enter, enumFrom, subs, setSubs, sp, my]
include w in
theorem q0ly (hf : ∀ x ∈ j.items, fairI x) (c1 : c.notes.length ≤ 1000000) (c2 : c.top.length ≤ 1000000) (c3 : c.bot.length ≤ 1000000) (H : Heap) :
  clD EE (.p (.fn 267)) [vAsk j s c] H = some (vB (decide (c.top = [] ∨ 8 < c.top.length ∨ c.bot ≠ [] ∨ setF j s c s.at_ = false ∨ (factsC j s c).over = true)), none) := by
 rw [q000 _ _ _ _ _ _ (noP _) fn267]
 have st := fun H => q0h8 j w s c c2 c3 s.at_ H
 have ov := fun H => q0ep j w s c hf c1 c2 c3 H
 simp only [vAsk, cAsk, cStt, cColm, cJobW, vGeom, cGeom, List.cons_append, List.nil_append] at st ov ⊢
 generalize (factsC j s c).over = F at *
 by_cases t0 : c.top = []
 ·simp only [t0] at *
  simp [St.enter, enumFrom, subs, setSubs]
 ·have t1 : ¬ (c.top.length : Int) = 0 := by
   have := List.length_pos_iff.2 t0; omega
  have t1' := eq_false t0
  by_cases t2 : 8 < c.top.length
  ·have t3 : (8 : Int) < c.top.length := by omega
   simp [St.enter, enumFrom, subs, setSubs, t1, t3, t0, t2]
  ·have t3 : ¬ (8 : Int) < c.top.length := by omega
   by_cases b0 : c.bot = []
   ·have b1 : ¬ 0 < c.bot.length := by rw [b0]; simp
    have b0 := eq_true b0
    cases e : setF j s c s.at_ with
    | false => rw [e] at st; simp [St.enter, enumFrom, subs, setSubs, t1, t3, t0, t2, b1, b0, st]
    | true =>
      rw [e] at st
      simp [St.enter, enumFrom, subs, setSubs, t1, t3, t0, t2, b1, b0, st, ov]
   ·have b1 : 0 < c.bot.length := List.length_pos_iff.2 b0
    simp [St.enter, enumFrom, subs, setSubs, t1, t3, t0, t2, b1, b0]
theorem q0sc (H : Heap) : clD EE (.p (.fn 268)) [vAsk j s c] H = some (vB (decide (c.to ≠ s.at_ ∨ s.at_ ≠ j.items.length)), none) := by
 rw [q000 _ _ _ _ _ _ (noP _) fn268]
 have m := fun H => q0bi j s c H
 have e := fun H => q0bh j s c H
 simp only [vAsk, cAsk, cStt, cColm, cJobW, vGeom, cGeom, List.cons_append, List.nil_append] at m e ⊢
 by_cases h1 : c.to = s.at_
 ·have h1 := eq_true h1
  by_cases h2 : s.at_ = j.items.length
  ·have h2 := eq_true h2
   simp [St.enter, enumFrom, subs, setSubs, m, e, h1, h2]
  ·simp [St.enter, enumFrom, subs, setSubs, m, e, h1, h2]
 ·simp [St.enter, enumFrom, subs, setSubs, m, e, h1]
include w in
theorem q0p7 (H : Heap) : clD EE (.p (.fn 269)) [vAsk j s c] H = some (vB (decide (c.notes = [] ∨ mayPc j.notes (freshS (spotS j s s.at_)) c.notes = false)), none) := by
 rw [q000 _ _ _ _ _ _ (noP _) fn269]
 have l := fun H => q0lx j w s c H
 simp only [vAsk, cAsk, cStt, cColm, cJobW, vGeom, cGeom, List.cons_append, List.nil_append] at l ⊢
 by_cases n0 : c.notes = []
 ·simp only [n0] at *
  simp [St.enter, enumFrom, subs, setSubs]
 ·have n1 : ¬ (c.notes.length : Int) = 0 := by
   have := List.length_pos_iff.2 n0; omega
  cases e : mayPc j.notes (freshS (spotS j s s.at_)) c.notes <;> rw [e] at l <;> simp [St.enter, enumFrom, subs, setSubs, n0, n1, l]
theorem q0p8 (c2 : c.top.length ≤ 1000000) (c3 : c.bot.length ≤ 1000000) (H : Heap) : clD EE (.p (.fn 271)) [vAsk j s c] H = some (vB (decide (c.top ≠ [] ∨ c.bot ≠ [])), none) := by
 rw [q000 _ _ _ _ _ _ (noP _) fn271]
 have w1 : IntKind.i64.wrap ((c.top.length : Int) + c.bot.length) = c.top.length + c.bot.length := w64 (by omega) (by omega)
 have e : decide (0 < (c.top.length : Int) + c.bot.length) = decide (c.top ≠ [] ∨ c.bot ≠ []) := by
  congr 1
  rw [eq_iff_iff]
  constructor
  ·intro h
   by_cases a : c.top = []
   ·right; intro b; rw [a, b] at h; simp at h
   ·exact .inl a
  ·rintro (h | h) <;> have := List.length_pos_iff.2 h <;> omega
 simp only [vAsk, cAsk, cStt, cColm, cJobW, vGeom, cGeom, List.cons_append, List.nil_append]
 rw [← e]
 simp [St.enter, enumFrom, subs, setSubs, w1]
end
def ruE (x : Int × Nat) : List PV := [.int .i64 x.1, .fn x.2]
def rules1 : List (Int × Nat) := [(19, 258), (18, 259), (14, 260), (15, 261), (16, 263)]
def rules2 : List (Int × Nat) := [(19, 266), (15, 257), (16, 267)]
def rules3 : List (Int × Nat) := [(19, 268), (15, 269), (16, 271)]
def rulesM : List (V × V) := [(vI 1, .p (.sl (rules1.map ruE))), (vI 2, .p (.sl (rules2.map ruE))), (vI 3, .p (.sl (rules3.map ruE)))]
theorem q0lz (H : Heap) : clD EE (.p (.fn 124)) [] H = some (.map H.length, some (H ++ [.map rulesM], [])) := by
 rw [q000 _ _ _ _ _ _ (noP _) fn124]
 have m0 : ∀ es, mapAt (H ++ [.map es]) H.length = some es := fun es => by simp [mapAt]
 simp [St.enter, enumFrom, subs, setSubs, m0, stmE, stmR, setM, findM, eqKey, keyB, rulesM, rules1, rules2, rules3, ruE]
def rulesOf (k : Int) : List (Int × Nat) := if k = 1 then rules1 else if k = 2 then rules2 else if k = 3 then rules3 else []
theorem q0ub (k : Int) : lkmK .nils true (findM none (vI k) rulesM 0) = some (.tup [if k = 1 ∨ k = 2 ∨ k = 3 then .p (.sl ((rulesOf k).map ruE)) else .nils, vB (decide (k = 1 ∨ k = 2 ∨ k = 3))]) := by
 unfold rulesOf
 by_cases k1 : k = 1
 ·simp [rulesM, findM, eqKey, lkmK, k1]
 ·by_cases k2 : k = 2
  ·simp [rulesM, findM, eqKey, lkmK, k2]
  ·by_cases k3 : k = 3
   ·simp [rulesM, findM, eqKey, lkmK, k3]
   ·simp [rulesM, findM, eqKey, lkmK, k1, k2, k3]
def firstE : List (Int × Bool) → Int
 | [] => 0
 | x :: r => if x.2 = true then x.1 else firstE r
def ckLoc (j : Job) (s : Stt) (c : Colm) : List (Nat × List V) := [(4, cStt s), (5, cColm c), (9, cAsk j s c)]
def cqE (j : Job) (s : Stt) (c : Colm) (L : List (Int × Nat)) (H : Heap) (B : Nat) (i : Nat) : St := ⟨[(0, vW j), (4, .lptr 4 0), (5, .lptr 5 0), (9, .lptr 9 0), (47, .p (.sl (L.map ruE))), (48, vI L.length), (49, vI i)], ckLoc j s c, H, B, []⟩
def cqX (j : Job) (s : Stt) (c : Colm) (L : List (Int × Nat)) (H : Heap) (B : Nat) : Ex × St := (.exit 0, ⟨[(0, vW j), (4, .lptr 4 0), (5, .lptr 5 0), (9, .lptr 9 0), (47, .p (.sl (L.map ruE))), (48, vI L.length), (49, vI L.length), (50, vB false)], ckLoc j s c, H, B, []⟩)
def cqS (H : Heap) (B : Nat) (f : Nat → Bool) (_ : Unit) (_ : Nat) (x : Int × Nat) : Unit ⊕ (Ex × St) := if f x.2 = true then .inr (.ret, ⟨[(6, vI x.1)], [], H, B, []⟩) else .inl ()
theorem q0m0 (H : Heap) (B : Nat) (f : Nat → Bool) (fin : Ex × St) : ∀ (L : List (Int × Nat)) (i : Nat), (∀ x ∈ L, x.1 ≠ 0) → rng (cqS H B f) (fun _ => fin) () i L = if firstE (L.map fun x => (x.1, f x.2)) = 0 then fin else (.ret, ⟨[(6, vI (firstE (L.map fun x => (x.1, f x.2))))], [], H, B, []⟩)
 | [], _, _ => by simp [rng, firstE]
 | x :: r, i, h => by
   simp only [rng, cqS, List.map_cons, firstE]
   by_cases q : f x.2 = true
   ·rw [if_pos q]; simp only [if_pos q]; rw [if_neg (h x (by simp))]
   ·rw [if_neg q]; simp only [if_neg q]; exact q0m0 H B f fin r (i + 1) fun y hy => h y (by simp [hy])
theorem cq_lp (j : Job) (s : Stt) (c : Colm) (L : List (Int × Nat)) (hn : L.length ≤ 1000) (hz : ∀ x ∈ L, x.1 ≠ 0) (f : Nat → Bool) (H : Heap) (B : Nat) (hL : ∀ x ∈ L, clD EE (.p (.fn x.2)) [vAsk j s c] H = some (vB (f x.2), none)) :
  evD EE lp35_0 (cqE j s c L H B 0) = some (if firstE (L.map fun x => (x.1, f x.2)) = 0 then cqX j s c L H B else (.ret, ⟨[(6, vI (firstE (L.map fun x => (x.1, f x.2))))], [], H, B, []⟩)) := by
 rw [← q0m0 H B f (cqX j s c L H B) L 0 hz]
 unfold lp35_0
 refine q00w L (fun (_ : Unit) i => cqE j s c L H B i) (fun _ _ => True) (cqS H B f) (fun _ => cqX j s c L H B) (fun _ _ => rfl) ?_ ?_ () 0 trivial (Nat.zero_le _)
 ·rintro _ i x - hx
  have hlt := (List.getElem?_eq_some_iff.1 hx).1
  have w1 : IntKind.i64.wrap ((i : Int) + 1) = ((i + 1 : Nat) : Int) := w64 (by omega) (by omega)
  have hix := fun H k => q00a H ruE (k := k) (s := 2) hx rfl
  simp only [ruE] at hix
  have h1 := hL x (List.mem_of_getElem? hx)
  simp only [vAsk, cAsk, cStt, cColm, cJobW, cGeom, List.cons_append, List.nil_append] at h1
  unfold cqS
  cases q : f x.2 with
  | true =>
    rw [q] at h1
    simp [cqE, ckLoc, hlt, hix, subs, setSubs, h1]
  | false =>
    rw [q] at h1
    simp [cqE, ckLoc, hlt, hix, subs, setSubs, h1, w1]
 ·rintro _ -
  simp [cqE, cqX, ckLoc]
section
variable (j : Job) (w : wfJ j) (hf : ∀ x ∈ j.items, fairI x) (s : Stt) (c : Colm) (c1 : c.notes.length ≤ 1000000) (c2 : c.top.length ≤ 1000000) (c3 : c.bot.length ≤ 1000000)
def ruleB (n : Nat) : Bool :=
 if n = 258 then decide (s.at_ = j.items.length) else if n = 259 then !flushedS j s else if n = 260 then !(brkF j.items s.at_).contains c.to
 else if n = 261 then !mayPc j.notes (spotS j s c.to) c.notes else if n = 263 then !(setF j s c c.to && fitsC j c)
 else if n = 266 then decide (c.to ≠ s.at_) else if n = 257 then decide (c.notes ≠ [])
 else if n = 267 then decide (c.top = [] ∨ 8 < c.top.length ∨ c.bot ≠ [] ∨ setF j s c s.at_ = false ∨ (factsC j s c).over = true)
 else if n = 268 then decide (c.to ≠ s.at_ ∨ s.at_ ≠ j.items.length)
 else if n = 269 then decide (c.notes = [] ∨ mayPc j.notes (freshS (spotS j s s.at_)) c.notes = false) else decide (c.top ≠ [] ∨ c.bot ≠ [])
include w hf c1 c2 c3 in
theorem q0p9 (k : Int) (H : Heap) : ∀ x ∈ rulesOf k, clD EE (.p (.fn x.2)) [vAsk j s c] H = some (vB (ruleB j s c x.2), none) := by
 have e1 := q0bh j s c H
 have e2 := q0lv j w s c H
 have e3 := q0lw j w s c H
 have e4 := q0sb j w s c H
 have e5 := q0p5 j w s c c2 c3 H
 have e6 := q0bi j s c H
 have e7 := q0p6 j s c H
 have e8 := q0ly j w s c hf c1 c2 c3 H
 have e9 := q0sc j s c H
 have e10 := q0p7 j w s c H
 have e11 := q0p8 j s c c2 c3 H
 intro x hx
 unfold rulesOf at hx
 split at hx
 ·simp only [rules1, List.mem_cons, List.not_mem_nil, or_false] at hx
  rcases hx with rfl | rfl | rfl | rfl | rfl
  ·exact e1
  ·exact e2
  ·exact e3
  ·exact e4
  ·exact e5
 split at hx
 ·simp only [rules2, List.mem_cons, List.not_mem_nil, or_false] at hx
  rcases hx with rfl | rfl | rfl
  ·exact e6
  ·exact e7
  ·exact e8
 split at hx
 ·simp only [rules3, List.mem_cons, List.not_mem_nil, or_false] at hx
  rcases hx with rfl | rfl | rfl
  ·exact e9
  ·exact e10
  ·exact e11
 ·cases hx
theorem q0bj (k : Int) : (rulesOf k).length ≤ 1000 ∧ ∀ x ∈ rulesOf k, x.1 ≠ 0 := by
 unfold rulesOf
 split
 ·simp [rules1]
 split
 ·simp [rules2]
 split
 ·simp [rules3]
 ·simp
def ruleE (k : Int) : Int := firstE ((rulesOf k).map fun x => (x.1, ruleB j s c x.2))
theorem q0eq (h : ¬ (¬ (c.k = 1 ∨ c.k = 2 ∨ c.k = 3) ∨ openS j s = false ∨ c.frm ≠ s.at_)) : (endE j s c = true ∧ ruleE j s c c.k = 19) ∨ (endE j s c = false ∧ ruleE j s c c.k = kindE j s c) := by
 have hk : c.k = 1 ∨ c.k = 2 ∨ c.k = 3 := Decidable.not_not.1 fun q => h (.inl q)
 have ho : openS j s = true := by
  cases q : openS j s with
  | true => rfl
  | false => exact absurd (.inr (.inl q)) h
 have hf : c.frm = s.at_ := Decidable.not_not.1 fun q => h (.inr (.inr q))
 unfold endE
 simp only [decide_eq_true_eq, decide_eq_false_iff_not]
 unfold ruleE rulesOf kindE
 rcases hk with k | k | k
 ·rw [if_pos k, if_pos k]
  by_cases e : s.at_ = j.items.length
  ·exact .inl ⟨.inr (.inr (.inr (.inr (.inl ⟨k, e⟩)))), by simp [rules1, firstE, ruleB, e]⟩
  ·refine .inr ⟨by simp [ho, k, hf, e], ?_⟩
   unfold textE
   cases a1 : flushedS j s <;> cases a2 : (brkF j.items s.at_).contains c.to <;> cases a3 : mayPc j.notes (spotS j s c.to) c.notes <;> cases a4 : setF j s c c.to <;> cases a5 : fitsC j c <;>
    simp only [rules1, List.map_cons, List.map_nil, firstE, ruleB, a1, a2, a3, a4, a5] <;> simp [e]
 ·rw [if_neg (by omega), if_pos k, if_neg (by omega), if_pos k]
  by_cases e : c.to = s.at_
  ·refine .inr ⟨by simp [ho, k, hf, e], ?_⟩
   unfold floatE
   by_cases a1 : c.notes = []
   ·by_cases a2 : c.top = [] ∨ 8 < c.top.length ∨ c.bot ≠ [] ∨ setF j s c s.at_ = false ∨ (factsC j s c).over = true
    ·rw [if_neg (by simpa using a1), if_pos a2]
     have a2 := eq_true a2
     simp only [rules2, List.map_cons, List.map_nil, firstE, ruleB, a2, a1, e]
     simp
    ·rw [if_neg (by simpa using a1), if_neg a2]
     have a2 := eq_false a2
     simp only [rules2, List.map_cons, List.map_nil, firstE, ruleB, a2, a1, e]
     simp
   ·rw [if_pos a1]
    simp [rules2, firstE, ruleB, a1, e]
  ·exact .inl ⟨.inr (.inr (.inr (.inr (.inr (.inl ⟨by omega, e⟩))))), by simp [rules2, firstE, ruleB, e]⟩
 ·rw [if_neg (by omega), if_neg (by omega), if_pos k, if_neg (by omega), if_neg (by omega)]
  by_cases e : c.to = s.at_ ∧ s.at_ = j.items.length
  ·refine .inr ⟨by simp [ho, k, hf, e.1, e.2], ?_⟩
   have e1 := eq_true e.1
   have e2 := eq_true e.2
   unfold noteE
   by_cases a1 : c.notes = [] ∨ mayPc j.notes (freshS (spotS j s s.at_)) c.notes = false
   ·rw [if_pos a1]
    have a1 := eq_true a1
    simp only [rules3, List.map_cons, List.map_nil, firstE, ruleB, a1, ne_eq, e1, e2]
    simp
   ·rw [if_neg a1]
    have a1 := eq_false a1
    by_cases a2 : c.top ≠ [] ∨ c.bot ≠ []
    ·rw [if_pos a2]
     have a2 := eq_true a2
     simp only [rules3, List.map_cons, List.map_nil, firstE, ruleB, a1, a2, e1, e2]
     simp [e1, e2]
    ·rw [if_neg a2]
     have a2 := eq_false a2
     simp only [rules3, List.map_cons, List.map_nil, firstE, ruleB, a1, a2, e1, e2]
     simp [e1, e2]
  ·refine .inl ⟨?_, ?_⟩
   ·by_cases e1 : c.to = s.at_
    ·exact .inr (.inr (.inr (.inr (.inr (.inr ⟨k, fun h => e ⟨e1, h⟩⟩)))))
    ·exact .inr (.inr (.inr (.inr (.inr (.inl ⟨by omega, e1⟩)))))
   ·have e' : (c.to ≠ s.at_ ∨ s.at_ ≠ j.items.length) = True := eq_true (by
     by_cases e1 : c.to = s.at_
     ·exact .inr fun h => e ⟨e1, h⟩
     ·exact .inl e1)
    simp only [rules3, List.map_cons, List.map_nil, firstE, ruleB, e']
    simp
theorem q0fu : checkC j s c = if ¬ (c.k = 1 ∨ c.k = 2 ∨ c.k = 3) ∨ openS j s = false ∨ c.frm ≠ s.at_ then 19 else if ruleE j s c c.k ≠ 0 then ruleE j s c c.k
  else if (factsC j s c).over = true ∧ sameC c ((leastC j s).getD zeroCo) = false then 17 else 0 := by
 by_cases h : ¬ (c.k = 1 ∨ c.k = 2 ∨ c.k = 3) ∨ openS j s = false ∨ c.frm ≠ s.at_
 ·rw [if_pos h]
  unfold checkC
  rw [if_pos]
  unfold endE
  rw [decide_eq_true_eq]
  rcases h with h | h | h
  ·by_cases q : c.k < 1
   ·exact .inr (.inl q)
   ·exact .inr (.inr (.inl (by omega)))
  ·exact .inl h
  ·exact .inr (.inr (.inr (.inl h)))
 ·rw [if_neg h]
  unfold checkC
  rcases q0eq j s c h with ⟨h1, h2⟩ | ⟨h1, h2⟩
  ·rw [if_pos h1, h2, if_pos (by omega)]
  ·rw [if_neg (by rw [h1]; simp), h2]
include w hf c1 c2 c3 in
theorem q0c2 (H : Heap) : clD EE (.p (.fn 35)) [vW j, vStt s, vColm c] H = some (vI (checkC j s c), none) := by
 rw [q000 _ _ _ _ _ _ (noP _) fn35, q0fu]
 have ru := fun H => q0lz H
 have m0 : mapAt (H ++ [.map rulesM]) H.length = some rulesM := by simp [mapAt]
 have lk := q0ub c.k
 have r := fun H => q01a j w.w s H
 have d := fun H => q06k j w.w s H
 have pl := fun H => q03q j H
 simp only [vJob, cGeom, List.cons_append, List.nil_append] at pl
 by_cases k : c.k = 1 ∨ c.k = 2 ∨ c.k = 3
 ·simp only [if_pos k, decide_eq_true k] at lk
  have kk := eq_true k
  cases b1 : rightS j s with
  | false =>
    rw [b1] at r
    have o : openS j s = false := by unfold openS; rw [b1]; rfl
    simp [St.enter, enumFrom, subs, setSubs, ru, m0, lk, r, o]
  | true =>
    rw [b1] at r
    cases b2 : doneS j s with
    | true =>
      rw [b2] at d
      have o : openS j s = false := by unfold openS; rw [b1, b2]; rfl
      simp [St.enter, enumFrom, subs, setSubs, ru, m0, lk, r, d, o]
    | false =>
      rw [b2] at d
      have o : openS j s = true := by unfold openS; rw [b1, b2]; rfl
      by_cases f : c.frm = s.at_
      ·have ff := eq_true f
       have key := cq_lp j s c (rulesOf c.k) (q0bj c.k).1 (q0bj c.k).2 (ruleB j s c) (H ++ [.map rulesM]) H.length (q0p9 j w hf s c c1 c2 c3 c.k _)
       have ov := fun H => q0ep j w s c hf c1 c2 c3 H
       have ls := fun H => q09i j w s H
       have sm := fun H => q0lh c ((leastC j s).getD zeroCo) c1 c2 c3 H
       unfold ruleE
       unfold vOC at ls
       generalize firstE _ = E at *
       generalize rulesOf c.k = L at *
       generalize factsC j s c = F at *
       generalize (leastC j s).getD zeroCo = Z at *
       simp only [vAsk, cAsk, cStt, cColm, cJobW, cGeom, List.cons_append, List.nil_append] at ov
       by_cases e0 : E = 0
       ·rw [if_pos e0] at key
        simp only [cqE, cqX, ckLoc, cAsk, cStt, cColm, cJobW, cGeom, List.cons_append, List.nil_append] at key
        simp at key
        obtain ⟨f1, f2, f3, f4, ovr, f6⟩ := F
        simp only at ov ⊢
        cases ovr with
        | false => simp [St.enter, enumFrom, subs, setSubs, ru, m0, lk, r, d, o, ff, kk, pl, key, e0, ov]
        | true =>
          cases q : sameC c Z <;> rw [q] at sm <;> simp [St.enter, enumFrom, subs, setSubs, ru, m0, lk, r, d, o, ff, kk, pl, key, e0, ov, ls, sm]
       ·rw [if_neg e0] at key
        simp only [cqE, ckLoc, cAsk, cStt, cColm, cJobW, cGeom, List.cons_append, List.nil_append] at key
        simp at key
        simp [St.enter, enumFrom, subs, setSubs, ru, m0, lk, r, d, o, ff, kk, pl, key, e0]
      ·simp [St.enter, enumFrom, subs, setSubs, ru, m0, lk, r, d, o, f]
 ·simp only [if_neg k, decide_eq_false k] at lk
  have kk := eq_false k
  simp [St.enter, enumFrom, subs, setSubs, ru, m0, lk, kk]
end
end Go.EnvOf
namespace Go.EnvOf
open Go Go.Eng
set_option maxRecDepth 100000
theorem q0er (k : Int) (m : Nat) (f : Item → Item) (hf : ∀ x, (f x).k = x.k ∧ (f x).n = x.n) : ∀ (l : List Item) (i n : Nat), refF k m i n (l.map f) = refF k m i n l
 | [], _, _ => rfl
 | x :: r, i, n => by
   simp only [List.map_cons, refF, (hf x).1, (hf x).2, q0er k m f hf r]
theorem dn_eq {n s : Int} (h0 : 0 ≤ n) (h1 : n ≤ 1073741823) (hs : 1 ≤ s) : downG n s = s * (n / s) := by
 have a := Int.emod_nonneg n (show s ≠ 0 by omega)
 have b := Int.emod_add_mul_ediv n s
 have c : 0 ≤ s * (n / s) := Int.mul_nonneg (by omega) (Int.ediv_nonneg h0 (by omega))
 unfold downG downF
 rw [if_neg (by omega)]
 unfold subF
 rw [if_pos (by omega)]
 simp only [orN]
 omega
theorem q0m1 {a b s : Int} (h0 : 0 ≤ a) (h : a ≤ b) (h1 : b ≤ 1073741823) (hs : 1 ≤ s) : downG a s ≤ downG b s := by
 rw [dn_eq h0 (by omega) hs, dn_eq (by omega) h1 hs]
 exact Int.mul_le_mul_of_nonneg_left (Int.ediv_le_ediv (by omega) h) (by omega)
theorem q0m2 {g : Geom} (h : geomF g = 0) : 1 ≤ g.first ∧ g.first ≤ g.high ∧ 0 ≤ g.topMost ∧ 0 ≤ g.botMost ∧ 0 ≤ g.topMany ∧ 0 ≤ g.botMany ∧ g.topMany ≤ 4 ∧ g.botMany ≤ 4 ∧ 0 ≤ g.noteMost := by
 unfold geomF at h
 by_cases q1 : inR 1 8 [g.cols] = false
 ·rw [if_pos q1] at h; omega
 rw [if_neg q1] at h
 by_cases q2 : inR 1 1073741823 [g.wide, g.high] = false
 ·rw [if_pos q2] at h; omega
 rw [if_neg q2] at h
 by_cases q3 : inR 0 1073741823 [g.gap, g.noteMost, g.topMost, g.botMost] = false
 ·rw [if_pos q3] at h; omega
 rw [if_neg q3] at h
 by_cases q4 : inR 0 536870912 [g.rule, g.sep, g.grid] = false
 ·rw [if_pos q4] at h; omega
 rw [if_neg q4] at h
 by_cases q5 : inR 1 g.high [g.first] = false
 ·rw [if_pos q5] at h; omega
 rw [if_neg q5] at h
 by_cases q6 : inR 0 g.first [g.grid] = false
 ·rw [if_pos q6] at h; omega
 rw [if_neg q6] at h
 by_cases q7 : inR 0 4 [g.topMany, g.botMany] = false
 ·rw [if_pos q7] at h; omega
 have a1 := q01t q5 g.first (by simp)
 have a2 := q01t q3 g.topMost (by simp)
 have a3 := q01t q3 g.botMost (by simp)
 have a4 := q01t q7 g.topMany (by simp)
 have a5 := q01t q7 g.botMany (by simp)
 have a6 := q01t q3 g.noteMost (by simp)
 omega
theorem wf_of {j : Job} (r : Right j) (sm : small (snapG j)) : wfJ (snapG j) := by
 have hg := q06j r.g
 have hm := q0m2 r.g
 obtain ⟨f, hf, hk⟩ := q09c j
 have h5 := q03p 5 j.notes.length j.items 0 0 (Nat.zero_le _) r.r5
 have hgr : (snapG j).g.first ≤ (snapG j).g.high ∧ (snapG j).g.high ≤ 4294967296 ∧ 0 ≤ (snapG j).g.first ∧ 0 ≤ (snapG j).g.sep ∧ (snapG j).g.sep ≤ 4294967296 ∧ (snapG j).g.topMany = j.g.topMany ∧ (snapG j).g.botMany = j.g.botMany ∧ (snapG j).g.topMost = j.g.topMost ∧ (snapG j).g.botMost = j.g.botMost := by
  unfold snapG
  split
  ·refine ⟨by omega, by omega, by omega, by omega, by omega, rfl, rfl, rfl, rfl⟩
  ·have b1 := q0m1 (a := j.g.first) (b := j.g.high) (s := j.g.grid) (by omega) (by omega) (by omega) (by omega)
   have b2 := q053 (n := j.g.high) (s := j.g.grid) (by omega) (by omega) (by omega) (by omega)
   have b3 := q053 (n := j.g.first) (s := j.g.grid) (by omega) (by omega) (by omega) (by omega)
   have b4 := q052 (n := j.g.sep) (s := j.g.grid) (by omega) (by omega) (by omega) (by omega)
   exact ⟨b1, b2.2, b3.1, b4.1, b4.2, rfl, rfl, rfl, rfl⟩
 refine ⟨q0u6 r sm, ?_, ?_, ?_, ?_, hgr.2.2.1, ⟨hgr.1, hgr.2.1⟩, ⟨hgr.2.2.2.1, hgr.2.2.2.2.1⟩, ?_, ?_⟩
 ·intro n hn
  unfold snapG at hn
  split at hn
  ·exact (q0h6 (r.notes n hn)).1
  ·obtain ⟨m, hm, rfl⟩ := List.mem_map.1 hn
   have := (q0h6 (r.notes m hm)).1
   simpa [noteG] using this
 ·rw [q0b4, hf]
  unfold begunP
  rw [q0h3 5 f (fun x => (hk x).1)]
  omega
 ·rw [q0ky, hf, q0er 6 _ f hk]
  exact r.r6
 ·intro x hx
  have ht := r.tall x hx
  unfold snapG at hx
  split at hx
  ·rename_i hgr
   have ho := r.floats x hx
   unfold floatOK at ho
   simp only [Bool.and_eq_true, decide_eq_true_eq] at ho
   exact ⟨by omega, by omega, by omega⟩
  ·obtain ⟨y, hy, rfl⟩ := List.mem_map.1 hx
   have ho := r.floats y hy
   unfold floatOK at ho
   simp only [Bool.and_eq_true, decide_eq_true_eq] at ho
   have b := q052 (n := y.h) (s := j.g.grid) (by omega) (by omega) (by omega) (by omega)
   exact ⟨⟨by simp only [floatG]; omega, by simp only [floatG]; omega⟩, by simp only [floatG]; omega, by omega⟩
 ·rw [hgr.2.2.2.2.2.1, hgr.2.2.2.2.2.2.1, hgr.2.2.2.2.2.2.2.1, hgr.2.2.2.2.2.2.2.2]
  omega
 ·rw [q0b5]; omega
end Go.EnvOf
namespace Go.EnvOf
open Go Go.Eng
set_option maxRecDepth 100000
theorem q0c3 (j : Job) (w : wfJ j) (hf : ∀ x ∈ j.items, fairI x) (s : Stt) (c : Colm) (c1 : c.notes.length ≤ 1000000) (c2 : c.top.length ≤ 1000000) (c3 : c.bot.length ≤ 1000000) (H : Heap) :
  clD EE (.p (.fn 37)) [vW j, vStt s, vColm c] H = some (vB (decide (checkC j s c = 0)), none) := by
 rw [q000 _ _ _ _ _ _ (noP _) fn37]
 have k := fun H => q0c2 j w hf s c c1 c2 c3 H
 simp [St.enter, enumFrom, subs, setSubs, k]
theorem q0pa (fs : List Float) (h : fs.length ≤ 100000) (x y : C3) : (takeL fs x y).length ≤ 1000000 := by
 have := q09r fs x y
 unfold takeL
 rw [isort_len]; omega
theorem q0bk {j : Job} (w : wfJ j) {s : Stt} {n : C3} {c : Colm} (h : aloneC j s n = some c) : c.notes.length ≤ 1000000 ∧ c.top.length ≤ 1000000 ∧ c.bot.length ≤ 1000000 := by
 have t := q0pa j.floats w.w.n3 s.h
 unfold aloneC at h
 split at h
 ·cases h; exact ⟨by simp, t _, by simp⟩
 split at h
 ·cases h; exact ⟨by simp, t _, by simp⟩
 split at h
 ·cases h; exact ⟨by simp, t _, by simp⟩
 ·cases h
theorem q09j {l : List Note} {s : Spot} (o : spotB l s) : (leastP l s).length ≤ 1000000 := by
 unfold leastP
 by_cases h : choicesP l s = []
 ·rw [h]; simp
 ·exact q07q o _ (q0b9 h)
theorem q0m3 {j : Job} (w : wfJ j) {s : Stt} {c : Colm} (h : leastC j s = some c) : c.notes.length ≤ 1000000 ∧ c.top.length ≤ 1000000 ∧ c.bot.length ≤ 1000000 := by
 unfold leastC at h
 cases e1 : textC j s with
 | some x =>
   rw [e1] at h
   simp at h; subst h
   unfold textC at e1
   split at e1
   ·cases e1; exact ⟨q09j (q070 j w s _), by simp, by simp⟩
   ·cases e1
 | none =>
   cases e2 : dueC j s with
   | some x =>
     rw [e1, e2] at h
     simp at h; subst h
     unfold dueC at e2
     split at e2
     ·exact q0bk w e2
     ·cases e2
   | none =>
     cases e3 : noteC j s with
     | some x =>
       rw [e1, e2, e3] at h
       simp at h; subst h
       unfold noteC at e3
       split at e3
       ·cases e3; exact ⟨q09j (q08e j w s _), by simp, by simp⟩
       ·cases e3
     | none =>
       rw [e1, e2, e3] at h
       simp at h
       unfold floatC at h
       split at h
       ·exact q0bk w h
       ·cases h
theorem legalLeast_ev (j : Job) (hj : jobI j) (s : Stt) : clD EE (.p (.fn 7)) [vJob j, vStt s] [] = some (.p (.bool true), none) := by
 rw [q000 _ _ _ _ _ _ (noP _) fn7]
 have l1 := fun H => q0o7 j H
 have aw := fun H => q0n4 H
 simp only [vJob, cGeom, List.cons_append, List.nil_append] at l1
 cases b1 : largeF j with
 | true => simp [St.enter, enumFrom, subs, setSubs, l1, b1, aw]
 | false =>
   have sm := q0o5 b1
   have ok := q0e0 hj sm
   have sms := q0i4 sm
   have okS := q0e0 (q0lg hj) sms
   have hw := q0s2 j ok okS (fun n hn => by have := sms.each n hn; omega)
   by_cases h : (checkF j).1 = 0
   ·have r := (q0ay j).1 h
    have w := wf_of r sms
    have hf := q0b3 r
    have ls := fun H => q09i (snapG j) w s H
    have ri := fun H => q01a (snapG j) w.w s H
    have dn := fun H => q06k (snapG j) w.w s H
    simp only [if_pos h] at hw
    simp only [vJob, cJobW, cGeom, List.cons_append, List.nil_append] at hw
    unfold vOC at ls
    cases o : openS (snapG j) s with
    | true =>
      obtain ⟨c, e1, e2, -⟩ := q0ft w o
      obtain ⟨c1, c2, c3⟩ := q0m3 w e1
      have lr := fun H => q0c3 (snapG j) w hf s c c1 c2 c3 H
      rw [e1] at ls
      simp only [e2, decide_true] at lr
      simp [St.enter, enumFrom, subs, setSubs, fldvV, solN, sd, l1, b1, aw, hw, ls, lr]
    | false =>
      rw [q0ir o] at ls
      unfold openS at o
      cases a1 : rightS (snapG j) s with
      | false =>
        rw [a1] at ri
        simp [St.enter, enumFrom, subs, setSubs, fldvV, solN, sd, l1, b1, aw, hw, ls, ri]
      | true =>
        rw [a1] at ri o
        have a2 : doneS (snapG j) s = true := by simpa using o
        rw [a2] at dn
        simp [St.enter, enumFrom, subs, setSubs, fldvV, solN, sd, l1, b1, aw, hw, ls, ri, dn]
   ·simp only [if_neg h] at hw
    simp only [vJob, cGeom, List.cons_append, List.nil_append] at hw
    simp [St.enter, enumFrom, subs, setSubs, fldvV, solN, sd, l1, b1, aw, hw]
end Go.EnvOf
