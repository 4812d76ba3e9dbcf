/- The engine, part 14: slices that are made, and literals of slices. -/
import Derived.Test.YtfjgcfloallohaaEng13
namespace Go.Eng
open Go

section
variable {F : Fence} {n : Nat} {P : Program} {o : Oper} {a : Act} {w : World} {Q : Exit → Act → World → Prop}
variable {N : Nat} {G : Gh} {own : Own} {L : Nat → Option Nat} {S S' : St} {next : Act → World → Prop}

/-- Rows of cells. -/
structure RowsP (I : Nat → Nat → Value → Prop) (f : Nat → Value) (s : Nat) (es : List (List PV)) : Prop where
  len : ∀ i (hi : i < es.length), (es[i]).length = s
  rep : ∀ i j (hi : i < es.length) (hj : j < (es[i]).length), PRep I (f (i * s + j)) ((es[i])[j])

structure RowsV (G : Gh) (f : Nat → Value) (s : Nat) (es : List (List V)) : Prop where
  len : ∀ i (hi : i < es.length), (es[i]).length = s
  rep : ∀ i j (hi : i < es.length) (hj : j < (es[i]).length), VRep G (f (i * s + j)) ((es[i])[j])

theorem plains_of {vs : List V} {xs : List PV} (h : plains vs = some xs) {f : Nat → Value} (hf : CRep G f vs) : xs.length = vs.length ∧ ∀ j (hj : j < xs.length), PRep G.I (f j) (xs[j]) :=
  let ⟨h1, h2⟩ := plains_rep (G := G) h
  ⟨h1.symm, h2 f hf⟩

theorem rowsPlain_rep {s : Nat} : ∀ {es : List (List V)} {xs : List (List PV)} {f : Nat → Value}, rowsPlain es = some xs → RowsV G f s es → es.length = xs.length ∧ RowsP G.I f s xs
  | [], xs, f, h, _ => by cases h; exact ⟨rfl, ⟨fun i hi => absurd hi (Nat.not_lt_zero _), fun i _ hi => absurd hi (Nat.not_lt_zero _)⟩⟩
  | e :: r, xs, f, h, hr => by
    simp only [rowsPlain] at h
    split at h
    · rename_i x ys hx hys
      cases h
      have h0 : CRep G f e := fun j hj => by
        have := hr.rep 0 j (by simp) hj
        simpa using this
      obtain ⟨p1, p2⟩ := plains_of hx h0
      have hes : e.length = s := hr.len 0 (by simp)
      have hr' : RowsV G (fun m => f (s + m)) s r := ⟨fun i hi => hr.len (i + 1) (by simpa using hi), fun i j hi hj => by
        have := hr.rep (i + 1) j (by simpa using hi) hj
        have e1 : (i + 1) * s + j = s + (i * s + j) := by rw [Nat.succ_mul]; omega
        rw [e1] at this; exact this⟩
      obtain ⟨q1, q2⟩ := rowsPlain_rep hys hr'
      refine ⟨by simp [q1], ⟨fun i hi => ?_, fun i j hi hj => ?_⟩⟩
      · cases i with
        | zero => simp; omega
        | succ i => exact q2.len i (by simpa using hi)
      · cases i with
        | zero => have := p2 j hj; simpa using this
        | succ i =>
          have := q2.rep i j (by simpa using hi) hj
          have e1 : (i + 1) * s + j = s + (i * s + j) := by rw [Nat.succ_mul]; omega
          rw [e1]; exact this
    · cases h

/-- One row is written anew. -/
theorem RowsV.put {c : Array Value} {es : List (List V)} {s i : Nat} {vs : Array Value} {el : List V} (h : RowsV G (fun m => c.getD m undef) s es) (hsz : c.size = es.length * s) (hi : i < es.length)
    (hv : CRep G (fun j => vs.getD j undef) el) (hl : vs.size = el.length) (hel : el.length = s) :
    RowsV G (fun m => (putAt c (i * s) vs.toList).getD m undef) s (es.set i el) ∧ (putAt c (i * s) vs.toList).size = (es.set i el).length * s := by
  have hcap : i * s + s ≤ c.size := by rw [hsz, ← Nat.succ_mul]; exact Nat.mul_le_mul_right _ (by omega)
  have hfit : i * s + vs.toList.length ≤ c.size := by simp; omega
  refine ⟨⟨fun k hk => ?_, fun k j hk hj => ?_⟩, by rw [putAt_size hfit]; simpa using hsz⟩
  · simp only [List.length_set] at hk
    rw [List.getElem_set]
    split
    · exact hel
    · exact h.len k hk
  · simp only [List.length_set] at hk
    by_cases ek : i = k
    · subst ek
      simp only [List.getElem_set_self] at hj ⊢
      rw [putAt_in hfit _ (by omega) (by simp; omega)]
      have e9 : i * s + j - i * s = j := by omega
      have := hv j hj
      have hlt2 : j < vs.size := by omega
      simpa [e9, Array.getD_eq_getD_getElem?, hlt2] using this
    · have hek : (es.set i el)[k]'(by simpa using hk) = es[k] := List.getElem_set_ne ek _
      simp only [hek] at hj ⊢
      have hjs : j < s := by rw [h.len k hk] at hj; exact hj
      rw [putAt_out hfit _ ?_]
      · exact h.rep k j hk hj
      · have hvl : vs.toList.length = s := by simp; omega
        rw [hvl]
        rcases Nat.lt_or_gt_of_ne ek with hik | hik
        · right
          have : i * s + s ≤ k * s := by rw [← Nat.succ_mul]; exact Nat.mul_le_mul_right _ hik
          omega
        · left
          have : k * s + s ≤ i * s := by rw [← Nat.succ_mul]; exact Nat.mul_le_mul_right _ hik
          omega

theorem fillS_rep (h : Sim N G own L S a w) {s : Nat} : ∀ {ps : List (Nat × Operand)} {qs : List (Nat × Arg)} {cells : Array Value} {es rs : List (List V)}, okElems ps qs = true →
    cells.size = es.length * s → RowsV G (fun j => cells.getD j undef) s es → fillS s es (qs.map fun (i, x) => (i, S.arg x)) = some rs →
    ∃ cells', Instr.fill (fun i => some (i * s, s)) cells (ps.map fun (i, x) => (i, a.eval x)) = some cells' ∧ cells'.size = rs.length * s ∧ RowsV G (fun j => cells'.getD j undef) s rs ∧ rs.length = es.length
  | [], [], cells, es, rs, _, hsz, hr, hf => by cases hf; exact ⟨cells, rfl, hsz, hr, rfl⟩
  | (i, x) :: r, (i', b) :: q, cells, es, rs, hok, hsz, hr, hf => by
    simp only [okElems, Bool.and_eq_true, beq_iff_eq] at hok
    obtain ⟨⟨rfl, hx⟩, hrest⟩ := hok
    simp only [List.map_cons, fillS] at hf
    split at hf
    · rename_i hc
      obtain ⟨hc1, hc2, hc3⟩ := hc
      obtain ⟨c1, c2, c3⟩ := cells_rep (okArg_rep h hx) hc3
      obtain ⟨p1, p2⟩ := hr.put hsz hc1 c2 c1 hc2
      obtain ⟨cells', g1, g2, g3, g4⟩ := fillS_rep h hrest p2 p1 hf
      have hcap : i * s + s ≤ cells.size := by rw [hsz, ← Nat.succ_mul]; exact Nat.mul_le_mul_right _ (by omega)
      refine ⟨cells', ?_, g2, g3, by simpa using g4⟩
      simp only [List.map_cons]
      unfold Instr.fill
      have e1 : (a.eval x).cells.size = s := by rw [c1, hc2]
      have e2 : ¬ (i * s + (a.eval x).cells.size > cells.size) := by omega
      simp only [e1, ne_eq, not_true, decide_false, Bool.false_or]
      rw [e1] at e2
      simp only [e2, decide_false, if_false, Bool.false_eq_true]
      rw [fold_putAt (by omega)]
      exact g1
    · cases hf
  | [], _ :: _, _, _, _, hok, _, _, _ => by simp [okElems] at hok
  | _ :: _, [], _, _, _, hok, _, _, _ => by simp [okElems] at hok

theorem made_get {z : Array Value} {m k : Nat} (h : k < m) (hz : 0 < z.size) : (madeCells z m).getD k undef = z.getD (k % z.size) undef := by
  have h1 : k % z.size < z.size := Nat.mod_lt _ hz
  simp [madeCells, Array.getD_eq_getD_getElem?, h, h1]

theorem made_rep {z : Array Value} {s m : Nat} {zero : List V} (hs : 0 < s) (h1 : z.size = zero.length) (h2 : CRep G (fun j => z.getD j undef) zero) (hl : zero.length = s) :
    RowsV G (fun j => (madeCells z (m * s)).getD j undef) s (List.replicate m zero) := by
  refine ⟨fun i hi => by simpa using hl, fun i j hi hj => ?_⟩
  simp only [List.length_replicate] at hi
  simp only [List.getElem_replicate] at hj ⊢
  have hlt : i * s + j < m * s := by
    have : i * s + s ≤ m * s := by rw [← Nat.succ_mul]; exact Nat.mul_le_mul_right _ hi
    omega
  rw [made_get hlt (by omega), h1, hl]
  have e : (i * s + j) % s = j := by rw [Nat.mul_comm, Nat.mul_add_mod]; exact Nat.mod_eq_of_lt (by omega)
  rw [e]
  exact h2 j hj

theorem run_bslice {t e : TypeId} {len : Nat} {parts : Array (Nat × Value)} {cells : Array Value} {ie : TypeInfo} {z : Value}
    (hu : P.underlying t = some (.slice e)) (hie : P.info? e = some ie) (hz : ie.zero = some z) (hsmall : ¬ len * ie.size > 2 ^ 24) (hp : 0 < ie.size)
    (h : Instr.fill (fun i => some (i * ie.size, ie.size)) (madeCells z.cells (len * ie.size)) parts.toList = some cells) :
    (Instr.buildSlice t len parts).run P w = .ok (.slice (some ⟨w.heap.size, 0, none⟩) len len) (w.alloc (.cells cells e)) := by
  by_cases h0 : len * ie.size = 0
  · have hl : len = 0 := by rcases Nat.mul_eq_zero.1 h0 with h | h <;> omega
    subst hl
    have hm : madeCells z.cells (0 * ie.size) = #[] := by simp [madeCells, Array.range_zero']
    rw [hm] at h
    simp [Instr.buildSlice, run_underlying hu, sizeOf, typeInfo, hie, newRow, Array.range_zero', h]
  · exact run_buildSlice w t e len parts cells ie z hu hie hz hsmall h0 h

theorem slR_some {es : List (List V)} {r : V} (h : slR (some es) = some r) : (es = [] ∧ r = .nils) ∨ (es ≠ [] ∧ ((∃ xs, rowsPlain es = some xs ∧ r = .p (.sl xs)) ∨ r = .vsl es)) := by
  unfold slR at h
  split at h
  · rename_i hh; cases hh; cases h; exact .inl ⟨rfl, rfl⟩
  · rename_i hne hh
    cases hh
    refine .inr ⟨fun e => hne (by rw [e]), ?_⟩
    split at h
    · rename_i xs hx; cases h; exact .inl ⟨xs, hx, rfl⟩
    · cases h; exact .inr rfl
  · rename_i hh; cases hh

theorem ins_bsl (hF : ∀ f, F.fn f) (h : Sim N G own L S a w) (hd : ∀ t, o.dst = some t → t < N) {s len : Nat} {zero : List V} {ps : List (Nat × Arg)} (hok : okIns P o.op (.bsl s len zero ps) = true)
    {cl : ClT} (hev : evIns cl o.dst (.bsl s len zero ps) S = some S') (hn : ∀ a' w', Res N G own w a.defers S' a' w' → next a' w') : o.wpIn F n P a w next Q := by
  obtain ⟨r, hr, hS⟩ := retS_inv hev
  simp only [okIns] at hok
  split at hok
  · rename_i t len' parts hop
    simp only [Bool.and_eq_true, beq_iff_eq, decide_eq_true_eq] at hok
    obtain ⟨⟨rfl, hsm⟩, hk⟩ := hok
    split at hk
    · rename_i e hu
      simp only [Bool.and_eq_true, beq_iff_eq, bne_iff_ne] at hk
      obtain ⟨⟨⟨⟨k1, k2⟩, k3⟩, k4⟩, k5⟩ := hk
      obtain ⟨ie, hie, rfl⟩ := sizeB_some k1
      have hpos : 0 < ie.size := Nat.pos_of_ne_zero k2
      unfold zeroB at k3
      rw [hie] at k3
      simp only at k3
      split at k3
      · rename_i z hzz
        obtain ⟨z1, z2⟩ := okCells_arr (G := G) k3
        cases hf : fillS ie.size (List.replicate len zero) (ps.map fun (i, x) => (i, S.arg x)) with
        | none => rw [hf] at hr; cases hr
        | some rs =>
          rw [hf] at hr
          obtain ⟨cells', g1, g2, g3, g4⟩ := fillS_rep h k5 (cells := madeCells z.cells (len * ie.size)) (by simp [size_madeCells]) (made_rep (m := len) hpos z1 z2 k4) hf
          simp only [List.length_replicate] at g4
          have hrun := run_bslice (w := w) (len := len) (parts := parts.map fun (i, x) => (i, a.eval x)) hu hie hzz (by omega) hpos (by simpa only [Array.toList_map] using g1)
          refine wpIn_of_run hF (by rw [hop]; intro c hc; cases hc) (r := .ok (.value (.slice (some ⟨w.heap.size, 0, none⟩) len len)) (w.alloc (.cells cells' e))) (by simp only [execOp, hop, Sem.run_bind, hrun]; rfl) ?_
          have hsim : Sim N (G.withI w.heap.size cells') own L S a (w.alloc (.cells cells' e)) := h.change (G.le_withI _ _) rfl (fun _ _ _ _ => rfl) (h.wok.allocI cells' e)
          have hle := G.le_withI w.heap.size cells'
          have hI : ∀ i j, i < len → j < ie.size → (G.withI w.heap.size cells').I w.heap.size (0 + i * ie.size + j) (cells'.getD (i * ie.size + j) undef) := by
            intro i j hi hj
            refine .inr ⟨rfl, ?_⟩
            have hlt : i * ie.size + j < cells'.size := by
              have : i * ie.size + ie.size ≤ len * ie.size := by rw [← Nat.succ_mul]; exact Nat.mul_le_mul_right _ hi
              rw [g2, g4]; omega
            simp [Array.getD_eq_getD_getElem?, hlt]
          have hv : SRep (G.withI w.heap.size cells') L (.slice (some ⟨w.heap.size, 0, none⟩) len len) r := by
            rcases slR_some hr with ⟨h1, rfl⟩ | ⟨h1, ⟨xs, hx, rfl⟩ | rfl⟩
            · subst h1
              simp only [List.length_nil] at g4
              subst g4
              exact VRep.nils _
            · obtain ⟨q1, q2⟩ := rowsPlain_rep hx g3
              have hl : xs.length = len := by omega
              have hl0 : 0 < xs.length := by cases rs with | nil => exact absurd rfl h1 | cons _ _ => simp at q1; omega
              rw [← hl]
              exact VRep.p (.sl _ 0 _ ie.size xs (fun i j => cells'.getD (i * ie.size + j) undef) hl0 (Nat.le_refl _) q2.len (fun i j hi hj => hI i j (by omega) hj) (fun i j hi hj => (q2.rep i j hi hj).mono hle.I))
            · have hl0 : 0 < rs.length := List.length_pos_iff.2 h1
              rw [← g4]
              exact VRep.vsl _ 0 _ ie.size rs (fun i j => cells'.getD (i * ie.size + j) undef) hl0 (Nat.le_refl _) g3.len (fun i j hi hj => hI i j (by omega) hj) (fun i j hi hj => (g3.rep i j hi hj).mono hle)
          subst hS
          exact hn _ _ ⟨_, own, L, hsim.put hd hv, Foot.allocI cells' e, put_defers .., .alloc rfl _⟩
      · cases k3
    · cases hk
  · cases hok

theorem bytesB_some {e : TypeId} (h : bytesB P e = true) : ∃ i, P.info? e = some i ∧ i.bytes ≤ 32768 := by
  unfold bytesB at h
  split at h
  · exact ⟨_, by assumption, by simpa using h⟩
  · cases h

/-- A new row, in a new block. -/
theorem newRow_sim (h : Sim N G own L S a w) {w1 : World} (hw1 : w1.heap = w.heap) (h1 : w1.os = w.os) (h2 : w1.tape = w.tape) (h3 : w1.output = w.output) {c : Array Value} {e : TypeId} {s cap : Nat} {es : List (List V)}
    (hsz : c.size = cap * s) (hcap : es.length ≤ cap) (hr : RowsV G (fun m => c.getD m undef) s es) (hone : ∀ e ∈ es, e.all V.oneB = true) :
    ∃ G' own', Sim N G' own' L { S with hp := S.hp ++ [DObj.row s es] } a (w1.alloc (.cells c e)) ∧ Foot G own w G' own' (w1.alloc (.cells c e)) ∧
      VRep G' (.slice (some ⟨w.heap.size, 0, none⟩) es.length cap) (.row S.hp.length es.length 0 es.length) := by
  have hwok : WOK G own S.hp L S.loc w1 := h.wok.frame (by rw [hw1]; exact Nat.le_refl _) (fun b _ => by rw [hw1])
  have hf1 : Foot G own w G own w1 := .frame (by rw [hw1]; exact Nat.le_refl _) (fun b _ => by rw [hw1]) h1 h2 h3
  have hsz1 : w1.heap.size = w.heap.size := by rw [hw1]
  have hn := h.wok.row_new es.length
  have hle := Gh.le_withRow (r := .at w.heap.size s cap) hn
  refine ⟨G.withRow S.hp.length es.length (.at w.heap.size s cap), upd own w1.heap.size (.obj S.hp.length), h.change hle rfl (fun _ _ _ _ => rfl) ?_, hf1.trans (.newOwn _ _ c e hle rfl), ?_⟩
  · refine hwok.newObj (.row s es) _ c e hle rfl ?_ ?_ ?_ ?_ ?_
    · intro i b hi; have := h.wok.dom i b hi; omega
    · intro i t r hi
      simp only [Gh.withRow] at hi
      split at hi
      · rename_i hh; omega
      · have := h.wok.domr i t r hi; omega
    · intro i t r hi hr
      simp only [Gh.withRow] at hr
      rw [if_neg (by omega)] at hr; exact hr
    · intro s' es' hh t r hr
      cases hh
      simp only [Gh.withRow] at hr
      split at hr
      · rename_i hh; omega
      · rw [h.wok.row_new t] at hr; cases hr
    · refine .inr ⟨w1.heap.size, cap, c, by simp [Gh.withRow, hsz1], upd_same .., blockIs_alloc w1 c e, hsz, hcap, hr.len, fun i j hi hj => (hr.rep i j hi hj).mono hle, hone⟩
  · have := VRep.row (G := G.withRow S.hp.length es.length (.at w.heap.size s cap)) S.hp.length es.length 0 es.length w.heap.size s cap (by simp [Gh.withRow]) (by omega) hcap
    simpa using this

theorem rowI_some {S : St} {s : Nat} {es : Option (List (List V))} {r : V} {S1 : St} (h : rowI S s es = some (r, S1)) : ∃ l, es = some l ∧ l.all (okEl s) = true ∧ r = .row S.hp.length l.length 0 l.length ∧ S1 = { S with hp := S.hp ++ [DObj.row s l] } := by
  unfold rowI at h
  split at h
  · split at h
    · cases h; exact ⟨_, rfl, by assumption, rfl, rfl⟩
    · cases h
  · cases h

theorem ins_bsr (hF : ∀ f, F.fn f) (h : Sim N G own L S a w) (hd : ∀ t, o.dst = some t → t < N) {s len : Nat} {zero : List V} {ps : List (Nat × Arg)} (hok : okIns P o.op (.bsr s len zero ps) = true)
    {cl : ClT} (hev : evIns cl o.dst (.bsr s len zero ps) S = some S') (hn : ∀ a' w', Res N G own w a.defers S' a' w' → next a' w') : o.wpIn F n P a w next Q := by
  obtain ⟨r, S1, hr, hS⟩ := retP_inv hev
  simp only [okIns] at hok
  split at hok
  · rename_i t len' parts hop
    simp only [Bool.and_eq_true, beq_iff_eq, decide_eq_true_eq] at hok
    obtain ⟨⟨rfl, hsm⟩, hk⟩ := hok
    split at hk
    · rename_i e hu
      simp only [Bool.and_eq_true, beq_iff_eq, bne_iff_ne] at hk
      obtain ⟨⟨⟨⟨k1, k2⟩, k3⟩, k4⟩, k5⟩ := hk
      obtain ⟨ie, hie, rfl⟩ := sizeB_some k1
      have hpos : 0 < ie.size := Nat.pos_of_ne_zero k2
      unfold zeroB at k3
      rw [hie] at k3
      simp only at k3
      split at k3
      · rename_i z hzz
        obtain ⟨z1, z2⟩ := okCells_arr (G := G) k3
        obtain ⟨rs, hf, hall, rfl, rfl⟩ := rowI_some hr
        obtain ⟨cells', g1, g2, g3, g4⟩ := fillS_rep h k5 (cells := madeCells z.cells (len * ie.size)) (by simp [size_madeCells]) (made_rep (m := len) hpos z1 z2 k4) hf
        simp only [List.length_replicate] at g4
        have hrun := run_bslice (w := w) (len := len) (parts := parts.map fun (i, x) => (i, a.eval x)) hu hie hzz (by omega) hpos (by simpa only [Array.toList_map] using g1)
        obtain ⟨G', own', q1, q2, q3⟩ := newRow_sim h (w1 := w) rfl rfl rfl rfl (c := cells') (e := e) (s := ie.size) (cap := len) (es := rs) (by rw [g2, g4]) (by omega) g3 (fun e he => by
          have := List.all_eq_true.1 hall e he
          simp only [okEl, Bool.and_eq_true] at this
          exact this.2)
        refine wpIn_of_run hF (by rw [hop]; intro c hc; cases hc) (r := .ok (.value (.slice (some ⟨w.heap.size, 0, none⟩) len len)) (w.alloc (.cells cells' e))) (by simp only [execOp, hop, Sem.run_bind, hrun]; rfl) ?_
        subst hS
        rw [g4] at q3
        exact hn _ _ ⟨G', own', L, q1.put hd (.of (by rw [g4]; exact q3)), q2, put_defers .., .alloc rfl _⟩
      · cases k3
    · cases hk
  · cases hok

theorem ins_mks (hF : ∀ f, F.fn f) (h : Sim N G own L S a w) (hd : ∀ t, o.dst = some t → t < N) {s : Nat} {zero : List V} {x : Arg} (hok : okIns P o.op (.mks s zero x) = true)
    {cl : ClT} (hev : evIns cl o.dst (.mks s zero x) S = some S') (hn : ∀ a' w', Res N G own w a.defers S' a' w' → next a' w') : o.wpIn F n P a w next Q := by
  obtain ⟨r, S1, hr, hS⟩ := retP_inv hev
  simp only [okIns] at hok
  split at hok
  · rename_i t l c hop
    simp only [Bool.and_eq_true] at hok
    obtain ⟨⟨h1, h2⟩, hk⟩ := hok
    split at hk
    · rename_i e hu
      simp only [Bool.and_eq_true, beq_iff_eq, bne_iff_ne] at hk
      obtain ⟨⟨⟨⟨⟨k1, k2⟩, k3⟩, k4⟩, k5⟩, k6⟩ := hk
      obtain ⟨ie, hie, rfl⟩ := sizeB_some k1
      have hpos : 0 < ie.size := Nat.pos_of_ne_zero k2
      obtain ⟨ie', hie', hby⟩ := bytesB_some k3
      rw [hie] at hie'; cases hie'
      unfold zeroB at k4
      rw [hie] at k4
      simp only at k4
      split at k4
      · rename_i z hzz
        unfold mksI at hr
        split at hr
        · rename_i kk m hx
          split at hr
          · rename_i hc
            obtain ⟨hc1, hc2⟩ := hc
            cases hr
            have r1 := okArg_rep h h1
            have r2 := okArg_rep h h2
            rw [hx] at r1 r2
            have e1 := rep_int r1
            have e2 := rep_int r2
            obtain ⟨m', rfl⟩ := Int.eq_ofNat_of_zero_le hc1
            simp only [Int.toNat_natCast] at hc2 ⊢
            obtain ⟨z1, z2⟩ := okCells_arr (G := G) k4
            simp only [most] at hc2
            have hb : (ie.bytes : Int) * (m' : Int) ≤ 281474976710656 := by
              have : ie.bytes * m' ≤ 32768 * 4294967296 := Nat.mul_le_mul hby (by omega)
              have h' : ((ie.bytes * m' : Nat) : Int) ≤ 281474976710656 := by omega
              rwa [Int.natCast_mul] at h'
            have hrun := run_make (P := P) w t e ie z hu hie hzz kk kk (m' : Int) (m' : Int) (by omega) (Int.le_refl _) hb (by omega)
            simp only [Int.toNat_natCast] at hrun
            have hrows : RowsV G (fun j => (madeCells z.cells (m' * ie.size)).getD j undef) ie.size (List.replicate m' zero) := made_rep hpos z1 z2 k5
            obtain ⟨G', own', q1, q2, q3⟩ := newRow_sim h (w1 := w) rfl rfl rfl rfl (e := e) (s := ie.size) (cap := m') (es := List.replicate m' zero) (by simp [size_madeCells]) (by simp) hrows (fun e he => by rw [(List.mem_replicate.1 he).2]; exact k6)
            simp only [List.length_replicate] at q3
            refine wpIn_of_run hF (by rw [hop]; intro c hc; cases hc) (r := .ok (.value (.slice (some ⟨w.heap.size, 0, none⟩) m' m')) (w.alloc (.cells (madeCells z.cells (m' * ie.size)) e))) ?_ ?_
            · simp only [execOp, hop, e1, e2, Sem.run_bind, hrun]; rfl
            · subst hS
              exact hn _ _ ⟨G', own', L, q1.put hd (.of q3), q2, put_defers .., .alloc rfl _⟩
          · cases hr
        · cases hr
      · cases k4
    · cases hk
  · cases hok

theorem pz_map {zero : List PV} {cs : List Value} (h : okCells cs (zero.map fun x => match x with | .sl [] => V.nils | x => .p x) = true) : cs.length = zero.length ∧ ∀ j (hj : j < zero.length), PRep G.I (cs.getD j undef) (zero[j]) := by
  obtain ⟨h1, h2⟩ := okCells_rep (G := G) h
  refine ⟨by simpa using h1, fun j hj => ?_⟩
  have := h2 j (by simpa using hj)
  simp only [List.getElem_map] at this
  generalize cs.getD j undef = z at this ⊢
  split at this
  · rename_i hh
    rw [hh]
    cases this with | nils ad => exact .sl0 ad 0
  · cases this with | p hp => exact hp

theorem ins_mkz (hF : ∀ f, F.fn f) (h : Sim N G own L S a w) (hd : ∀ t, o.dst = some t → t < N) {s : Nat} {zero : List PV} {x : Arg} (hok : okIns P o.op (.mkz s zero x) = true)
    {cl : ClT} (hev : evIns cl o.dst (.mkz s zero x) S = some S') (hn : ∀ a' w', Res N G own w a.defers S' a' w' → next a' w') : o.wpIn F n P a w next Q := by
  have hev' : retS S o.dst (mkzV zero (S.arg x)) = some S' := hev
  obtain ⟨r, hr, hS⟩ := retS_inv hev'
  simp only [okIns] at hok
  split at hok
  · rename_i t l c hop
    simp only [Bool.and_eq_true] at hok
    obtain ⟨⟨h1, h2⟩, hk⟩ := hok
    split at hk
    · rename_i e hu
      simp only [Bool.and_eq_true, beq_iff_eq, bne_iff_ne] at hk
      obtain ⟨⟨⟨⟨k1, k2⟩, k3⟩, k4⟩, k5⟩ := hk
      obtain ⟨ie, hie, rfl⟩ := sizeB_some k1
      have hpos : 0 < ie.size := Nat.pos_of_ne_zero k2
      obtain ⟨ie', hie', hby⟩ := bytesB_some k3
      rw [hie] at hie'; cases hie'
      unfold pzeroB at k4
      rw [hie] at k4
      simp only at k4
      split at k4
      · rename_i z hzz
        unfold mkzV at hr
        split at hr
        · rename_i kk m hx
          split at hr
          · rename_i hc
            obtain ⟨hc1, hc2⟩ := hc
            cases hr
            have r1 := okArg_rep h h1
            have r2 := okArg_rep h h2
            rw [hx] at r1 r2
            have e1 := rep_int r1
            have e2 := rep_int r2
            obtain ⟨m', rfl⟩ := Int.eq_ofNat_of_zero_le hc1
            simp only [Int.toNat_natCast] at hc2 hS
            obtain ⟨z1, z2⟩ := pz_map (G := G) k4
            simp only [most] at hc2
            have hb : (ie.bytes : Int) * (m' : Int) ≤ 281474976710656 := by
              have : ie.bytes * m' ≤ 32768 * 4294967296 := Nat.mul_le_mul hby (by omega)
              have h' : ((ie.bytes * m' : Nat) : Int) ≤ 281474976710656 := by omega
              rwa [Int.natCast_mul] at h'
            have hrun := run_make (P := P) w t e ie z hu hie hzz kk kk (m' : Int) (m' : Int) (by omega) (Int.le_refl _) hb (by omega)
            simp only [Int.toNat_natCast] at hrun
            have hle := G.le_withI w.heap.size (madeCells z.cells (m' * ie.size))
            have hzs : z.cells.size = ie.size := by rw [← k5, ← z1]; simp
            refine wpIn_of_run hF (by rw [hop]; intro c hc; cases hc) (r := .ok (.value (.slice (some ⟨w.heap.size, 0, none⟩) m' m')) (w.alloc (.cells (madeCells z.cells (m' * ie.size)) e))) ?_ ?_
            · simp only [execOp, hop, e1, e2, Sem.run_bind, hrun]; rfl
            · have hsim : Sim N (G.withI w.heap.size (madeCells z.cells (m' * ie.size))) own L S a (w.alloc (.cells (madeCells z.cells (m' * ie.size)) e)) := h.change hle rfl (fun _ _ _ _ => rfl) (h.wok.allocI _ e)
              have hv : SRep (G.withI w.heap.size (madeCells z.cells (m' * ie.size))) L (.slice (some ⟨w.heap.size, 0, none⟩) m' m') (.p (.sl (List.replicate m' zero))) := by
                by_cases hm0 : m' = 0
                · subst hm0; exact VRep.p (.sl0 _ _)
                · have key : PRep (G.withI w.heap.size (madeCells z.cells (m' * ie.size))).I (.slice (some ⟨w.heap.size, 0, none⟩) (List.replicate m' zero).length m') (.sl (List.replicate m' zero)) := by
                    refine .sl w.heap.size 0 m' ie.size _ (fun i j => (madeCells z.cells (m' * ie.size)).getD (i * ie.size + j) undef) (by simp; omega) (by simp) (fun i hi => by simpa using k5) (fun i j hi hj => ?_) (fun i j hi hj => ?_)
                    · simp only [List.length_replicate] at hi
                      refine .inr ⟨rfl, ?_⟩
                      have hlt : i * ie.size + j < (madeCells z.cells (m' * ie.size)).size := by
                        have : i * ie.size + ie.size ≤ m' * ie.size := by rw [← Nat.succ_mul]; exact Nat.mul_le_mul_right _ hi
                        simp [size_madeCells]; omega
                      simp only [Nat.zero_add]
                      exact arr_get hlt
                    · simp only [List.length_replicate] at hi
                      simp only [List.getElem_replicate] at hj ⊢
                      have hlt : i * ie.size + j < m' * ie.size := by
                        have : i * ie.size + ie.size ≤ m' * ie.size := by rw [← Nat.succ_mul]; exact Nat.mul_le_mul_right _ hi
                        omega
                      rw [made_get hlt (by omega), hzs]
                      have e9 : (i * ie.size + j) % ie.size = j := by rw [Nat.mul_comm, Nat.mul_add_mod]; exact Nat.mod_eq_of_lt (by omega)
                      rw [e9]
                      have := (z2 j hj).mono hle.I
                      simpa [List.getD_eq_getElem?_getD, Array.getD_eq_getD_getElem?] using this
                  simp only [List.length_replicate] at key
                  exact .p key
              subst hS
              exact hn _ _ ⟨_, own, L, hsim.put hd hv, Foot.allocI _ e, put_defers .., .alloc rfl _⟩
          · cases hr
        · cases hr
      · cases k4
    · cases hk
  · cases hok
end
end Go.Eng
