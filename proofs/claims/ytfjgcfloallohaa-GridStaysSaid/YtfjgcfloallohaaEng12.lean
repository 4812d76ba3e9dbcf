/- The engine, part 12: stores. -/
import Derived.Test.YtfjgcfloallohaaEng11
namespace Go.Eng
open Go

section
variable {F : Fence} {n : Nat} {P : Program} {o : Oper} {a : Act} {w : World} {Q : Exit → Act → World → Prop}
variable {N : Nat} {G : Gh} {own : Own} {L : Nat → Option Nat} {S S' : St} {next : Act → World → Prop}

/-- The cells of a block behind a run of stores. -/
def putAt (c : Array Value) (off : Nat) (vs : List Value) : Array Value := (c.toList.take off ++ vs ++ c.toList.drop (off + vs.length)).toArray

theorem putAt_size {c : Array Value} {off : Nat} {vs : List Value} (h : off + vs.length ≤ c.size) : (putAt c off vs).size = c.size := by simp [putAt]; omega
theorem putAt_in {c : Array Value} {off : Nat} {vs : List Value} (h : off + vs.length ≤ c.size) (j : Nat) (h1 : off ≤ j) (h2 : j - off < vs.length) : (putAt c off vs).getD j undef = vs[j - off] := by
  have : (c.toList.take off ++ vs ++ c.toList.drop (off + vs.length))[j]? = some vs[j - off] := by
    rw [List.getElem?_append_left (by simp; omega), List.getElem?_append_right (by simp; omega)]
    have e : j - (c.toList.take off).length = j - off := by simp; omega
    rw [e]; simp [h2]
  show ((c.toList.take off ++ vs ++ c.toList.drop (off + vs.length)).toArray).getD j undef = _
  rw [Array.getD_eq_getD_getElem?, List.getElem?_toArray, this]; rfl
theorem putAt_out {c : Array Value} {off : Nat} {vs : List Value} (h : off + vs.length ≤ c.size) (j : Nat) (h1 : j < off ∨ off + vs.length ≤ j) : (putAt c off vs).getD j undef = c.getD j undef := by
  have : (c.toList.take off ++ vs ++ c.toList.drop (off + vs.length))[j]? = c[j]? := by
    rcases h1 with h1 | h1
    · rw [List.append_assoc, List.getElem?_append_left (by simp; omega)]
      simp [h1]
    · rw [List.getElem?_append_right (by simp; omega)]
      have e : j - (c.toList.take off ++ vs).length + (off + vs.length) = j := by simp; omega
      simp only [List.getElem?_drop]
      rw [Nat.add_comm, e]; simp
  show ((c.toList.take off ++ vs ++ c.toList.drop (off + vs.length)).toArray).getD j undef = _
  rw [Array.getD_eq_getD_getElem?, List.getElem?_toArray, this, Array.getD_eq_getD_getElem?]

theorem run_stores {b off : Nat} {c : Array Value} (hb : BlockIs w b c) {vs : List Value} (h : off + vs.length ≤ c.size) (h1 : ∀ u ∈ vs, u.oneCell' = true) :
    (storeCells ⟨b, off, none⟩ vs).run P w = .ok () (w.setRow b (putAt c off vs)) := by
  obtain ⟨e, hb⟩ := hb
  exact run_storeCells_at P b off e vs 0 c w hb (by simpa using h) h1

theorem putAt_rep {c : Array Value} {cs cs' xs : List V} {off : Nat} {vs : Array Value} (hc : CRep G (fun j => c.getD j undef) cs) (hsz : c.size = cs.length)
    (hv : CRep G (fun j => vs.getD j undef) xs) (hvs : vs.size = xs.length) (hs : setSubs cs off xs = some cs') :
    (putAt c off vs.toList).size = cs'.length ∧ CRep G (fun j => (putAt c off vs.toList).getD j undef) cs' := by
  have hl := setSubs_len hs
  have hle := (setSubs_some hs).1
  have hle' : off + vs.toList.length ≤ c.size := by simp; omega
  refine ⟨by rw [putAt_size hle']; omega, fun j hj => ?_⟩
  rcases setSubs_get hs j hj with ⟨h1, h2, e⟩ | ⟨h1, h2, e⟩
  · rw [e]
    show VRep G ((putAt c off vs.toList).getD j undef) _
    rw [putAt_in hle' j h1 (by simp; omega)]
    have := hv (j - off) h2
    have hlt : j - off < vs.size := by omega
    simpa [Array.getD_eq_getD_getElem?, hlt] using this
  · rw [e]
    show VRep G ((putAt c off vs.toList).getD j undef) _
    rw [putAt_out hle' j (by simp; omega)]
    exact hc j h2

theorem plains_rep : ∀ {vs : List V} {xs : List PV}, plains vs = some xs → vs.length = xs.length ∧ ∀ f : Nat → Value, CRep G f vs → ∀ j (hj : j < xs.length), PRep G.I (f j) (xs[j])
  | [], xs, h => by cases h; exact ⟨rfl, fun _ _ j hj => absurd hj (Nat.not_lt_zero _)⟩
  | v :: r, xs, h => by
    simp only [plains] at h
    split at h
    · rename_i x ys hx hys
      cases h
      obtain ⟨h1, h2⟩ := plains_rep hys
      refine ⟨by simp [h1], fun f hf j hj => ?_⟩
      cases j with
      | zero =>
        have := hf 0 (by simp)
        simp only [List.getElem_cons_zero] at this ⊢
        generalize f 0 = z at this ⊢
        unfold PV.ofV at hx
        split at hx
        · cases hx; cases this with | p hp => exact hp
        · cases hx
          cases this with | nils ad => exact .sl0 ad 0
        · cases hx
      | succ j => exact h2 (fun k => f (k + 1)) (fun k hk => hf (k + 1) (by simpa using hk)) j (by simpa using hj)
    · cases h

theorem top_row {H : Heap} (h : ∀ i s es, H[i]? = some (DObj.row s es) → ∀ t r, G.rows i t = some r → t ≤ es.length) {id s : Nat} {es : List (List V)} (hi : H[id]? = some (.row s es))
    {s' : Nat} {es' : List (List V)} (hl : es'.length = es.length) : ∀ i s es, (H.set id (DObj.row s' es'))[i]? = some (DObj.row s es) → ∀ t r, G.rows i t = some r → t ≤ es.length := by
  intro i s'' es'' hx t r hr
  by_cases e : i = id
  · subst e
    have hlt : i < H.length := (List.getElem?_eq_some_iff.1 hi).1
    simp [hlt] at hx
    rw [← hx.2, hl]; exact h i s es hi t r hr
  · rw [List.getElem?_set_ne (Ne.symm e)] at hx; exact h i s'' es'' hx t r hr
theorem top_box {H : Heap} (h : ∀ i s es, H[i]? = some (DObj.row s es) → ∀ t r, G.rows i t = some r → t ≤ es.length) {id : Nat} {cs : List V} (hi : H[id]? = some (.box cs))
    {cs' : List V} : ∀ i s es, (H.set id (DObj.box cs'))[i]? = some (DObj.row s es) → ∀ t r, G.rows i t = some r → t ≤ es.length := by
  intro i s'' es'' hx t r hr
  by_cases e : i = id
  · subst e
    have hlt : i < H.length := (List.getElem?_eq_some_iff.1 hi).1
    simp [hlt] at hx
  · rw [List.getElem?_set_ne (Ne.symm e)] at hx; exact h i s'' es'' hx t r hr

theorem st_sim (h : Sim N G own L S a w) {v : Value} {x : V} {vs : Array Value} {xs : List V} (hv : SRep G L v x) (hvs : vs.size = xs.length) (hr : CRep G (fun j => vs.getD j undef) xs)
    (h1 : ∀ u ∈ vs.toList, u.oneCell' = true) (hone : xs.all V.oneB = true) {S1 : St} (hs : stCells S x xs = some S1) :
    ∃ b off w', v = .pointer (some ⟨b, off, none⟩) ∧ (storeCells ⟨b, off, none⟩ vs.toList).run P w = .ok () w' ∧ Sim N G own L S1 a w' ∧ Foot G own w G own w' ∧ Kp S1.base S1.dirty own w w' := by
  unfold stCells at hs
  split at hs
  · rename_i s off
    cases hg : getL S.loc s with
    | none => rw [hg] at hs; cases hs
    | some ds =>
      rw [hg] at hs
      simp only [Option.bind_some] at hs
      split at hs
      · cases hs
      rename_i hemp
      cases hss : setSubs ds off xs with
      | none => rw [hss] at hs; cases hs
      | some ds' =>
        rw [hss] at hs
        cases hs
        obtain ⟨b, hb, rfl⟩ := hv
        rcases h.wok.locs s ds hg with rfl | ⟨b', c, e1, e2, e3, e4, e5⟩
        · simp at hemp
        rw [hb] at e1; cases e1
        have hle := (setSubs_some hss).1
        obtain ⟨p1, p2⟩ := putAt_rep e5 e4 hr hvs hss
        refine ⟨b, off, _, rfl, run_stores e3 (by simp; omega) h1, h.change (.refl G) rfl (fun _ _ _ _ => rfl) ?_, Foot.write e2 _ G (.refl G) rfl, .write e2 (fun id hh => by cases hh) _⟩
        refine h.wok.write e2 _ G (.refl G) rfl _ _ rfl h.wok.dom h.wok.domr h.wok.top (fun i o hi => .inl ⟨hi, by simp⟩) (fun s' cs hc => ?_)
        by_cases e : s' = s
        · subst e
          rw [getL_setL_same] at hc; cases hc
          exact .inr (.inr ⟨b, _, hb, e2, blockIs_setRow e3 _, p1, p2⟩)
        · rw [getL_setL_ne _ e] at hc
          exact .inl ⟨hc, by intro hh; injection hh with hh; exact e hh.symm⟩
  · rename_i id off
    cases hg : boxAt S.hp id with
    | none => rw [hg] at hs; cases hs
    | some ds =>
      rw [hg] at hs
      simp only [Option.bind_some] at hs
      cases hss : setSubs ds off xs with
      | none => rw [hss] at hs; cases hs
      | some ds' =>
        rw [hss] at hs
        cases hs
        cases hv with
        | ptr _ _ b hb =>
          obtain ⟨b', c, e1, e2, e3, e4, e5⟩ := h.wok.obj id _ (boxAt_some hg)
          rw [hb] at e1; cases e1
          have hle := (setSubs_some hss).1
          obtain ⟨p1, p2⟩ := putAt_rep e5 e4 hr hvs hss
          refine ⟨b, off, _, rfl, run_stores e3 (by simp; omega) h1, h.change (.refl G) rfl (fun _ _ _ _ => rfl) ?_, Foot.write e2 _ G (.refl G) rfl, .write e2 (fun id' hh hlt => by cases hh; exact mem_addD.2 (.inl ⟨rfl, hlt⟩)) _⟩
          refine h.wok.write e2 _ G (.refl G) rfl _ _ (by simp) h.wok.dom h.wok.domr (top_box h.wok.top (boxAt_some hg)) (fun i o hi => ?_) (fun s' cs hc => .inl ⟨hc, by simp⟩)
          by_cases e : i = id
          · subst e
            have hlt : i < S.hp.length := (List.getElem?_eq_some_iff.1 (boxAt_some hg)).1
            simp [hlt] at hi
            subst hi
            exact .inr ⟨b, _, hb, e2, blockIs_setRow e3 _, p1, p2⟩
          · simp only [List.getElem?_set_ne (Ne.symm e)] at hi
            exact .inl ⟨hi, by intro hh; injection hh with hh; exact e hh.symm⟩
  · rename_i id tot i j0
    cases hro : rowAt S.hp id with
    | none => rw [hro] at hs; cases hs
    | some p =>
      obtain ⟨s', es⟩ := p
      rw [hro] at hs
      simp only [Option.bind_some] at hs
      split at hs
      · rename_i hc1
        cases he : es[i]? with
        | none => rw [he] at hs; cases hs
        | some el =>
          rw [he] at hs
          simp only [Option.bind_some] at hs
          cases hss : setSubs el j0 xs with
          | none => rw [hss] at hs; cases hs
          | some el' =>
            rw [hss] at hs
            cases hs
            cases hv with
            | rptr _ _ _ _ b s cap hgr =>
              obtain ⟨rfl, c, e2, e3, e4, e5, e6, e7, e8⟩ := row_info h.wok hro (hc1 ▸ hgr)
              have hlt : i < es.length := (List.getElem?_eq_some_iff.1 he).1
              have hget : es[i] = el := (List.getElem?_eq_some_iff.1 he).2
              have hel : el.length = s := by rw [← hget]; exact e6 i hlt
              have hle := (setSubs_some hss).1
              have hel' := setSubs_len hss
              have hcap : i * s + s ≤ c.size := by
                rw [e4, ← Nat.succ_mul]; exact Nat.mul_le_mul_right _ (by omega)
              have hfit : (i * s + j0) + vs.toList.length ≤ c.size := by simp; omega
              refine ⟨b, i * s + j0, _, rfl, run_stores e3 hfit h1, h.change (.refl G) rfl (fun _ _ _ _ => rfl) ?_, Foot.write e2 _ G (.refl G) rfl, .write e2 (fun id' hh hlt => by cases hh; exact mem_addD.2 (.inl ⟨rfl, hlt⟩)) _⟩
              refine h.wok.write e2 _ G (.refl G) rfl _ _ (by simp) h.wok.dom h.wok.domr (top_row h.wok.top (rowAt_some hro) (by simp)) (fun i' o hi => ?_) (fun s' cs hc => .inl ⟨hc, by simp⟩)
              by_cases e : i' = id
              · subst e
                have hlt' : i' < S.hp.length := (List.getElem?_eq_some_iff.1 (rowAt_some hro)).1
                simp [hlt'] at hi
                subst hi
                refine .inr (.inr ⟨b, cap, _, by simpa [hc1] using hgr, e2, blockIs_setRow e3 _, by rw [putAt_size hfit]; exact e4, by simpa using e5, ?_, ?_, ?_⟩)
                · intro k hk
                  simp only [List.length_set] at hk
                  rw [List.getElem_set]
                  split
                  · omega
                  · exact e6 k hk
                · intro k j hk hj
                  simp only [List.length_set] at hk
                  by_cases ek : i = k
                  · subst ek
                    simp only [List.getElem_set_self] at hj ⊢
                    rcases setSubs_get hss j hj with ⟨q1, q2, q3⟩ | ⟨q1, q2, q3⟩
                    · rw [q3, putAt_in hfit _ (by omega) (by simp; omega)]
                      have e9 : i * s + j - (i * s + j0) = j - j0 := by omega
                      have := hr (j - j0) q2
                      have hlt2 : j - j0 < vs.size := by omega
                      simpa [e9, Array.getD_eq_getD_getElem?, hlt2] using this
                    · rw [q3, putAt_out hfit _ (by simp; omega)]
                      have hj2 : j < (es[i]).length := by rw [hget]; exact q2
                      have := e7 i j hlt hj2
                      simpa only [hget] using this
                  · have hek : (es.set i el')[k]'(by simpa using hk) = es[k] := List.getElem_set_ne ek _
                    simp only [hek] at hj ⊢
                    have hjs : j < s := by rw [e6 k hk] at hj; exact hj
                    rw [putAt_out hfit _ ?_]
                    · exact e7 k j hk hj
                    · have hvl : vs.toList.length = xs.length := by simp; omega
                      rw [hvl]
                      rcases Nat.lt_or_gt_of_ne ek with hik | hik
                      · right
                        have : i * s + s ≤ k * s := by rw [← Nat.succ_mul]; exact Nat.mul_le_mul_right _ hik
                        omega
                      · left
                        have : k * s + s ≤ i * s := by rw [← Nat.succ_mul]; exact Nat.mul_le_mul_right _ hik
                        omega
                · intro e he'
                  rcases List.mem_or_eq_of_mem_set he' with h9 | rfl
                  · exact e8 e h9
                  · rw [List.all_eq_true]
                    intro u hu
                    obtain ⟨j, hj, rfl⟩ := List.mem_iff_getElem.1 hu
                    rcases setSubs_get hss j hj with ⟨q1, q2, q3⟩ | ⟨q1, q2, q3⟩
                    · rw [q3]; exact List.all_eq_true.1 hone _ (List.getElem_mem q2)
                    · rw [q3]
                      have := e8 _ (List.getElem_mem hlt)
                      rw [hget] at this
                      exact List.all_eq_true.1 this _ (List.getElem_mem q2)
              · simp only [List.getElem?_set_ne (Ne.symm e)] at hi
                exact .inl ⟨hi, by intro hh; injection hh with hh; exact e hh.symm⟩
      · cases hs
  · cases hs

theorem ins_st (hF : ∀ f, F.fn f) (h : Sim N G own L S a w) (hd : ∀ t, o.dst = some t → t < N) {x y : Arg} {m : Nat} (hok : okIns P o.op (.st x y m) = true)
    {cl : ClT} (hev : evIns cl o.dst (.st x y m) S = some S') (hn : ∀ a' w', Res N G own w a.defers S' a' w' → next a' w') : o.wpIn F n P a w next Q := by
  obtain ⟨r, S1, hr, hS⟩ := retP_inv hev
  simp only [okIns] at hok
  split at hok
  · rename_i t u v hop
    simp only [Bool.and_eq_true] at hok
    obtain ⟨⟨h1, h2⟩, h3⟩ := hok
    obtain ⟨i, hi, hsz⟩ := sizeB_some h3
    unfold stI at hr
    split at hr
    · rename_i hc
      cases hs : stCells S (S.arg x) (S.arg y).cells with
      | none => rw [hs] at hr; cases hr
      | some S2 =>
        rw [hs] at hr
        cases hr
        obtain ⟨c1, c2, c3⟩ := cells_rep (okArg_rep h h2) hc.2
        obtain ⟨b, off, w', hv, hrun, hsim, hfoot, hkp⟩ := st_sim (P := P) h (okArg_rep h h1) c1 c2 c3 hc.2 hs
        refine wpIn_of_run hF (by rw [hop]; intro c hc; cases hc) (r := .ok .skip w') ?_ ?_
        · have hne : ¬ (a.eval v).cells.size ≠ i.size := by rw [c1, hsz]; simp [hc.1]
          simp [execOp, hop, hv, Instr.storeAt, Instr.sureAddr, storeVar, run_sizeOf hi, hne, hrun]
        · subst hS
          exact hn _ _ ⟨G, own, L, hsim.put hd (.of (.tup #[] [] rfl (fun j hj => absurd hj (Nat.not_lt_zero _)))), hfoot, put_defers .., by cases o.dst <;> exact hkp⟩
    · cases hr
  · cases hok

theorem ins_stl (hF : ∀ f, F.fn f) (h : Sim N G own L S a w) (hd : ∀ t, o.dst = some t → t < N) {k : Nat} {x y : Arg} {m : Nat} (hok : okIns P o.op (.stl k x y m) = true)
    {cl : ClT} (hev : evIns cl o.dst (.stl k x y m) S = some S') (hn : ∀ a' w', Res N G own w a.defers S' a' w' → next a' w') : o.wpIn F n P a w next Q := by
  refine ins_st (cl := cl) hF h hd (x := x) (y := y) (m := m) hok ?_ hn
  have hev' : retP o.dst (stlI S k (S.arg y) m (S.arg x)) = some S' := hev
  show retP o.dst (stI S (S.arg x) (S.arg y) m) = some S'
  cases hx : S.arg x with
  | lptr s off =>
    rw [hx] at hev'
    simp only [stlI] at hev'
    split at hev'
    · exact hev'
    · cases hev'
  | _ => rw [hx] at hev'; cases hev'

theorem flat_rep {z : Array Value} {zero : List V} {s : Nat} (h1 : z.size = zero.length) (h2 : CRep G (fun j => z.getD j undef) zero) (hl : zero.length = s) (hs : 0 < s) (len : Nat) :
    (Builtin.zeroCells z len).size = (List.replicate len zero).flatten.length ∧ CRep G (fun j => (Builtin.zeroCells z len).getD j undef) (List.replicate len zero).flatten := by
  have hz : (Builtin.zeroCells z len).size = len * s := by simp [Builtin.zeroCells, h1, hl]
  have hf : (List.replicate len zero).flatten.length = len * s := by simp [hl]
  refine ⟨by rw [hz, hf], fun j hj => ?_⟩
  rw [hf] at hj
  have e1 : ∀ (n : Nat) (j : Nat) (hj : j < (List.replicate n zero).flatten.length), (List.replicate n zero).flatten[j] = zero[j % s]'(by rw [hl]; exact Nat.mod_lt _ hs) := by
    intro n
    induction n with
    | zero => intro j hj; simp at hj
    | succ n ih =>
      intro j hj
      simp only [List.replicate_succ, List.flatten_cons]
      by_cases hlt : j < zero.length
      · rw [List.getElem_append_left hlt]
        congr 1
        rw [Nat.mod_eq_of_lt (by omega)]
      · rw [List.getElem_append_right (by omega), ih]
        congr 1
        rw [hl]; exact (Nat.mod_eq_sub_mod (by omega)).symm
  have e2 : (Builtin.zeroCells z len).getD j undef = z.getD (j % s) undef := by
    have hzs : z.size = s := by omega
    have h5 : j % z.size < z.size := by rw [hzs]; exact Nat.mod_lt _ hs
    have h6 : j < len * z.size := by rw [hzs]; exact hj
    rw [← hzs]
    simp [Builtin.zeroCells, Array.getD_eq_getD_getElem?, h5, h6]
  show VRep G ((Builtin.zeroCells z len).getD j undef) _
  rw [e1 len j (by rw [hf]; exact hj), e2]
  exact h2 (j % s) _

theorem ins_clr (hF : ∀ f, F.fn f) (h : Sim N G own L S a w) (hd : ∀ t, o.dst = some t → t < N) {x : Arg} {s : Nat} {zero : List V} (hok : okIns P o.op (.clr x s zero) = true)
    {cl : ClT} (hev : evIns cl o.dst (.clr x s zero) S = some S') (hn : ∀ a' w', Res N G own w a.defers S' a' w' → next a' w') : o.wpIn F n P a w next Q := by
  obtain ⟨r, S1, hr, hS⟩ := retP_inv hev
  simp only [okIns] at hok
  split at hok
  · rename_i c hop
    split at hok
    · rename_i u t hcal hargs htys
      simp only [Bool.and_eq_true] at hok
      obtain ⟨h1, h2⟩ := hok
      have r1 := okArg_rep h h1
      have ha : c.args = #[u] := by apply Array.ext'; simpa using hargs
      have ht : c.argTypes = #[t] := by apply Array.ext'; simpa using htys
      split at h2
      · rename_i e hu
        simp only [Bool.and_eq_true, bne_iff_ne, beq_iff_eq] at h2
        obtain ⟨⟨⟨⟨k1, k2⟩, k3⟩, k4⟩, k5⟩ := h2
        obtain ⟨ie, hie, rfl⟩ := sizeB_some k1
        have hpos : 0 < ie.size := Nat.pos_of_ne_zero k2
        unfold zeroB at k3
        rw [hie] at k3
        simp only at k3
        split at k3
        · rename_i z hzz
          obtain ⟨z1, z2⟩ := okCells_arr (G := G) k3
          unfold clrI at hr
          split at hr
          · rename_i id off len s' hx
            rw [hx] at r1
            split at hr
            · rename_i hss
              subst hss
              cases hst : stCells S (.ptr id off) (List.replicate len zero).flatten with
              | none => rw [hst] at hr; cases hr
              | some S2 =>
                rw [hst] at hr
                cases hr
                generalize hva : a.eval u = va at r1
                cases r1 with
                | bvs _ _ _ _ b cap hb hcc hl =>
                  obtain ⟨f1, f2⟩ := flat_rep z1 z2 k4 hpos len
                  have hone : (List.replicate len zero).flatten.all V.oneB = true := by
                    rw [List.all_eq_true]
                    intro y hy
                    obtain ⟨l, hl1, hl2⟩ := List.mem_flatten.1 hy
                    rw [(List.mem_replicate.1 hl1).2] at hl2
                    exact List.all_eq_true.1 k5 y hl2
                  have hone2 : ∀ y ∈ (Builtin.zeroCells z.cells len).toList, y.oneCell' = true := by
                    intro y hy
                    obtain ⟨j, hj, rfl⟩ := List.mem_iff_getElem.1 hy
                    have hj' : j < (List.replicate len zero).flatten.length := by rw [← f1]; simpa using hj
                    have hr : VRep G ((Builtin.zeroCells z.cells len).getD j undef) _ := f2 j hj'
                    have e : (Builtin.zeroCells z.cells len).getD j undef = (Builtin.zeroCells z.cells len).toList[j] := by
                      have : j < (Builtin.zeroCells z.cells len).size := by simpa using hj
                      simp [Array.getD_eq_getD_getElem?, this]
                    rw [e] at hr
                    have ho := List.all_eq_true.1 hone _ (List.getElem_mem hj')
                    revert hr ho
                    generalize (Builtin.zeroCells z.cells len).toList[j] = q
                    generalize (List.replicate len zero).flatten[j] = y
                    intro hr ho
                    cases hr with
                    | p hp => cases hp <;> rfl
                    | agg => cases ho
                    | tup => cases ho
                    | undef => cases ho
                    | _ => rfl
                  obtain ⟨b', off', w', hv, hrun, hsim, hfoot, hkp⟩ := st_sim (P := P) h (v := .pointer (some ⟨b, off, none⟩)) (x := .ptr id off) (VRep.ptr _ _ _ hb) f1 f2 hone2 hone hst
                  cases hv
                  refine wpIn_of_run hF (by rw [hop]; intro c hc; cases hc) (r := .ok (.value (.tuple #[])) w') ?_ ?_
                  · obtain ⟨len, rfl⟩ : ∃ k, len = k + 1 := ⟨len - 1, by omega⟩
                    simp [execOp, hop, resolve, hcal, ha, ht, hva, invoke, builtin, Builtin.clear_, run_underlying hu, zeroValue, typeInfo, hie, hzz, hrun]
                  · subst hS
                    exact hn _ _ ⟨G, own, L, hsim.put hd (.of (.tup #[] [] rfl (fun j hj => absurd hj (Nat.not_lt_zero _)))), hfoot, put_defers .., by cases o.dst <;> exact hkp⟩
            · cases hr
          · rename_i hx
            rw [hx] at r1
            cases hr
            generalize hva : a.eval u = va at r1
            cases r1 with
            | nils ad =>
              refine wpIn_of_run hF (by rw [hop]; intro c hc; cases hc) (r := .ok (.value (.tuple #[])) w) ?_ ?_
              · cases ad <;> simp [execOp, hop, resolve, hcal, ha, ht, hva, invoke, builtin, Builtin.clear_, run_underlying hu]
              · subst hS
                exact hn _ _ ⟨G, own, L, h.put hd (.of (.tup #[] [] rfl (fun j hj => absurd hj (Nat.not_lt_zero _)))), .refl .., put_defers .., by cases o.dst <;> exact Kp.refl _ _ _ _⟩
          · cases hr
        · cases k3
      · cases h2
    · cases hok
  · cases hok
end
end Go.Eng
