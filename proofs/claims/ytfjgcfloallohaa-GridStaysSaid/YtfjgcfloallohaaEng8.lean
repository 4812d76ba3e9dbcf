/- The engine, part 8: addresses, indexes, loads, slices of slices. -/
import Derived.Test.YtfjgcfloallohaaEng7
namespace Go.Eng
open Go

theorem sizeB_some {P : Program} {t : TypeId} {n : Nat} (h : sizeB P t n = true) : ∃ i, P.info? t = some i ∧ i.size = n := by
  unfold sizeB at h
  split at h
  · rename_i i hi; exact ⟨i, hi, by simpa using h⟩
  · cases h

theorem sliceB_some {P : Program} {t : TypeId} {s : Nat} (h : sliceB P t s = true) : ∃ e i, P.underlying t = some (.slice e) ∧ P.info? e = some i ∧ i.size = s ∧ s ≠ 0 := by
  unfold sliceB at h
  split at h
  · rename_i e he
    simp only [Bool.and_eq_true, bne_iff_ne] at h
    obtain ⟨i, hi, hs⟩ := sizeB_some h.1
    exact ⟨e, i, he, hi, hs, h.2⟩
  · cases h

theorem run_sizeOf {P : Program} {w : World} {t : TypeId} {i : TypeInfo} (h : P.info? t = some i) : (sizeOf t).run P w = .ok i.size w := by simp [sizeOf, typeInfo, h]

section
variable {F : Fence} {n : Nat} {P : Program} {o : Oper} {a : Act} {w : World} {Q : Exit → Act → World → Prop}
variable {N : Nat} {G : Gh} {own : Own} {L : Nat → Option Nat} {S S' : St} {next : Act → World → Prop}

theorem shift_rep {v : Value} {x r : V} {k : Nat} (h : SRep G L v x) (hr : shiftV x k = some r) :
    ∃ b off, v = .pointer (some ⟨b, off, none⟩) ∧ SRep G L (.pointer (some ⟨b, off + k, none⟩)) r := by
  unfold shiftV at hr
  split at hr
  · cases hr; obtain ⟨b, h1, h2⟩ := h; exact ⟨b, _, h2, b, h1, rfl⟩
  · cases hr; cases h with | ptr id off b h1 => exact ⟨b, _, rfl, .ptr _ _ _ h1⟩
  · cases hr
    cases h with
    | rptr id tot i j b s cap h1 => exact ⟨b, _, rfl, by rw [Nat.add_assoc]; exact VRep.rptr _ _ _ _ _ _ _ h1⟩
  · cases hr
    cases h with
    | eptr b base off cs c hI hR => exact ⟨b, _, rfl, by rw [Nat.add_assoc]; exact VRep.eptr _ _ _ _ c hI hR⟩
  · cases hr

theorem ins_off (hF : ∀ f, F.fn f) (h : Sim N G own L S a w) (hd : ∀ t, o.dst = some t → t < N) {x : Arg} {k : Nat} (hok : okIns P o.op (.off x k) = true)
    {cl : ClT} (hev : evIns cl o.dst (.off x k) S = some S') (hn : ∀ a' w', Res N G own w a.defers S' a' w' → next a' w') : o.wpIn F n P a w next Q := by
  obtain ⟨r, hr, hS⟩ := retS_inv hev
  simp only [okIns] at hok
  split at hok
  · rename_i t u f hop
    simp only [Bool.and_eq_true] at hok
    obtain ⟨h1, h2⟩ := hok
    split at h2
    · rename_i fs hfs
      split at h2
      · rename_i fd hfd
        simp only [Bool.and_eq_true, beq_iff_eq, Bool.not_eq_true'] at h2
        obtain ⟨⟨h3, h4⟩, h5⟩ := h2
        obtain ⟨b, off, hv, hrep⟩ := shift_rep (okArg_rep h h1) hr
        cases hi : P.info? fd.type with
        | none => rw [hi] at h5; cases h5
        | some i =>
          have hz : i.size ≠ 0 := by simpa [sizeB, hi] using h4
          refine fin_value hF h hd (by rw [hop]; intro c hc; cases hc) (v := .pointer (some ⟨b, off + k, none⟩)) ?_ hrep hS hn
          simp [execOp, hop, hv, Instr.fieldAt, run_underlying hfs, hfd, Instr.sureAddr, fieldPlace, run_sizeOf hi, hz, Addr.add_lit, h3]
      · cases h2
    · cases h2
  · cases hok

theorem ins_ixa (hF : ∀ f, F.fn f) (h : Sim N G own L S a w) (hd : ∀ t, o.dst = some t → t < N) {x y : Arg} {s m : Nat} (hok : okIns P o.op (.ixa x y s m) = true)
    {cl : ClT} (hev : evIns cl o.dst (.ixa x y s m) S = some S') (hn : ∀ a' w', Res N G own w a.defers S' a' w' → next a' w') : o.wpIn F n P a w next Q := by
  obtain ⟨r, hr, hS⟩ := retS_inv hev
  simp only [okIns] at hok
  split at hok
  · rename_i t u u' hop
    simp only [Bool.and_eq_true] at hok
    obtain ⟨⟨h1, h2⟩, h3⟩ := hok
    split at h3
    · rename_i m' e hu
      simp only [Bool.and_eq_true, beq_iff_eq] at h3
      obtain ⟨rfl, h4⟩ := h3
      obtain ⟨i, hi, hsz⟩ := sizeB_some h4
      unfold ixaV at hr
      split at hr
      · rename_i k z hy
        have r2 := okArg_rep h h2
        rw [hy] at r2; have e2 := rep_int r2
        split at hr
        · rename_i hb
          obtain ⟨b, off, hv, hrep⟩ := shift_rep (okArg_rep h h1) hr
          refine fin_value hF h hd (by rw [hop]; intro c hc; cases hc) (v := .pointer (some ⟨b, off + z.toNat * s, none⟩)) ?_ hrep hS hn
          simp [execOp, hop, hv, e2, Instr.indexAt, asIntOf, run_underlying hu, Instr.sureAddr, run_sizeOf hi, hb.1, hb.2, Addr.add_lit, hsz]
        · cases hr
      · cases hr
    · cases h3
  · cases hok

theorem rowAt_some {H : Heap} {id s : Nat} {es : List (List V)} (h : rowAt H id = some (s, es)) : H[id]? = some (.row s es) := by
  unfold rowAt at h
  split at h
  · rename_i hh; cases h; exact hh
  · cases h
theorem boxAt_some {H : Heap} {id : Nat} {cs : List V} (h : boxAt H id = some cs) : H[id]? = some (.box cs) := by
  unfold boxAt at h
  split at h
  · rename_i hh; cases h; exact hh
  · cases h

/-- What a row of the heap is in memory, read off a value that names it. -/
theorem row_info {H : Heap} {loc : List (Nat × List V)} (hw : WOK G own H L loc w) {id s : Nat} {es : List (List V)} (hr : rowAt H id = some (s, es)) {b s' cap : Nat} (hg : G.rows id es.length = some (.at b s' cap)) :
    s' = s ∧ ∃ c, own b = some (.obj id) ∧ BlockIs w b c ∧ c.size = cap * s ∧ es.length ≤ cap ∧
      (∀ i (hi : i < es.length), (es[i]).length = s) ∧ (∀ i j (hi : i < es.length) (hj : j < (es[i]).length), VRep G (c.getD (i * s + j) undef) ((es[i])[j])) ∧ ∀ e ∈ es, e.all V.oneB = true := by
  rcases hw.obj id _ (rowAt_some hr) with ⟨h1, h2⟩ | ⟨b', cap', c, h1, h2, h3, h4, h5, h6, h7, h8⟩
  · subst h1; simp only [List.length_nil] at hg; rw [h2] at hg; cases hg
  · rw [h1] at hg; cases hg
    exact ⟨rfl, c, h2, h3, h4, h5, h6, h7, h8⟩

theorem ins_ixs (hF : ∀ f, F.fn f) (h : Sim N G own L S a w) (hd : ∀ t, o.dst = some t → t < N) {x y : Arg} {s : Nat} (hok : okIns P o.op (.ixs x y s) = true)
    {cl : ClT} (hev : evIns cl o.dst (.ixs x y s) S = some S') (hn : ∀ a' w', Res N G own w a.defers S' a' w' → next a' w') : o.wpIn F n P a w next Q := by
  obtain ⟨r, hr, hS⟩ := retS_inv hev
  simp only [okIns] at hok
  split at hok
  · rename_i t u u' hop
    simp only [Bool.and_eq_true] at hok
    obtain ⟨⟨h1, h2⟩, h3⟩ := hok
    obtain ⟨e, ie, hu, hie, hsz, hs0⟩ := sliceB_some h3
    have r1 := okArg_rep h h1
    have r2 := okArg_rep h h2
    unfold ixsI at hr
    split at hr
    · rename_i k z hy
      rw [hy] at r2; have e2 := rep_int r2
      unfold ixsV at hr
      split at hr
      · rename_i h0
        -- the run, for a slice at an address
        have run : ∀ (b off len cap : Nat), a.eval u = .slice (some ⟨b, off, none⟩) len cap → z < len →
            (execOp a.eval o).run P w = .ok (.value (.pointer (some ⟨b, off + z.toNat * s, none⟩))) w := by
          intro b off len cap hv hlt
          simp [execOp, hop, hv, e2, Instr.indexAt, asIntOf, run_underlying hu, run_sizeOf hie, h0, hlt, Addr.add_lit, hsz]
        split at hr
        · rename_i es hx
          rw [hx] at r1
          cases he : es[z.toNat]? with
          | none => rw [he] at hr; cases hr
          | some el =>
            rw [he] at hr
            simp only [Option.bind_some] at hr
            split at hr
            · rename_i hl
              cases hr
              have hlt : z.toNat < es.length := (List.getElem?_eq_some_iff.1 he).1
              have hget : es[z.toNat] = el := (List.getElem?_eq_some_iff.1 he).2
              cases hva : a.eval u with
              | slice ad len cap =>
                rw [hva] at r1
                cases r1 with
                | p hp =>
                  cases hp with
                  | sl0 => simp at hlt
                  | sl b off _ s' _ c hn0 hc hs hI hR =>
                    have hss : s' = s := by rw [← hs z.toNat hlt, hget]; exact hl
                    subst hss
                    refine fin_value hF h hd (by rw [hop]; intro c hc; cases hc) (run b off _ _ hva (by omega)) (.of ?_) hS hn
                    have := VRep.eptr (G := G) b (off + z.toNat * s') 0 (el.map .p) (fun j => c z.toNat j) (fun j hj => hI _ _ hlt (by simpa [hl] using hj)) (fun j hj => by
                      have hj' : j < (es[z.toNat]).length := by rw [hget]; simpa using hj
                      have := hR z.toNat j hlt hj'
                      simp only [List.getElem_map]
                      refine .p ?_
                      simpa only [hget] using this)
                    simpa using this
              | _ => rw [hva] at r1; cases r1 with | p hp => cases hp
            · cases hr
        · rename_i es hx
          rw [hx] at r1
          cases he : es[z.toNat]? with
          | none => rw [he] at hr; cases hr
          | some el =>
            rw [he] at hr
            simp only [Option.bind_some] at hr
            split at hr
            · rename_i hl
              cases hr
              have hlt : z.toNat < es.length := (List.getElem?_eq_some_iff.1 he).1
              have hget : es[z.toNat] = el := (List.getElem?_eq_some_iff.1 he).2
              cases hva : a.eval u with
              | slice ad len cap =>
                rw [hva] at r1
                cases r1 with
                | vsl0 => simp at hlt
                | vsl b off _ s' _ c hn0 hc hs hI hR =>
                    have hss : s' = s := by rw [← hs z.toNat hlt, hget]; exact hl
                    subst hss
                    refine fin_value hF h hd (by rw [hop]; intro c hc; cases hc) (run b off _ _ hva (by omega)) (.of ?_) hS hn
                    have := VRep.eptr (G := G) b (off + z.toNat * s') 0 el (fun j => c z.toNat j) (fun j hj => hI _ _ hlt (by simpa [hl] using hj)) (fun j hj => by
                      have hj' : j < (es[z.toNat]).length := by rw [hget]; exact hj
                      have := hR z.toNat j hlt hj'
                      simpa only [hget] using this)
                    simpa using this
              | _ => rw [hva] at r1; cases r1
            · cases hr
        · rename_i id off len s' hx
          rw [hx] at r1
          split at hr
          · rename_i hc
            obtain ⟨rfl, hc2⟩ := hc
            cases hr
            cases hva : a.eval u with
            | slice ad len' cap' =>
              rw [hva] at r1
              cases r1 with
              | bvs _ _ _ _ b _ hb hcc hl =>
                exact fin_value hF h hd (by rw [hop]; intro c hc; cases hc) (run b off _ _ hva hc2) (.of (VRep.ptr _ _ _ hb)) hS hn
            | _ => rw [hva] at r1; cases r1
          · cases hr
        · rename_i id tot off len hx
          rw [hx] at r1
          cases hro : rowAt S.hp id with
          | none => rw [hro] at hr; cases hr
          | some p =>
            obtain ⟨s', es⟩ := p
            rw [hro] at hr
            simp only [Option.bind_some] at hr
            split at hr
            · rename_i hc
              obtain ⟨hc1, hc2, hc3⟩ := hc
              cases hr
              subst hc2
              cases hva : a.eval u with
              | slice ad len' cap' =>
                rw [hva] at r1
                cases r1 with
                | rown => omega
                | rowz => omega
                | row _ _ _ _ b s'' cap hg h1' h2' =>
                  obtain ⟨rfl, c, -⟩ := row_info h.wok hro (hc1 ▸ hg)
                  refine fin_value hF h hd (by rw [hop]; intro c hc; cases hc) (run b (off * s'') _ _ hva hc3) (.of ?_) hS hn
                  have := VRep.rptr (G := G) id tot (off + z.toNat) 0 b s'' cap hg
                  rw [Nat.add_zero, Nat.add_mul] at this
                  exact this
              | _ => rw [hva] at r1; cases r1
            · cases hr
        · cases hr
      · cases hr
    · cases hr
  · cases hok

end
end Go.Eng
