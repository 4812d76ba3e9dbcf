/- The engine, part 9: loads, parts, lengths, comparisons, slices, function values. -/
import Derived.Test.YtfjgcfloallohaaEng8
namespace Go.Eng
open Go

theorem subs_some {α : Type} {cs r : List α} {off n : Nat} (h : subs cs off n = some r) : off + n ≤ cs.length ∧ r = (cs.drop off).take n := by
  unfold subs at h
  split at h
  · exact ⟨by assumption, by injection h with h; exact h.symm⟩
  · cases h
theorem subs_len {α : Type} {cs r : List α} {off n : Nat} (h : subs cs off n = some r) : r.length = n := by
  obtain ⟨h1, rfl⟩ := subs_some h; simp; omega
theorem subs_get {α : Type} {cs r : List α} {off n : Nat} (h : subs cs off n = some r) (j : Nat) (hj : j < r.length) : ∃ h' : off + j < cs.length, r[j] = cs[off + j] := by
  have hl := subs_len h
  obtain ⟨h1, rfl⟩ := subs_some h
  exact ⟨by omega, by simp⟩

theorem arr_get {c : Array Value} {i : Nat} (h : i < c.size) : c[i]? = some (c.getD i undef) := by simp [Array.getD_eq_getD_getElem?, h]

section
variable {F : Fence} {n : Nat} {P : Program} {o : Oper} {a : Act} {w : World} {Q : Exit → Act → World → Prop}
variable {N : Nat} {G : Gh} {own : Own} {L : Nat → Option Nat} {S S' : St} {next : Act → World → Prop}

/-- What a load finds. -/
theorem ld_rep (h : Sim N G own L S a w) {v : Value} {x : V} {m : Nat} {cs : List V} (hv : SRep G L v x) (hl : ldCells S x m = some cs) :
    ∃ b off, ∃ f : Nat → Value, v = .pointer (some ⟨b, off, none⟩) ∧ (∀ j, j < m → w.cell? ⟨b, off + j, none⟩ = some (f j)) ∧ cs.length = m ∧ CRep G f cs := by
  unfold ldCells at hl
  split at hl
  · rename_i s off
    cases hg : getL S.loc s with
    | none => rw [hg] at hl; cases hl
    | some ds =>
      rw [hg] at hl
      simp only [Option.bind_some] at hl
      obtain ⟨b, hb, rfl⟩ := hv
      rcases h.wok.locs s ds hg with rfl | ⟨b', c, h1, h2, h3, h4, h5⟩
      · simp at hl
      rw [hb] at h1; cases h1
      split at hl
      · cases hl
      have hm := (subs_some hl).1
      refine ⟨b, off, fun j => c.getD (off + j) undef, rfl, fun j hj => ?_, subs_len hl, fun j hj => ?_⟩
      · rw [h3.cell]; exact arr_get (by omega)
      · obtain ⟨hj', e⟩ := subs_get hl j hj
        rw [e]; exact h5 (off + j) hj'
  · rename_i id off
    cases hg : boxAt S.hp id with
    | none => rw [hg] at hl; cases hl
    | some ds =>
      rw [hg] at hl
      simp only [Option.bind_some] at hl
      cases hv with
      | ptr _ _ b hb =>
        obtain ⟨b', c, h1, h2, h3, h4, h5⟩ := h.wok.obj id _ (boxAt_some hg)
        rw [hb] at h1; cases h1
        have hm := (subs_some hl).1
        refine ⟨b, off, fun j => c.getD (off + j) undef, rfl, fun j hj => ?_, subs_len hl, fun j hj => ?_⟩
        · rw [h3.cell]; exact arr_get (by omega)
        · obtain ⟨hj', e⟩ := subs_get hl j hj
          rw [e]; exact h5 (off + j) hj'
  · rename_i ds off
    cases hv with
    | eptr b base _ _ c hI hR =>
      have hm := (subs_some hl).1
      refine ⟨b, base + off, fun j => c (off + j), rfl, fun j hj => ?_, subs_len hl, fun j hj => ?_⟩
      · rw [Nat.add_assoc]; exact h.wok.imm _ _ _ (hI (off + j) (by omega))
      · obtain ⟨hj', e⟩ := subs_get hl j hj
        rw [e]; exact hR (off + j) hj'
  · rename_i id tot i j0
    cases hro : rowAt S.hp id with
    | none => rw [hro] at hl; cases hl
    | some p =>
      obtain ⟨s', es⟩ := p
      rw [hro] at hl
      simp only [Option.bind_some] at hl
      split at hl
      · rename_i hc1
        cases he : es[i]? with
        | none => rw [he] at hl; cases hl
        | some el =>
          rw [he] at hl
          simp only [Option.bind_some] at hl
          cases hv with
          | rptr _ _ _ _ b s cap hg =>
            obtain ⟨rfl, c, h2, h3, h4, h5, h6, h7, -⟩ := row_info h.wok hro (hc1 ▸ hg)
            have hm := (subs_some hl).1
            have hlt : i < es.length := (List.getElem?_eq_some_iff.1 he).1
            have hget : es[i] = el := (List.getElem?_eq_some_iff.1 he).2
            have hel : el.length = s := by rw [← hget]; exact h6 i hlt
            have hcap : i * s + s ≤ c.size := by
              rw [h4, ← Nat.succ_mul]; exact Nat.mul_le_mul_right _ (by omega)
            refine ⟨b, i * s + j0, fun j => c.getD (i * s + (j0 + j)) undef, rfl, fun j hj => ?_, subs_len hl, fun j hj => ?_⟩
            · rw [h3.cell, Nat.add_assoc]; exact arr_get (by omega)
            · obtain ⟨hj', e⟩ := subs_get hl j hj
              rw [e]
              have hj2 : j0 + j < (es[i]).length := by rw [hget]; exact hj'
              have := h7 i (j0 + j) hlt hj2
              simpa only [hget] using this
      · cases hl
  · cases hl

theorem run_isAgg {t : TypeId} {b : Bool} (h : aggB P t b = true) : (isAgg t).run P w = .ok b w := by
  unfold aggB at h
  split at h
  · rename_i fs hu; simp [isAgg, run_underlying hu, h]
  · rename_i n e hu; simp [isAgg, run_underlying hu, h]
  · rename_i d h1 h2 hu
    have hb : b = false := by simpa using h
    subst hb
    simp only [isAgg, Sem.run_bind, run_underlying hu, Result.andThen_ok]
    rfl
  · cases h

/-- The value that an aggregate or a lone cell makes. -/
theorem agg_rep {agg : Bool} {cs : List V} {r : V} {f : Nat → Value} (hr : aggOr agg cs = some r) (h : CRep G f cs) :
    (agg = true ∧ r = .agg cs ∧ VRep G (.agg ((List.range cs.length).map f).toArray) r) ∨ (agg = false ∧ ∃ x, cs = [x] ∧ r = x ∧ VRep G (f 0) r) := by
  unfold aggOr at hr
  split at hr
  · cases hr
    refine .inl ⟨rfl, rfl, .agg _ _ (by simp) fun j hj => ?_⟩
    have := h j hj
    simpa [Array.getD_eq_getD_getElem?, hj] using this
  · rename_i v
    split at hr
    · cases hr; exact .inr ⟨rfl, _, rfl, rfl, h 0 (by simp)⟩
    · cases hr
  · cases hr

theorem run_loadVar {t : TypeId} {agg : Bool} {b off m : Nat} {i : TypeInfo} (ha : aggB P t agg = true) (hi : P.info? t = some i) (hm : i.size = m) (h1 : agg = true ∨ m = 1) {f : Nat → Value}
    (hc : ∀ j, j < m → w.cell? ⟨b, off + j, none⟩ = some (f j)) : (loadVar t ⟨b, off, none⟩).run P w = .ok (if agg = true then .agg ((List.range m).map f).toArray else f 0) w := by
  cases agg with
  | true =>
    have := run_loadCells (P := P) w ⟨b, off, none⟩ m f (fun j hj => by rw [Addr.add_lit]; exact hc j hj)
    simp [loadVar, run_isAgg (w := w) ha, run_sizeOf hi, hm, this]
  | false =>
    have hm1 : m = 1 := by simpa using h1
    have := hc 0 (by omega)
    simp only [Nat.add_zero] at this
    simp [loadVar, run_isAgg (w := w) ha, this]

theorem ins_ld (hF : ∀ f, F.fn f) (h : Sim N G own L S a w) (hd : ∀ t, o.dst = some t → t < N) {x : Arg} {m : Nat} {agg : Bool} (hok : okIns P o.op (.ld x m agg) = true)
    {cl : ClT} (hev : evIns cl o.dst (.ld x m agg) S = some S') (hn : ∀ a' w', Res N G own w a.defers S' a' w' → next a' w') : o.wpIn F n P a w next Q := by
  obtain ⟨r, hr, hS⟩ := retS_inv hev
  simp only [okIns] at hok
  split at hok
  · rename_i t u hop
    simp only [Bool.and_eq_true, Bool.or_eq_true, beq_iff_eq] at hok
    obtain ⟨⟨⟨h1, h2⟩, h3⟩, h4⟩ := hok
    obtain ⟨i, hi, hsz⟩ := sizeB_some h2
    cases hl : ldCells S (S.arg x) m with
    | none => rw [hl] at hr; cases hr
    | some cs =>
      rw [hl] at hr
      simp only [Option.bind_some] at hr
      obtain ⟨b, off, f, hv, hc, hlen, hrep⟩ := ld_rep h (okArg_rep h h1) hl
      have run := run_loadVar (P := P) (w := w) h3 hi hsz h4 hc
      rcases agg_rep hr hrep with ⟨rfl, rfl, hra⟩ | ⟨rfl, y, rfl, rfl, hra⟩
      · refine fin_value hF h hd (by rw [hop]; intro c hc; cases hc) (v := .agg ((List.range m).map f).toArray) ?_ (.of (hlen ▸ hra)) hS hn
        simp only [if_true] at run
        simp [execOp, hop, hv, Instr.loadAt, Instr.sureAddr, run]
      · refine fin_value hF h hd (by rw [hop]; intro c hc; cases hc) (v := f 0) ?_ (.of hra) hS hn
        simp only [Bool.false_eq_true, if_false] at run
        simp [execOp, hop, hv, Instr.loadAt, Instr.sureAddr, run]
  · cases hok

theorem ins_ldl (hF : ∀ f, F.fn f) (h : Sim N G own L S a w) (hd : ∀ t, o.dst = some t → t < N) {k : Nat} {x : Arg} {m : Nat} {agg : Bool} (hok : okIns P o.op (.ldl k x m agg) = true)
    {cl : ClT} (hev : evIns cl o.dst (.ldl k x m agg) S = some S') (hn : ∀ a' w', Res N G own w a.defers S' a' w' → next a' w') : o.wpIn F n P a w next Q := by
  refine ins_ld (cl := cl) hF h hd (x := x) (m := m) (agg := agg) hok ?_ hn
  have hev' : retS S o.dst (ldlV S k m agg (S.arg x)) = some S' := hev
  show retS S o.dst ((ldCells S (S.arg x) m).bind (aggOr agg)) = some S'
  cases hx : S.arg x with
  | lptr s off =>
    rw [hx] at hev'
    simp only [ldlV] at hev'
    split at hev'
    · exact hev'
    · cases hev'
  | _ => rw [hx] at hev'; cases hev'

/-- A part of an aggregate. -/
theorem run_part {t : TypeId} {agg : Bool} {off m : Nat} {i : TypeInfo} (ha : aggB P t agg = true) (hi : P.info? t = some i) (hm : i.size = m) (h1 : agg = true ∨ m = 1) {c : Array Value} (hc : off + m ≤ c.size) :
    (part t c off).run P w = .ok (if agg = true then .agg ((List.range m).map fun j => c.getD (off + j) undef).toArray else c.getD off undef) w := by
  cases agg with
  | true =>
    simp only [part, Sem.run_bind, run_isAgg (w := w) ha, Result.andThen_ok, if_true, run_sizeOf hi, Sem.run_pure, hm]
    congr 2
    apply Array.ext'
    apply List.ext_getElem?
    intro j
    by_cases hj : j < m
    · have : off + j < c.size := by omega
      simp [hj, Array.getD_eq_getD_getElem?, this]
    · simp [List.getElem?_take, hj]
  | false =>
    have hm1 : m = 1 := by simpa using h1
    have : off < c.size := by omega
    simp [part, run_isAgg (w := w) ha, Array.getD_eq_getD_getElem?, this]

theorem rep_agg {v : Value} {cs : List V} (h : SRep G L v (.agg cs)) : ∃ c : Array Value, v = .agg c ∧ c.size = cs.length ∧ CRep G (fun j => c.getD j undef) cs := by
  cases h with | agg c _ hs hc => exact ⟨c, rfl, hs, hc⟩

theorem sub_rep {c : Array Value} {cs r : List V} {off m : Nat} (hc : CRep G (fun j => c.getD j undef) cs) (hr : subs cs off m = some r) : CRep G (fun j => c.getD (off + j) undef) r := fun j hj => by
  obtain ⟨hj', e⟩ := subs_get hr j hj
  rw [e]; exact hc (off + j) hj'

theorem ins_fldv (hF : ∀ f, F.fn f) (h : Sim N G own L S a w) (hd : ∀ t, o.dst = some t → t < N) {x : Arg} {off m : Nat} {agg : Bool} (hok : okIns P o.op (.fldv x off m agg) = true)
    {cl : ClT} (hev : evIns cl o.dst (.fldv x off m agg) S = some S') (hn : ∀ a' w', Res N G own w a.defers S' a' w' → next a' w') : o.wpIn F n P a w next Q := by
  obtain ⟨r, hr, hS⟩ := retS_inv hev
  simp only [okIns] at hok
  split at hok
  · rename_i t u fi hop
    simp only [Bool.and_eq_true] at hok
    obtain ⟨h1, h2⟩ := hok
    split at h2
    · rename_i fs hfs
      split at h2
      · rename_i fd hfd
        simp only [Bool.and_eq_true, Bool.or_eq_true, beq_iff_eq] at h2
        obtain ⟨⟨⟨rfl, h3⟩, h4⟩, h5⟩ := h2
        obtain ⟨i, hi, hsz⟩ := sizeB_some h3
        have r1 := okArg_rep h h1
        unfold fldvV at hr
        split at hr
        · rename_i cs hx
          rw [hx] at r1
          obtain ⟨c, hv, hcs, hrep⟩ := rep_agg r1
          cases hsu : subs cs fd.offset m with
          | none => rw [hsu] at hr; cases hr
          | some ds =>
            rw [hsu] at hr
            simp only [Option.bind_some] at hr
            have run := run_part (P := P) (w := w) h4 hi hsz h5 (c := c) (off := fd.offset) (by rw [hcs]; exact (subs_some hsu).1)
            rcases agg_rep hr (sub_rep hrep hsu) with ⟨rfl, rfl, hra⟩ | ⟨rfl, y, rfl, rfl, hra⟩
            · rw [subs_len hsu] at hra
              refine fin_value hF h hd (by rw [hop]; intro c hc; cases hc) ?_ (.of hra) hS hn
              simp only [if_true] at run
              simp [execOp, hop, hv, Instr.field, run_underlying hfs, hfd, asAgg, run]
            · refine fin_value hF h hd (by rw [hop]; intro c hc; cases hc) ?_ (.of hra) hS hn
              simp only [Bool.false_eq_true, if_false] at run
              simp [execOp, hop, hv, Instr.field, run_underlying hfs, hfd, asAgg, run]
        · cases hr
      · cases h2
    · cases h2
  · cases hok

theorem ins_ixv (hF : ∀ f, F.fn f) (h : Sim N G own L S a w) (hd : ∀ t, o.dst = some t → t < N) {x y : Arg} {s m : Nat} {agg : Bool} (hok : okIns P o.op (.ixv x y s m agg) = true)
    {cl : ClT} (hev : evIns cl o.dst (.ixv x y s m agg) S = some S') (hn : ∀ a' w', Res N G own w a.defers S' a' w' → next a' w') : o.wpIn F n P a w next Q := by
  obtain ⟨r, hr, hS⟩ := retS_inv hev
  simp only [okIns] at hok
  split at hok
  · rename_i t u u' hop
    simp only [Bool.and_eq_true] at hok
    obtain ⟨⟨h1, h2⟩, h3⟩ := hok
    split at h3
    · rename_i m' e hu
      simp only [Bool.and_eq_true, Bool.or_eq_true, beq_iff_eq] at h3
      obtain ⟨⟨⟨rfl, h4⟩, h5⟩, h6⟩ := h3
      obtain ⟨i, hi, hsz⟩ := sizeB_some h4
      have r1 := okArg_rep h h1
      have r2 := okArg_rep h h2
      unfold ixvV at hr
      split at hr
      · rename_i cs k z hx hy
        rw [hx] at r1
        rw [hy] at r2
        have e2 := rep_int r2
        obtain ⟨c, hv, hcs, hrep⟩ := rep_agg r1
        split at hr
        · rename_i hb
          cases hsu : subs cs (z.toNat * s) s with
          | none => rw [hsu] at hr; cases hr
          | some ds =>
            rw [hsu] at hr
            simp only [Option.bind_some] at hr
            have run := run_part (P := P) (w := w) h5 hi hsz h6 (c := c) (off := z.toNat * s) (by rw [hcs]; exact (subs_some hsu).1)
            rcases agg_rep hr (sub_rep hrep hsu) with ⟨rfl, rfl, hra⟩ | ⟨rfl, y, rfl, rfl, hra⟩
            · rw [subs_len hsu] at hra
              refine fin_value hF h hd (by rw [hop]; intro c hc; cases hc) ?_ (.of hra) hS hn
              simp only [if_true] at run
              simp [execOp, hop, hv, e2, Instr.index, asIntOf, run_underlying hu, run_sizeOf hi, hb.1, hb.2, hsz, run]
            · refine fin_value hF h hd (by rw [hop]; intro c hc; cases hc) ?_ (.of hra) hS hn
              simp only [Bool.false_eq_true, if_false] at run
              simp [execOp, hop, hv, e2, Instr.index, asIntOf, run_underlying hu, run_sizeOf hi, hb.1, hb.2, hsz, run]
        · cases hr
      · cases hr
    · cases h3
  · cases hok

theorem ins_len (hF : ∀ f, F.fn f) (h : Sim N G own L S a w) (hd : ∀ t, o.dst = some t → t < N) {x : Arg} (hok : okIns P o.op (.len x) = true)
    {cl : ClT} (hev : evIns cl o.dst (.len x) S = some S') (hn : ∀ a' w', Res N G own w a.defers S' a' w' → next a' w') : o.wpIn F n P a w next Q := by
  obtain ⟨r, hr, hS⟩ := retS_inv hev
  simp only [okIns] at hok
  split at hok
  · rename_i c hop
    split at hok
    · rename_i u t hcal hargs htys
      simp only [Bool.and_eq_true] at hok
      obtain ⟨h1, h2⟩ := hok
      have r1 := okArg_rep h h1
      have ha : c.args = #[u] := by apply Array.ext'; simpa using hargs
      have ht : c.argTypes = #[t] := by apply Array.ext'; simpa using htys
      split at h2
      · rename_i e hu
        have run : ∀ ad len cap, a.eval u = .slice ad len cap → (execOp a.eval o).run P w = .ok (.value (.int .i64 len)) w := by
          intro ad len cap hv
          simp [execOp, hop, resolve, hcal, ha, ht, hv, invoke, builtin, Builtin.len_, run_underlying hu, goInt]
        cases hl : lenV (S.arg x) with
        | none => rw [hl] at hr; cases hr
        | some m =>
          rw [hl] at hr
          cases hr
          suffices hs : ∃ ad cap, a.eval u = .slice ad m cap by
            obtain ⟨ad, cap, hv⟩ := hs
            exact fin_value hF h hd (by rw [hop]; intro c hc; cases hc) (run _ _ _ hv) (.of (.p (.int _ _))) hS hn
          unfold lenV at hl
          generalize a.eval u = z at r1
          split at hl
          · rename_i es hx; rw [hx] at r1; cases hl
            cases r1 with | p hp => cases hp with
              | sl0 ad cap => exact ⟨ad, cap, rfl⟩
              | sl b off cap s es c => exact ⟨_, cap, rfl⟩
          · rename_i es hx; rw [hx] at r1; cases hl
            cases r1 with
            | vsl0 ad cap => exact ⟨ad, cap, rfl⟩
            | vsl b off cap s es c => exact ⟨_, cap, rfl⟩
          · rename_i hx; rw [hx] at r1; cases hl; cases r1 with | nils ad => exact ⟨ad, 0, rfl⟩
          · rename_i id tot off len hx; rw [hx] at r1; cases hl
            cases r1 with
            | rown => exact ⟨none, 0, rfl⟩
            | rowz _ _ _ _ ad cap => exact ⟨ad, cap, rfl⟩
            | row _ _ _ _ b s cap => exact ⟨_, _, rfl⟩
          · rename_i id off len s hx; rw [hx] at r1; cases hl
            cases r1 with | bvs _ _ _ _ b cap => exact ⟨_, _, rfl⟩
          · cases hl
      · cases h2
    · cases hok
  · cases hok

theorem ins_ext (hF : ∀ f, F.fn f) (h : Sim N G own L S a w) (hd : ∀ t, o.dst = some t → t < N) {x : Arg} {i : Nat} (hok : okIns P o.op (.ext x i) = true)
    {cl : ClT} (hev : evIns cl o.dst (.ext x i) S = some S') (hn : ∀ a' w', Res N G own w a.defers S' a' w' → next a' w') : o.wpIn F n P a w next Q := by
  obtain ⟨r, hr, hS⟩ := retS_inv hev
  simp only [okIns] at hok
  split at hok
  · rename_i u j hop
    simp only [Bool.and_eq_true, beq_iff_eq] at hok
    obtain ⟨h1, rfl⟩ := hok
    have r1 := okArg_rep h h1
    unfold extV at hr
    split at hr
    · rename_i vs hx
      rw [hx] at r1
      have hr : vs[i]? = some r := by
        cases hv : vs[i]? with
        | none => rw [hv] at hr; cases hr
        | some y =>
          rw [hv] at hr
          simp only [Option.bind_some] at hr
          split at hr
          · exact hr
          · cases hr
      obtain ⟨hlt, hget⟩ := List.getElem?_eq_some_iff.1 hr
      generalize hva : a.eval u = z at r1
      cases r1 with
      | tup cs _ hs hc =>
        have hlt' : i < cs.size := by omega
        have := hc i hlt
        rw [hget] at this
        refine fin_value hF h hd (by rw [hop]; intro c hc; cases hc) (v := cs.getD i undef) ?_ (.of this) hS hn
        simp [execOp, hop, hva, Instr.extract, hlt', Array.getD_eq_getD_getElem?]
    · cases hr
  · cases hok

theorem isNil_ptr {v : Value} {x : V} {b : Bool} (h : SRep G L v x) (hb : x.isNil .ptr = some b) : (b = true ∧ v = .pointer none) ∨ (b = false ∧ ∃ ad, v = .pointer (some ad)) := by
  unfold V.isNil at hb
  split at hb <;> rename_i e <;> (try cases e) <;> cases hb
  · cases h with | p hp => cases hp; exact .inl ⟨rfl, rfl⟩
  · cases h; exact .inr ⟨rfl, _, rfl⟩
  · cases h; exact .inr ⟨rfl, _, rfl⟩
  · cases h; exact .inr ⟨rfl, _, rfl⟩
  · obtain ⟨b, _, rfl⟩ := h; exact .inr ⟨rfl, _, rfl⟩

theorem isNil_fn {v : Value} {x : V} {b : Bool} (h : SRep G L v x) (hb : x.isNil .fn = some b) : (b = true ∧ v = .nilFunc) ∨ (b = false ∧ ∃ f p q, v = .func f p q) := by
  unfold V.isNil at hb
  split at hb <;> rename_i e <;> (try cases e) <;> cases hb
  · cases h with | p hp => cases hp; exact .inl ⟨rfl, rfl⟩
  · cases h with | p hp => cases hp; exact .inr ⟨rfl, _, _, _, rfl⟩
  · cases h; exact .inr ⟨rfl, _, _, _, rfl⟩

theorem isNil_sl {v : Value} {x : V} {b : Bool} (h : SRep G L v x) (hb : x.isNil .sl = some b) : (b = true ∧ ∃ c, v = .slice none 0 c) ∨ (b = false ∧ ∃ ad m c, v = .slice (some ad) m c) := by
  unfold V.isNil at hb
  split at hb <;> rename_i e <;> (try cases e) <;> cases hb
  · cases h with | p hp => cases hp; exact .inr ⟨rfl, _, _, _, rfl⟩
  · cases h; exact .inr ⟨rfl, _, _, _, rfl⟩
  · cases h with
    | mtn c => exact .inl ⟨rfl, _, rfl⟩
    | mts ad c => exact .inr ⟨rfl, _, _, _, rfl⟩
end
end Go.Eng
