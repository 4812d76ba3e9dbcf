/- The engine, part 15: append. -/
import Derived.Test.YtfjgcfloallohaaEng14
namespace Go.Eng
open Go

section
variable {F : Fence} {n : Nat} {P : Program} {o : Oper} {a : Act} {w : World} {Q : Exit → Act → World → Prop}
variable {N : Nat} {G : Gh} {own : Own} {L : Nat → Option Nat} {S S' : St} {next : Act → World → Prop}

theorem PRep.one {I : Nat → Nat → Value → Prop} {v : Value} {x : PV} (h : PRep I v x) : v.oneCell' = true := by cases h <;> rfl

theorem VRep.one' {G : Gh} {v : Value} {x : V} (h : VRep G v x) (ho : x.oneB = true) : v.oneCell' = true := by
  cases h with
  | p hp => exact hp.one
  | agg => cases ho
  | tup => cases ho
  | undef => cases ho
  | _ => rfl

theorem RowsV.at {f : Nat → Value} {s : Nat} {es : List (List V)} (h : RowsV G f s es) (hone : ∀ e ∈ es, e.all V.oneB = true) (hs : 0 < s) {m : Nat} (hm : m < es.length * s) : (f m).oneCell' = true := by
  have hi : m / s < es.length := (Nat.div_lt_iff_lt_mul hs).2 hm
  have hj : m % s < (es[m / s]).length := by rw [h.len _ hi]; exact Nat.mod_lt _ hs
  have := h.rep (m / s) (m % s) hi hj
  have e : m / s * s + m % s = m := by rw [Nat.mul_comm]; exact Nat.div_add_mod m s
  rw [e] at this
  exact this.one' (List.all_eq_true.1 (hone _ (List.getElem_mem hi)) _ (List.getElem_mem hj))

theorem upV_len (es : List (List PV)) : (upV es).length = es.length := by simp [upV]
theorem upV_one (es : List (List PV)) : ∀ e ∈ upV es, e.all V.oneB = true := by
  intro e he
  obtain ⟨x, -, rfl⟩ := List.mem_map.1 he
  simp [List.all_eq_true]

theorem RowsV.append {f g k : Nat → Value} {s : Nat} {es ys : List (List V)} (h1 : RowsV G f s es) (h2 : RowsV G g s ys) (e1 : ∀ m, m < es.length * s → k m = f m)
    (e2 : ∀ m, m < ys.length * s → k (es.length * s + m) = g m) : RowsV G k s (es ++ ys) := by
  refine ⟨fun i hi => ?_, fun i j hi hj => ?_⟩
  · rw [List.getElem_append]
    split
    · exact h1.len _ _
    · exact h2.len _ _
  · rcases Nat.lt_or_ge i es.length with hlt | hge
    · have he : (es ++ ys)[i] = es[i] := List.getElem_append_left hlt
      simp only [he] at hj ⊢
      have hjs : j < s := by rw [h1.len i hlt] at hj; exact hj
      have : i * s + s ≤ es.length * s := by rw [← Nat.succ_mul]; exact Nat.mul_le_mul_right _ hlt
      rw [e1 _ (by omega)]
      exact h1.rep i j hlt hj
    · have hi' : i - es.length < ys.length := by simp at hi; omega
      have he : (es ++ ys)[i] = ys[i - es.length] := List.getElem_append_right hge
      simp only [he] at hj ⊢
      have hjs : j < s := by rw [h2.len _ hi'] at hj; exact hj
      have e3 : i * s + j = es.length * s + ((i - es.length) * s + j) := by
        have : i * s = es.length * s + (i - es.length) * s := by rw [← Nat.add_mul]; congr 1; omega
        omega
      have : (i - es.length) * s + s ≤ ys.length * s := by rw [← Nat.succ_mul]; exact Nat.mul_le_mul_right _ hi'
      rw [e3, e2 _ (by omega)]
      exact h2.rep _ j hi' hj

theorem src_cells {t e' : TypeId} (hk : P.underlying t = some (.slice e')) (b off n cap s : Nat) (f : Nat → Value) (hc : ∀ m, m < n * s → w.cell? ⟨b, off + m, none⟩ = some (f m))
    (h1 : ∀ m, m < n * s → (f m).oneCell' = true) : Src P s t (.slice (some ⟨b, off, none⟩) n cap) n ((List.range (n * s)).map f) w := by
  refine Src.ofSlice w hk ⟨b, off, none⟩ n cap _ (by simp) ?_ ?_
  · intro j u hj
    simp only [List.getElem?_map] at hj
    by_cases hlt : j < n * s
    · simp [hlt] at hj
      subst hj
      rw [Addr.add_lit]
      exact hc j hlt
    · simp [hlt] at hj
  · intro u hu
    simp at hu
    obtain ⟨m, hm, rfl⟩ := hu
    exact h1 m hm

theorem rangeMap_getD {f : Nat → Value} {k m : Nat} (h : m < k) : ((List.range k).map f).getD m undef = f m := by simp [List.getD_eq_getElem?_getD, h]

theorem imm_src {H : Heap} {loc : List (Nat × List V)} (hw : WOK G own H L loc w) {t e' : TypeId} (hk : P.underlying t = some (.slice e')) {s : Nat} (hs : 0 < s) {ys : List (List V)} {b off cap : Nat} {c : Nat → Nat → Value}
    (hlen : ∀ i (hi : i < ys.length), (ys[i]).length = s) (hone : ∀ e ∈ ys, e.all V.oneB = true) (hI : ∀ i j, i < ys.length → j < s → G.I b (off + i * s + j) (c i j))
    (hR : ∀ i j (hi : i < ys.length) (hj : j < (ys[i]).length), VRep G (c i j) ((ys[i])[j])) :
    ∃ news f, Src P s t (.slice (some ⟨b, off, none⟩) ys.length cap) ys.length news w ∧ news = (List.range (ys.length * s)).map f ∧ RowsV G f s ys := by
  have hrow : RowsV G (fun m => c (m / s) (m % s)) s ys := by
    refine ⟨hlen, fun i j hi hj => ?_⟩
    have hjs : j < s := by rw [hlen i hi] at hj; exact hj
    have e1 : (i * s + j) / s = i := by rw [Nat.mul_comm, Nat.mul_add_div hs, Nat.div_eq_of_lt hjs]; omega
    have e2 : (i * s + j) % s = j := by rw [Nat.mul_comm, Nat.mul_add_mod]; exact Nat.mod_eq_of_lt hjs
    simp only [e1, e2]
    exact hR i j hi hj
  refine ⟨_, _, src_cells hk b off ys.length cap s (fun m => c (m / s) (m % s)) (fun m hm => ?_) (fun m hm => hrow.at hone hs hm), rfl, hrow⟩
  have hi : m / s < ys.length := (Nat.div_lt_iff_lt_mul hs).2 hm
  have := hw.imm _ _ _ (hI (m / s) (m % s) hi (Nat.mod_lt _ hs))
  have e : off + m / s * s + m % s = off + m := by have := Nat.div_add_mod m s; rw [Nat.mul_comm] at this; omega
  rw [e] at this
  exact this

/-- What a slice hands to an append. -/
theorem src_rep {H : Heap} {loc : List (Nat × List V)} (hw : WOK G own H L loc w) {t e' : TypeId} (hk : P.underlying t = some (.slice e')) {s : Nat} (hs : 0 < s) {v : Value} {y : V} {ys : List (List V)}
    (hv : SRep G L v y) (he : elems H y = some ys) (hall : ys.all (okEl s) = true) :
    (∀ e ∈ ys, e.all V.oneB = true) ∧ ∃ news f, Src P s t v ys.length news w ∧ news = (List.range (ys.length * s)).map f ∧ RowsV G f s ys := by
  have nothing : ∀ {ad : Option Addr} {cap : Nat}, Src P s t (.slice ad 0 cap) 0 [] w := by
    intro ad cap
    cases ad with
    | none => exact Src.ofNil w hk cap
    | some ad => exact Src.ofSlice w hk ad 0 cap [] (by simp) (fun j u h => by simp at h) (fun u h => by cases h)
  have norows : RowsV G (fun _ => undef) s [] := ⟨fun i hi => absurd hi (Nat.not_lt_zero _), fun i _ hi => absurd hi (Nat.not_lt_zero _)⟩
  have hlen : ∀ i (hi : i < ys.length), (ys[i]).length = s := fun i hi => by
    have := List.all_eq_true.1 hall _ (List.getElem_mem hi)
    simp only [okEl, Bool.and_eq_true] at this
    simpa using this.1
  have hone : ∀ e ∈ ys, e.all V.oneB = true := fun e he' => by
    have := List.all_eq_true.1 hall _ he'
    simp only [okEl, Bool.and_eq_true] at this
    exact this.2
  refine ⟨hone, ?_⟩
  unfold elems at he
  split at he
  · rename_i es
    cases he
    cases hv with
    | p hp =>
      cases hp with
      | sl0 ad cap => exact ⟨[], fun _ => undef, nothing, by simp [upV], norows⟩
      | sl b off cap s' _ c hn hc hs' hI hR =>
        have hl : (upV es).length = es.length := upV_len es
        have hg : ∀ i (hi : i < (upV es).length), (upV es)[i] = (es[i]'(by omega)).map .p := fun i hi => by simp [upV]
        have hss : s' = s := by rw [← hs' 0 hn, ← hlen 0 (by omega), hg 0 (by omega)]; simp
        subst hss
        have := imm_src (cap := cap) hw hk hs (ys := upV es) (b := b) (off := off) (c := c) hlen hone (fun i j hi hj => hI i j (by omega) hj) (fun i j hi hj => by
          simp only [hg i hi] at hj ⊢
          simp only [List.getElem_map]
          exact .p (hR i j (by omega) (by simpa using hj)))
        rw [hl] at this ⊢
        exact this
  · rename_i es
    cases he
    cases hv with
    | vsl0 ad cap => exact ⟨[], fun _ => undef, nothing, by simp, norows⟩
    | vsl b off cap s' _ c hn hc hs' hI hR =>
      have hss : s' = s := by rw [← hs' 0 hn, hlen 0 hn]
      subst hss
      exact imm_src hw hk hs hlen hone hI hR
  · cases he
    cases hv with | nils ad => exact ⟨[], fun _ => undef, nothing, by simp, norows⟩
  · cases he
    cases hv with
    | mtn c => exact ⟨[], fun _ => undef, nothing, by simp, norows⟩
    | mts ad c => exact ⟨[], fun _ => undef, nothing, by simp, norows⟩
  · rename_i id off len s0
    cases hbx : boxAt H id with
    | none => rw [hbx] at he; cases he
    | some cs =>
      rw [hbx] at he
      simp only [Option.bind_some] at he
      split at he
      · rename_i hfit
        cases he
        cases hv with
        | bvs _ _ _ _ b cap hb hcc hl =>
          obtain ⟨b', c, q1, q2, q3, q4, q5⟩ := hw.obj id _ (boxAt_some hbx)
          rw [hb] at q1; cases q1
          have h0 := hlen 0 (by simpa using hl)
          have hs0 : s0 = s := by
            have hle1 : s0 ≤ len * s0 := Nat.le_mul_of_pos_left _ hl
            simp at h0; omega
          subst hs0
          have hrow : RowsV G (fun m => c.getD (off + m) undef) s0 ((List.range len).map fun i => (cs.drop (off + i * s0)).take s0) := by
            refine ⟨hlen, fun i j hi hj => ?_⟩
            simp only [List.length_map, List.length_range] at hi
            simp only [List.getElem_map, List.getElem_range, List.length_take, List.length_drop] at hj ⊢
            have h9 : i * s0 + s0 ≤ len * s0 := by rw [← Nat.succ_mul]; exact Nat.mul_le_mul_right _ hi
            have := q5 (off + (i * s0 + j)) (by omega)
            simp only [List.getElem_take, List.getElem_drop]
            have e9 : off + i * s0 + j = off + (i * s0 + j) := by omega
            simp only [e9]
            exact this
          refine ⟨_, _, ?_, rfl, hrow⟩
          simp only [List.length_map, List.length_range]
          refine src_cells hk b off len cap s0 (fun m => c.getD (off + m) undef) (fun m hm => ?_) (fun m hm => hrow.at hone hs (by simpa using hm))
          rw [q3.cell]
          have hlt : off + m < c.size := by omega
          simp [Array.getD_eq_getD_getElem?, hlt]
      · cases he
  · rename_i id tot off len
    cases hro : rowAt H id with
    | none => rw [hro] at he; cases he
    | some p =>
      obtain ⟨s', es⟩ := p
      rw [hro] at he
      simp only [Option.bind_some] at he
      split at he
      · rename_i hc1
        cases he
        cases hv with
        | rown _ h0 =>
          simp only [List.drop_zero, List.take_zero]
          exact ⟨[], fun _ => undef, nothing, by simp, norows⟩
        | rowz _ _ _ h0 ad cap =>
          simp only [List.take_zero]
          exact ⟨[], fun _ => undef, nothing, by simp, norows⟩
        | row _ _ _ _ b s'' cap hg h1 h2 =>
          obtain ⟨rfl, c, e2, e3, e4, e5, e6, e7, e8⟩ := row_info hw hro (hc1 ▸ hg)
          by_cases hz : len = 0
          · subst hz
            simp only [List.take_zero]
            exact ⟨[], fun _ => undef, nothing, by simp, norows⟩
          · have hl : ((es.drop off).take len).length = len := by simp; omega
            have hi0 : off < es.length := by omega
            have hss : s'' = s := by
              have h5 := hlen 0 (by omega)
              simp only [List.getElem_take, List.getElem_drop, Nat.add_zero] at h5
              rw [← e6 off hi0, h5]
            subst hss
            have hrow : RowsV G (fun m => c.getD (off * s'' + m) undef) s'' ((es.drop off).take len) := by
              refine ⟨hlen, fun i j hi hj => ?_⟩
              have hi' : off + i < es.length := by rw [hl] at hi; omega
              have he : ((es.drop off).take len)[i] = es[off + i] := by simp
              simp only [he] at hj ⊢
              have := e7 (off + i) j hi' hj
              have e9 : off * s'' + (i * s'' + j) = (off + i) * s'' + j := by rw [Nat.add_mul]; omega
              rw [e9]; exact this
            rw [hl]
            refine ⟨_, _, src_cells hk b (off * s'') len (cap - off) s'' (fun m => c.getD (off * s'' + m) undef) (fun m hm => ?_) (fun m hm => hrow.at hone hs (by rw [hl]; exact hm)), rfl, hrow⟩
            rw [e3.cell]
            have hlt : off * s'' + m < c.size := by
              have : (off + len) * s'' ≤ cap * s'' := Nat.mul_le_mul_right _ (by omega)
              rw [Nat.add_mul] at this; omega
            simp [Array.getD_eq_getD_getElem?, hlt]
      · cases he
  · cases he

/-- There is room, in a block that is ours. -/
theorem run_app_room {t ty e : TypeId} {i : TypeInfo} (ht : P.underlying t = some (.slice e)) (hi : P.info? e = some i) {g sLen sCap : Nat} {cur : Array Value} (hg : BlockIs w g cur)
    {x : Value} {m : Nat} {news : List Value} (hs : Src P i.size t x m news w) (hroom : sLen + m ≤ sCap) (hfit : sLen * i.size + news.length ≤ cur.size) :
    (Builtin.append_ #[t, t] ty #[.slice (some ⟨g, 0, none⟩) sLen sCap, x]).run P w = .ok (.slice (some ⟨g, 0, none⟩) (sLen + m) sCap) (w.setRow g (putAt cur (sLen * i.size) news)) := by
  have hst := run_stores (P := P) hg hfit hs.one
  simp [Builtin.append_, run_underlying ht, sizeOf, typeInfo, hi, hs.len, hroom, hs.cells, Addr.add_lit, hst]

theorem zeros_size (z : Array Value) (m : Nat) : (Builtin.zeroCells z m).size = m * z.size := by simp [Builtin.zeroCells]

/-- A row grows where it lies. -/
theorem grow_in (h : Sim N G own L S a w) {id s tot b cap : Nat} {es ys : List (List V)} (hro : rowAt S.hp id = some (s, es)) (htot : es.length = tot) (hg : G.rows id tot = some (.at b s cap)) (_hs : 0 < s)
    {f : Nat → Value} (hy : RowsV G f s ys) (hye : ∀ e ∈ ys, e.all V.oneB = true) (hes : ∀ e ∈ es, e.all V.oneB = true) (hroom : tot + ys.length ≤ cap) {c : Array Value} (hb : BlockIs w b c) (hob : own b = some (.obj id)) (hsz : c.size = cap * s) (hrow : RowsV G (fun m => c.getD m undef) s es) :
    ∃ G', Sim N G' own L { S with hp := S.hp.set id (.row s (es ++ ys)), dirty := addD S.base id S.dirty } a (w.setRow b (putAt c (tot * s) ((List.range (ys.length * s)).map f))) ∧
      Foot G own w G' own (w.setRow b (putAt c (tot * s) ((List.range (ys.length * s)).map f))) ∧ VRep G' (.slice (some ⟨b, 0, none⟩) (tot + ys.length) cap) (.row id (tot + ys.length) 0 (tot + ys.length)) := by
  subst htot
  have hlt : id < S.hp.length := (List.getElem?_eq_some_iff.1 (rowAt_some hro)).1
  have hle : G.Le (G.withRow id (es.length + ys.length) (.at b s cap)) := by
    by_cases h0 : ys.length = 0
    · refine ⟨fun _ _ _ x => x, fun _ _ x => x, fun i t r x => ?_⟩
      simp only [Gh.withRow]
      split
      · rename_i hh
        obtain ⟨rfl, rfl⟩ := hh
        rw [h0, Nat.add_zero, hg] at x; exact x
      · exact x
    · refine Gh.le_withRow ?_
      cases hx : G.rows id (es.length + ys.length) with
      | none => rfl
      | some r => have := h.wok.top id s es (rowAt_some hro) _ _ hx; omega
  have hfit : es.length * s + ((List.range (ys.length * s)).map f).length ≤ c.size := by
    simp only [List.length_map, List.length_range]
    rw [hsz, ← Nat.add_mul]; exact Nat.mul_le_mul_right _ hroom
  have hrows : RowsV G (fun m => (putAt c (es.length * s) ((List.range (ys.length * s)).map f)).getD m undef) s (es ++ ys) := by
    refine hrow.append hy (fun m hm => putAt_out hfit m (.inl hm)) (fun m hm => ?_)
    rw [putAt_in hfit _ (by omega) (by simp; omega)]
    simp
  refine ⟨G.withRow id (es.length + ys.length) (.at b s cap), h.change hle rfl (fun _ _ _ _ => rfl) ?_, .write hob _ _ hle rfl, ?_⟩
  · refine h.wok.write hob _ _ hle rfl _ _ (by simp) h.wok.dom (fun i t r hi => ?_) (fun i s' es' hi t r hr => ?_) (fun i o hi => ?_) (fun s' cs hc => .inl ⟨hc, by simp⟩)
    · simp only [Gh.withRow] at hi
      split at hi
      · rename_i hh; omega
      · exact h.wok.domr i t r hi
    · by_cases e : i = id
      · subst e
        simp [hlt] at hi
        obtain ⟨-, rfl⟩ := hi
        simp only [Gh.withRow] at hr
        split at hr
        · rename_i hh; simp; omega
        · have := h.wok.top _ s es (rowAt_some hro) _ _ hr; simp; omega
      · rw [List.getElem?_set_ne (Ne.symm e)] at hi
        simp only [Gh.withRow] at hr
        rw [if_neg (by omega)] at hr
        exact h.wok.top i s' es' hi t r hr
    · by_cases e : i = id
      · subst e
        simp [hlt] at hi
        subst hi
        refine .inr (.inr ⟨b, cap, _, by simp [Gh.withRow], hob, blockIs_setRow hb _, by rw [putAt_size hfit]; exact hsz, by simpa using hroom, hrows.len, fun i j hi hj => (hrows.rep i j hi hj).mono hle, fun e he => (List.mem_append.1 he).elim (hes e) (hye e)⟩)
      · simp only [List.getElem?_set_ne (Ne.symm e)] at hi
        exact .inl ⟨hi, by intro hh; injection hh with hh; exact e hh.symm⟩
  · have := VRep.row (G := G.withRow id (es.length + ys.length) (.at b s cap)) id (es.length + ys.length) 0 (es.length + ys.length) b s cap (by simp [Gh.withRow]) (by omega) hroom
    simpa using this

/-- A row grows, and moves. -/
theorem grow_new (h : Sim N G own L S a w) {w1 : World} (hw1 : w1.heap = w.heap) (h1 : w1.os = w.os) (h2 : w1.tape = w.tape) (h3 : w1.output = w.output) {id s cap : Nat} {es ys : List (List V)} (hro : rowAt S.hp id = some (s, es))
    (hy0 : 0 < ys.length) {c : Array Value} {e : TypeId} (hsz : c.size = cap * s) (hcap : es.length + ys.length ≤ cap) (hr : RowsV G (fun m => c.getD m undef) s (es ++ ys)) (hone : ∀ e ∈ es ++ ys, e.all V.oneB = true) :
    ∃ G' own', Sim N G' own' L { S with hp := S.hp.set id (.row s (es ++ ys)), dirty := addD S.base id S.dirty } a (w1.alloc (.cells c e)) ∧ Foot G own w G' own' (w1.alloc (.cells c e)) ∧
      VRep G' (.slice (some ⟨w.heap.size, 0, none⟩) (es.length + ys.length) cap) (.row id (es.length + ys.length) 0 (es.length + ys.length)) := by
  have hwok : WOK G own S.hp L S.loc w1 := h.wok.frame (by rw [hw1]; exact Nat.le_refl _) (fun b _ => by rw [hw1])
  have hf1 : Foot G own w G own w1 := .frame (by rw [hw1]; exact Nat.le_refl _) (fun b _ => by rw [hw1]) h1 h2 h3
  have hsz1 : w1.heap.size = w.heap.size := by rw [hw1]
  have hlt : id < S.hp.length := (List.getElem?_eq_some_iff.1 (rowAt_some hro)).1
  have hn : G.rows id (es.length + ys.length) = none := by
    cases hx : G.rows id (es.length + ys.length) with
    | none => rfl
    | some r => have := h.wok.top id s es (rowAt_some hro) _ _ hx; omega
  have hle := Gh.le_withRow (r := .at w.heap.size s cap) hn
  refine ⟨G.withRow id (es.length + ys.length) (.at w.heap.size s cap), upd own w1.heap.size (.obj id), h.change hle rfl (fun _ _ _ _ => rfl) ?_, hf1.trans (.newOwn _ _ c e hle rfl), ?_⟩
  · refine hwok.newOwn id (S.hp.set id (.row s (es ++ ys))) _ c e hle rfl ?_ ?_ ?_ ?_
    · intro i b hi; have := h.wok.dom i b hi; simpa using this
    · intro i t r hi
      simp only [Gh.withRow] at hi
      split at hi
      · rename_i hh; simp; omega
      · have := h.wok.domr i t r hi; simpa using this
    · intro i s' es' hi t r hr
      by_cases e : i = id
      · subst e
        simp [hlt] at hi
        obtain ⟨-, rfl⟩ := hi
        simp only [Gh.withRow] at hr
        split at hr
        · rename_i hh; simp; omega
        · have := h.wok.top _ s es (rowAt_some hro) _ _ hr; simp; omega
      · rw [List.getElem?_set_ne (Ne.symm e)] at hi
        simp only [Gh.withRow] at hr
        rw [if_neg (by omega)] at hr
        exact h.wok.top i s' es' hi t r hr
    · intro i o hi
      by_cases e : i = id
      · subst e
        simp [hlt] at hi
        subst hi
        exact .inr (.inr ⟨w1.heap.size, cap, c, by simp [Gh.withRow, hsz1], upd_same .., blockIs_alloc w1 c _, hsz, by simpa using hcap, hr.len, fun i j hi hj => (hr.rep i j hi hj).mono hle, hone⟩)
      · rw [List.getElem?_set_ne (Ne.symm e)] at hi; exact .inl hi
  · have := VRep.row (G := G.withRow id (es.length + ys.length) (.at w.heap.size s cap)) id (es.length + ys.length) 0 (es.length + ys.length) w.heap.size s cap (by simp [Gh.withRow]) (by omega) hcap
    simpa using this

theorem grown_rows {s cap : Nat} {z : Array Value} (hz : z.size = s) {es ys : List (List V)} {olds : List Value} (ho : olds.length = es.length * s) (h1 : RowsV G (fun m => olds.getD m undef) s es)
    {f : Nat → Value} (h2 : RowsV G f s ys) (hcap : es.length + ys.length ≤ cap) :
    ((olds ++ (List.range (ys.length * s)).map f).toArray ++ Builtin.zeroCells z (cap - (es.length + ys.length))).size = cap * s ∧
    RowsV G (fun m => ((olds ++ (List.range (ys.length * s)).map f).toArray ++ Builtin.zeroCells z (cap - (es.length + ys.length))).getD m undef) s (es ++ ys) := by
  refine ⟨?_, h1.append h2 (fun m hm => ?_) (fun m hm => ?_)⟩
  · simp only [Array.size_append, List.size_toArray, List.length_append, List.length_map, List.length_range, zeros_size, hz, ho]
    rw [← Nat.add_mul, ← Nat.add_mul]; congr 1; omega
  · rw [Array.getD_eq_getD_getElem?, Array.getElem?_append_left (by simp; omega), List.getElem?_toArray, List.getElem?_append_left (by omega), List.getD_eq_getElem?_getD]
  · rw [Array.getD_eq_getD_getElem?, Array.getElem?_append_left (by simp; omega), List.getElem?_toArray, List.getElem?_append_right (by omega)]
    have e : es.length * s + m - olds.length = m := by omega
    rw [e]; simp [hm]


theorem ins_app (hF : ∀ f, F.fn f) (h : Sim N G own L S a w) (hd : ∀ t, o.dst = some t → t < N) {s : Nat} {x y : Arg} (hok : okIns P o.op (.app x y s) = true)
    {cl : ClT} (hev : evIns cl o.dst (.app x y s) S = some S') (hn : ∀ a' w', Res N G own w a.defers S' a' w' → next a' w') : o.wpIn F n P a w next Q := by
  obtain ⟨r, S1, hr, hS⟩ := retP_inv hev
  simp only [okIns] at hok
  split at hok
  · rename_i c hop
    split at hok
    · rename_i x' y' t u hcal hargs htys
      simp only [Bool.and_eq_true, beq_iff_eq] at hok
      obtain ⟨⟨⟨hx, hy⟩, rfl⟩, hk⟩ := hok
      split at hk
      · rename_i e hu
        simp only [Bool.and_eq_true, bne_iff_ne] at hk
        obtain ⟨⟨⟨k1, k2⟩, k3⟩, k4⟩ := hk
        obtain ⟨ie, hie, rfl⟩ := sizeB_some k1
        have hpos : 0 < ie.size := Nat.pos_of_ne_zero k2
        obtain ⟨ie', hie', hby⟩ := bytesB_some k3
        rw [hie] at hie'; cases hie'
        rw [hie] at k4
        simp only at k4
        split at k4
        · rename_i z hzz
          simp only [beq_iff_eq] at k4
          have hrunop : ∀ {v : Value} {w' : World}, (Builtin.append_ #[t, t] o.type #[a.eval x', a.eval y']).run P w = .ok v w' → (execOp a.eval o).run P w = .ok (.value v) w' := by
            intro v w' hh
            have ha : c.args = #[x', y'] := by rw [← Array.toArray_toList (xs := c.args), hargs]
            have hty : c.argTypes = #[t, t] := by rw [← Array.toArray_toList (xs := c.argTypes), htys]
            simp [execOp, hop, resolve, hcal, ha, hty, invoke, builtin, hh]
          have fin : ∀ {v : Value} {w' : World}, (Builtin.append_ #[t, t] o.type #[a.eval x', a.eval y']).run P w = .ok v w' → (∃ G' own', Sim N G' own' L S1 a w' ∧ Foot G own w G' own' w' ∧ VRep G' v r ∧ Kp S1.base S1.dirty own w w') → o.wpIn F n P a w next Q := by
            intro v w' hh ⟨G', own', q1, q2, q3, q4⟩
            refine wpIn_of_run hF (by rw [hop]; intro c hc; cases hc) (hrunop hh) ?_
            subst hS
            exact hn _ _ ⟨G', own', L, q1.put hd (.of q3), q2, put_defers .., by cases o.dst <;> exact q4⟩
          unfold appV at hr
          cases hel : elems S.hp (S.arg y) with
          | none => rw [hel] at hr; cases hr
          | some ys =>
            rw [hel] at hr
            simp only [Option.bind_some] at hr
            split at hr
            · rename_i hall
              obtain ⟨hone, news, f, hsrc, rfl, hrows⟩ := src_rep h.wok hu hpos (okArg_rep h hy) hel hall
              split at hr
              · rename_i hx0
                have rx := okArg_rep h hx
                rw [hx0] at rx
                generalize hvx : a.eval x' = vx at rx
                rw [hvx] at fin
                cases rx with
                | nils ad =>
                  split at hr
                  · rename_i hlt
                    simp only [most] at hlt
                    split at hr
                    · rename_i hemp
                      cases hr
                      have h0 : ys = [] := List.isEmpty_iff.1 hemp
                      subst h0
                      exact fin (run_append_nothing w t t o.type e ie hu hie ad 0 0 (Nat.le_refl _) _ (by simpa using hsrc)) ⟨G, own, h, .refl .., .nils ad, Kp.refl _ _ _ _⟩
                    · rename_i hemp
                      cases hr
                      have h0 : 0 < ys.length := by cases ys with | nil => simp at hemp | cons _ _ => simp
                      have hold : (Builtin.firstCells ie.size 0 (.slice ad 0 0)).run P w.drew = .ok ([] : List Value).toArray w.drew := by
                        cases ad with
                        | none => exact run_firstCells_none w.drew _ 0 0 0
                        | some ad => exact run_firstCells_some w.drew ie.size 0 ad 0 0 [] (by simp) (fun j v hj => by simp at hj)
                      have hby2 : (0 + ys.length) * ie.bytes ≤ 140737488355328 := by
                        have : ys.length * ie.bytes ≤ 4294967296 * 32768 := Nat.mul_le_mul (by omega) hby
                        simpa using this
                      have hg0 : 0 < 0 + ys.length := by omega
                      have hrun := run_append_grow_src (P := P) w t t o.type e ie z hu hie hzz ad 0 0 [] hold (a.eval y') ys.length _ hsrc hg0 (by omega) (growslice_fits hg0 hby2)
                      have hge := grownCap_ge w (0 + ys.length) 0 e
                      have norows : RowsV G (fun m => ([] : List Value).getD m undef) ie.size [] := ⟨fun i hi => absurd hi (Nat.not_lt_zero _), fun i _ hi => absurd hi (Nat.not_lt_zero _)⟩
                      obtain ⟨g1, g2⟩ := grown_rows (cap := grownCap w (0 + ys.length) 0 e) k4 (es := []) (olds := []) (by simp) norows hrows (by simpa using hge)
                      simp only [List.length_nil, List.nil_append] at g1 g2
                      obtain ⟨G', own', q1, q2, q3⟩ := newRow_sim h (w1 := w.drew) rfl rfl rfl rfl (e := e) g1 (by omega) g2 hone
                      refine fin hrun ⟨G', own', q1, q2, ?_, .alloc rfl _⟩
                      simp only [Nat.zero_add] at q3 ⊢
                      exact q3
                  · cases hr
              · rename_i id tot off len hx0
                cases hro : rowAt S.hp id with
                | none => rw [hro] at hr; cases hr
                | some p =>
                  obtain ⟨s', es⟩ := p
                  rw [hro] at hr
                  simp only [Option.bind_some] at hr
                  split at hr
                  · rename_i hc1
                    obtain ⟨htot, rfl, rfl, rfl, hlt⟩ := hc1
                    simp only [most] at hlt
                    cases hr
                    have rx := okArg_rep h hx
                    rw [hx0] at rx
                    generalize hvx : a.eval x' = vx at rx
                    rw [hvx] at fin
                    have hby2 : (len + ys.length) * ie.bytes ≤ 140737488355328 := by
                      have : (len + ys.length) * ie.bytes ≤ 4294967296 * 32768 := Nat.mul_le_mul (by omega) hby
                      simpa using this
                    cases rx with
                    | rown _ h0 =>
                      have hes : es = [] := List.length_eq_zero_iff.1 htot
                      subst hes
                      by_cases hy0 : ys.length = 0
                      · have : ys = [] := List.length_eq_zero_iff.1 hy0
                        subst this
                        refine fin (run_append_nothing w t t o.type e ie hu hie none 0 0 (Nat.le_refl _) _ (by simpa using hsrc)) ⟨G, own, ?_, .refl .., ?_, Kp.refl _ _ _ _⟩
                        · refine h.change (.refl G) rfl (fun _ _ _ _ => rfl) ?_
                          have hset : S.hp.set id (.row ie.size ([] ++ [])) = S.hp := by
                            have h1 := rowAt_some hro
                            apply List.ext_getElem?
                            intro i
                            by_cases e : i = id
                            · subst e
                              have := (List.getElem?_eq_some_iff.1 h1).1
                              rw [h1]; simp [this]
                            · rw [List.getElem?_set_ne (Ne.symm e)]
                          simp only [hset]
                          exact h.wok
                        · exact VRep.rown _ h0
                      · have hold : (Builtin.firstCells ie.size 0 (.slice none 0 0)).run P w.drew = .ok ([] : List Value).toArray w.drew := run_firstCells_none w.drew _ 0 0 0
                        have hg0 : 0 < 0 + ys.length := by omega
                        have hrun := run_append_grow_src (P := P) w t t o.type e ie z hu hie hzz none 0 0 [] hold (a.eval y') ys.length _ hsrc hg0 (by omega) (growslice_fits hg0 hby2)
                        have hge := grownCap_ge w (0 + ys.length) 0 e
                        have norows : RowsV G (fun m => ([] : List Value).getD m undef) ie.size [] := ⟨fun i hi => absurd hi (Nat.not_lt_zero _), fun i _ hi => absurd hi (Nat.not_lt_zero _)⟩
                        obtain ⟨g1, g2⟩ := grown_rows (cap := grownCap w (0 + ys.length) 0 e) k4 (es := []) (olds := []) (by simp) norows hrows (by simpa using hge)
                        obtain ⟨G', own', q1, q2, q3⟩ := grow_new h (w1 := w.drew) rfl rfl rfl rfl hro (by omega) (e := e) g1 (by simpa using hge) g2 (by simpa using hone)
                        exact fin hrun ⟨G', own', q1, q2, q3, .alloc rfl _⟩
                    | rowz _ _ _ h0 => exact absurd h0 (Nat.lt_irrefl _)
                    | row _ _ _ _ b s'' cap hg h1 h2 =>
                      obtain ⟨rfl, cc, e2, e3, e4, e5, e6, e7, e8⟩ := row_info h.wok hro (htot ▸ hg)
                      simp only [Nat.zero_mul, Nat.sub_zero] at fin
                      subst htot
                      have hrow : RowsV G (fun m => cc.getD m undef) ie.size es := ⟨e6, e7⟩
                      by_cases hroom : es.length + ys.length ≤ cap
                      · have hfit : es.length * ie.size + ((List.range (ys.length * ie.size)).map f).length ≤ cc.size := by
                          simp only [List.length_map, List.length_range]
                          rw [e4, ← Nat.add_mul]; exact Nat.mul_le_mul_right _ hroom
                        obtain ⟨G', q1, q2, q3⟩ := grow_in h hro rfl hg hpos hrows hone e8 hroom e3 e2 e4 hrow
                        exact fin (run_app_room hu hie e3 hsrc hroom hfit) ⟨G', own, q1, q2, q3, .write e2 (fun id' hh hlt => by cases hh; exact mem_addD.2 (.inl ⟨rfl, hlt⟩)) _⟩
                      · have hg0 : cap < es.length + ys.length := by omega
                        have hold : (Builtin.firstCells ie.size es.length (.slice (some ⟨b, 0, none⟩) es.length cap)).run P w.drew = .ok ((List.range (es.length * ie.size)).map fun m => cc.getD m undef).toArray w.drew := by
                          have := src_cells (P := P) (w := w) hu b 0 es.length cap ie.size (fun m => cc.getD m undef) (fun m hm => ?_) (fun m hm => hrow.at e8 hpos hm)
                          · exact this.cellsD
                          · rw [e3.cell]
                            have hlt : 0 + m < cc.size := by
                              have : es.length * ie.size ≤ cap * ie.size := Nat.mul_le_mul_right _ e5
                              omega
                            simp at hlt
                            simp [Array.getD_eq_getD_getElem?, hlt]
                        have hrun := run_append_grow_src (P := P) w t t o.type e ie z hu hie hzz (some ⟨b, 0, none⟩) es.length cap _ hold (a.eval y') ys.length _ hsrc hg0 (by omega) (growslice_fits hg0 hby2)
                        have hge := grownCap_ge w (es.length + ys.length) cap e
                        have hold2 : RowsV G (fun m => ((List.range (es.length * ie.size)).map fun m => cc.getD m undef).getD m undef) ie.size es := by
                          refine ⟨e6, fun i j hi hj => ?_⟩
                          have hjs : j < ie.size := by rw [e6 i hi] at hj; exact hj
                          have : i * ie.size + ie.size ≤ es.length * ie.size := by rw [← Nat.succ_mul]; exact Nat.mul_le_mul_right _ hi
                          rw [rangeMap_getD (by omega)]
                          exact e7 i j hi hj
                        obtain ⟨g1, g2⟩ := grown_rows (cap := grownCap w (es.length + ys.length) cap e) k4 (by simp) hold2 hrows hge
                        obtain ⟨G', own', q1, q2, q3⟩ := grow_new h (w1 := w.drew) rfl rfl rfl rfl hro (by omega) (e := e) g1 hge g2 (fun e he => (List.mem_append.1 he).elim (e8 e) (hone e))
                        exact fin hrun ⟨G', own', q1, q2, q3, .alloc rfl _⟩
                  · cases hr
              · cases hr
            · cases hr
        · cases k4
      · cases hk
    · cases hok
  · cases hok
end
end Go.Eng
