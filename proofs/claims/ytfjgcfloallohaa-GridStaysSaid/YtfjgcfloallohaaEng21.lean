/- The engine, part 21: how an activation ends. -/
import Derived.Test.YtfjgcfloallohaaEng20
namespace Go.Eng
open Go

theorem bury_len : ∀ (ids : List Nat) (H : Heap), (bury H ids).length = H.length
  | [], _ => rfl
  | i :: r, H => by simp only [bury]; rw [bury_len r]; simp
theorem bury_get : ∀ (ids : List Nat) (H : Heap) (i : Nat) (o : DObj), (bury H ids)[i]? = some o → (i ∈ ids ∧ o = .dead) ∨ (i ∉ ids ∧ H[i]? = some o)
  | [], H, i, o, h => .inr ⟨by simp, h⟩
  | k :: r, H, i, o, h => by
    simp only [bury] at h
    rcases bury_get r _ i o h with ⟨h1, h2⟩ | ⟨h1, h2⟩
    · exact .inl ⟨List.mem_cons_of_mem _ h1, h2⟩
    · by_cases e : k = i
      · subst e
        have hlt : k < H.length := by
          have := (List.getElem?_eq_some_iff.1 h2).1
          simpa using this
        simp [hlt] at h2
        exact .inl ⟨List.mem_cons_self, h2.symm⟩
      · rw [List.getElem?_set_ne e] at h2
        exact .inr ⟨by simp [Ne.symm e, h1], h2⟩

/-- The cells of what is buried hold for good. -/
def Gh.bury (G : Gh) (own : Own) (w : World) (ids : List Nat) : Gh :=
  { G with I := fun b o v => G.I b o v ∨ ((∃ id ∈ ids, own b = some (.obj id)) ∧ w.cell? ⟨b, o, none⟩ = some v) }
def buryOwn (own : Own) (ids : List Nat) : Own := fun b => match own b with
  | some (.obj id) => if id ∈ ids then none else some (.obj id)
  | x => x
theorem buryOwn_some {own : Own} {ids : List Nat} {b : Nat} {k : Key} (h : buryOwn own ids b = some k) : own b = some k := by
  unfold buryOwn at h
  split at h
  · rename_i id ho
    split at h
    · cases h
    · rw [ho]; exact h
  · exact h
theorem buryOwn_none {own : Own} {ids : List Nat} {b id : Nat} (h : own b = some (.obj id)) (hi : id ∈ ids) : buryOwn own ids b = none := by simp [buryOwn, h, hi]
theorem buryOwn_obj {own : Own} {ids : List Nat} {b id : Nat} (h : own b = some (.obj id)) (hi : id ∉ ids) : buryOwn own ids b = some (.obj id) := by simp [buryOwn, h, hi]
theorem buryOwn_loc {own : Own} {ids : List Nat} {b s : Nat} (h : own b = some (.loc s)) : buryOwn own ids b = some (.loc s) := by simp [buryOwn, h]
theorem Gh.le_bury (G : Gh) (own : Own) (w : World) (ids : List Nat) : G.Le (G.bury own w ids) := ⟨fun _ _ _ h => .inl h, fun _ _ h => h, fun _ _ _ h => h⟩

section
variable {G : Gh} {own : Own} {H : Heap} {L : Nat → Option Nat} {loc : List (Nat × List V)} {w : World}

theorem WOK.bury (h : WOK G own H L loc w) (ids : List Nat) : WOK (G.bury own w ids) (buryOwn own ids) (bury H ids) (fun _ => none) [] w where
  imm b o v hi := by
    rcases hi with hi | ⟨_, hi⟩
    · exact h.imm b o v hi
    · exact hi
  dom i b hb := by rw [bury_len]; exact h.dom i b hb
  domr i t r hr := by rw [bury_len]; exact h.domr i t r hr
  top i s es hi t r hr := by
    rcases bury_get ids H i _ hi with ⟨_, h2⟩ | ⟨_, h2⟩
    · cases h2
    · exact h.top i s es h2 t r hr
  obj i o hi := by
    rcases bury_get ids H i _ hi with ⟨_, h2⟩ | ⟨h1, h2⟩
    · subst h2; trivial
    · exact (h.obj i o h2).frame (G.le_bury own w ids) (fun b hb => buryOwn_obj hb h1) (fun _ _ => rfl)
  locs s cs hs := by simp at hs
  noI b o v hi := by
    rcases hi with hi | ⟨⟨id, h1, h2⟩, _⟩
    · cases hx : buryOwn own ids b with
      | none => rfl
      | some k => have := buryOwn_some hx; rw [h.noI b o v hi] at this; cases this
    · exact buryOwn_none h2 h1
  lt b k hk := h.lt b k (buryOwn_some hk)
  ilt b o v hi := by
    rcases hi with hi | ⟨⟨id, h1, h2⟩, _⟩
    · exact h.ilt b o v hi
    · exact h.lt b _ h2

/-- More that holds for good. -/
theorem WOK.moreI (h : WOK G own H L loc w) {I : Nat → Nat → Value → Prop} (hle : ∀ b o v, G.I b o v → I b o v) (himm : ∀ b o v, I b o v → w.cell? ⟨b, o, none⟩ = some v) (hno : ∀ b o v, I b o v → own b = none)
    (hlt : ∀ b o v, I b o v → b < w.heap.size) : WOK { G with I := I } own H L loc w where
  imm := himm
  dom := h.dom
  domr := h.domr
  top := h.top
  obj i o hi := (h.obj i o hi).frame ⟨hle, fun _ _ h => h, fun _ _ _ h => h⟩ (fun _ x => x) (fun _ _ => rfl)
  locs s cs hs := (h.locs s cs hs).frame ⟨hle, fun _ _ h => h, fun _ _ _ h => h⟩ rfl (fun _ x => x) (fun _ _ => rfl)
  noI := hno
  lt := h.lt
  ilt := hlt

theorem allO_some {α β : Type} {f : α → Option β} : ∀ {l : List α} {r : List β}, allO f l = some r → l.length = r.length ∧ ∀ i (hi : i < l.length) (hj : i < r.length), f (l[i]) = some (r[i])
  | [], r, h => by cases h; exact ⟨rfl, fun i hi => absurd hi (Nat.not_lt_zero _)⟩
  | x :: l, r, h => by
    simp only [allO] at h
    split at h
    · rename_i y ys h1 h2
      cases h
      obtain ⟨q1, q2⟩ := allO_some h2
      refine ⟨by simp [q1], fun i hi hj => ?_⟩
      cases i with
      | zero => exact h1
      | succ i => exact q2 i (by simpa using hi) (by simpa using hj)
    · cases h

theorem frz_rep (h : WOK G own H L loc w) {base : Nat} {ids : List Nat} : ∀ (d : Nat) {v : Value} {raw : V} {x : PV}, VRep G v raw → frz base H d raw = some x → (∀ i ∈ rowIds base H d raw, i ∈ ids) → PRep (G.bury own w ids).I v x := by
  have hle := G.le_bury own w ids
  intro d
  induction d with
  | zero =>
    intro v raw x hv hf hids
    cases raw <;> simp only [frz] at hf <;> cases hf
    · cases hv with | p hp => exact hp.mono hle.I
    · cases hv with | nils ad => exact .sl0 ad 0
  | succ d ih =>
    intro v raw x hv hf hids
    cases raw with
    | p y => simp only [frz] at hf; cases hf; cases hv with | p hp => exact hp.mono hle.I
    | nils => simp only [frz] at hf; cases hf; cases hv with | nils ad => exact .sl0 ad 0
    | row id tot off len =>
      simp only [frz] at hf
      split at hf
      · rename_i hb
        simp only [rowIds, if_pos hb, List.mem_cons] at hids
        have hid : id ∈ ids := hids id (.inl rfl)
        simp only [elems] at hf hids
        cases hro : rowAt H id with
        | none => rw [hro] at hf; cases hf
        | some p =>
          obtain ⟨s', es⟩ := p
          rw [hro] at hf hids
          simp only [Option.bind_some] at hf hids
          by_cases hc1 : es.length = tot
          · rw [if_pos hc1] at hf hids
            simp only [Option.bind_some, Option.getD_some] at hf hids
            cases hal : allO (allO (frz base H d)) ((es.drop off).take len) with
            | none => rw [hal] at hf; cases hf
            | some ys =>
              rw [hal] at hf
              cases hf
              obtain ⟨a1, a2⟩ := allO_some hal
              cases hv with
              | rown _ h0 =>
                have : ys = [] := List.length_eq_zero_iff.1 (by rw [← a1]; simp)
                subst this; exact .sl0 _ _
              | rowz _ _ _ h0 ad cap =>
                have : ys = [] := List.length_eq_zero_iff.1 (by rw [← a1]; simp)
                subst this; exact .sl0 _ _
              | row _ _ _ _ b s'' cap hg h1 h2 =>
                obtain ⟨rfl, c, e2, e3, e4, e5, e6, e7, e8⟩ := row_info h hro (hc1 ▸ hg)
                have hl : ((es.drop off).take len).length = len := by simp; omega
                by_cases hz : len = 0
                · have : ys = [] := List.length_eq_zero_iff.1 (by rw [← a1, hl, hz])
                  subst this; subst hz; exact .sl0 _ _
                · have hyl : ys.length = len := by rw [← a1, hl]
                  have hget : ∀ i (hi : i < len), ((es.drop off).take len)[i]'(by omega) = es[off + i]'(by omega) := fun i hi => by simp
                  have hel : ∀ i (hi : i < len), ∃ (q : es[off + i]'(by omega) ∈ es), allO (frz base H d) (es[off + i]'(by omega)) = some (ys[i]'(by omega)) := fun i hi => by
                    have := a2 i (by omega) (by omega)
                    rw [hget i hi] at this
                    exact ⟨List.getElem_mem _, this⟩
                  have key : PRep (G.bury own w ids).I (.slice (some ⟨b, off * s'', none⟩) ys.length (cap - off)) (.sl ys) := by
                    refine .sl b (off * s'') (cap - off) s'' _ (fun i j => c.getD ((off + i) * s'' + j) undef) (by omega) (by omega) (fun i hi => ?_) (fun i j hi hj => ?_) (fun i j hi hj => ?_)
                    · obtain ⟨-, q⟩ := hel i (by omega)
                      rw [← (allO_some q).1]; exact e6 _ _
                    · refine .inr ⟨⟨id, hid, e2⟩, ?_⟩
                      rw [hyl] at hi
                      rw [e3.cell]
                      have hlt : off * s'' + i * s'' + j < c.size := by
                        have h9 : (off + i) * s'' + s'' ≤ cap * s'' := by rw [← Nat.succ_mul]; exact Nat.mul_le_mul_right _ (by omega)
                        rw [Nat.add_mul] at h9; omega
                      have he : off * s'' + i * s'' + j = (off + i) * s'' + j := by rw [Nat.add_mul]
                      rw [he] at hlt ⊢
                      simp [Array.getD_eq_getD_getElem?, hlt]
                    · rw [hyl] at hi
                      obtain ⟨-, q⟩ := hel i hi
                      obtain ⟨r1, r2⟩ := allO_some q
                      have hj' : j < (es[off + i]'(by omega)).length := by omega
                      refine ih (e7 (off + i) j (by omega) hj') (r2 j hj' hj) (fun k hk => hids k (.inr ?_))
                      refine List.mem_flatMap.2 ⟨es[off + i]'(by omega), ?_, List.mem_flatMap.2 ⟨_, List.getElem_mem hj', hk⟩⟩
                      rw [← hget i hi]; exact List.getElem_mem _
                  rw [hyl] at key
                  exact key
          · rw [if_neg hc1] at hf; cases hf
      · cases hf
    | _ => simp only [frz] at hf; cases hf

theorem freeze_rep (h : WOK G own H L loc w) {S : St} (hH : S.hp = H) {ids : List Nat} {v : Value} {raw x : V} (hv : SRep G L v raw) (hf : freeze S raw = some x) (hids : ∀ i ∈ rowIds S.base S.hp deep raw, i ∈ ids) :
    VRep (G.bury own w ids) v x := by
  have hle := G.le_bury own w ids
  unfold freeze at hf
  split at hf
  · cases hf
    cases hv with | nils ad => exact .p (.sl0 ad 0)
  · rename_i id tot off len
    split at hf
    · cases hfr : frz S.base S.hp deep (.row id tot off len) with
      | none => rw [hfr] at hf; cases hf
      | some y =>
        rw [hfr] at hf
        cases hf
        rw [hH] at hfr hids
        exact .p (frz_rep h deep hv hfr hids)
    · cases hf; exact VRep.mono hle hv
  · cases hf
  · cases hf
  · cases hf
  · rename_i h1 h2 h3 h4 h5
    cases hf
    exact VRep.mono hle (hv.vrep h3)

theorem freezes_rep (h : WOK G own H L loc w) {S : St} (hH : S.hp = H) {ids : List Nat} : ∀ {raws xs : List V} {f : Nat → Value}, CRep G f raws → freezes S raws = some xs → (∀ i ∈ raws.flatMap (rowIds S.base S.hp deep), i ∈ ids) →
    raws.length = xs.length ∧ CRep (G.bury own w ids) f xs
  | [], xs, f, _, hf, _ => by cases hf; exact ⟨rfl, fun j hj => absurd hj (Nat.not_lt_zero _)⟩
  | v :: r, xs, f, hc, hf, hids => by
    simp only [freezes] at hf
    split at hf
    · rename_i x ys hx hys
      cases hf
      have h0 := freeze_rep h hH (.of (L := L) (hc 0 (by simp))) hx (fun i hi => hids i (List.mem_flatMap.2 ⟨v, List.mem_cons_self, hi⟩))
      obtain ⟨q1, q2⟩ := freezes_rep h hH (f := fun j => f (j + 1)) (fun j hj => hc (j + 1) (by simpa using hj)) hys (fun i hi => hids i (by
        obtain ⟨u, hu, hiu⟩ := List.mem_flatMap.1 hi
        exact List.mem_flatMap.2 ⟨u, List.mem_cons_of_mem _ hu, hiu⟩))
      refine ⟨by simp [q1], fun j hj => ?_⟩
      cases j with
      | zero => exact h0
      | succ j => exact q2 j (by simpa using hj)
    · cases hf

theorem freezeR_rep (h : WOK G own H L loc w) {S : St} (hH : S.hp = H) {ids : List Nat} {v : Value} {raw x : V} (hv : SRep G L v raw) (hf : freezeR S raw = some x) (hids : ∀ i ∈ rowIdsR S raw, i ∈ ids) :
    VRep (G.bury own w ids) v x := by
  cases raw with
  | agg cs =>
    simp only [freezeR] at hf
    cases hfs : freezes S cs with
    | none => rw [hfs] at hf; cases hf
    | some xs =>
      rw [hfs] at hf
      cases hf
      obtain ⟨c, rfl, hs, hc⟩ := rep_agg hv
      obtain ⟨q1, q2⟩ := freezes_rep h hH hc hfs hids
      exact .agg _ _ (hs.trans q1) q2
  | _ => exact freeze_rep h hH hv hf hids

theorem fzR_rep (h : WOK G own H L loc w) {S : St} (hH : S.hp = H) {th : Bool} {ids : List Nat} {v : Value} {raw x : V} (hv : SRep G L v raw) (hf : fzR th S raw = some x) (hids : th = false → ∀ i ∈ rowIdsR S raw, i ∈ ids) :
    VRep (G.bury own w ids) v x := by
  unfold fzR at hf
  split at hf
  · unfold rawR at hf
    split at hf
    · rename_i ho
      cases hf
      exact VRep.mono (G.le_bury own w ids) (hv.vrep fun s o e => by rw [e] at ho; cases ho)
    · cases hf
  · rename_i ht
    exact freezeR_rep h hH hv hf (hids (by simpa using ht))
end

/-! ### Results -/

def okRs (P : Program) : List ResultVar → List RV → Bool
  | [], [] => true
  | .tmp t :: r, .tmp t' :: s => t == t' && okRs P r s
  | .cell a ty :: r, .cell a' m agg :: s => a == a' && sizeB P ty m && aggB P ty agg && (agg || m == 1) && okRs P r s
  | _, _ => false

def resOf (tmps : Array Value) : ResultVar → Sem Value
  | .tmp t => pure (tmps.getD t undef)
  | .cell a t => do loadVar t (← asAddr (tmps.getD a undef))

section
variable {P : Program} {N : Nat} {G : Gh} {own : Own} {L : Nat → Option Nat} {S : St} {a : Act} {w : World}

theorem results_rep (h : Sim N G own L S a w) {th : Bool} {ids : List Nat} : ∀ {rs : List ResultVar} {vs : List RV} {xs : List V}, okRs P rs vs = true → resVs th S vs = some xs → (th = false → ∀ i ∈ rawIds S vs, i ∈ ids) →
    ∃ us : List Value, (rs.mapM (resOf a.tmps)).run P w = .ok us w ∧ us.length = xs.length ∧ ∀ j (hj : j < xs.length), VRep (G.bury own w ids) (us.getD j undef) (xs[j])
  | [], [], xs, _, hr, _ => by cases hr; exact ⟨[], by simp, rfl, fun j hj => absurd hj (Nat.not_lt_zero _)⟩
  | .tmp t :: r, .tmp t' :: s, xs, hok, hr, hids => by
    simp only [okRs, Bool.and_eq_true, beq_iff_eq] at hok
    obtain ⟨rfl, hok⟩ := hok
    simp only [resVs] at hr
    split at hr
    · rename_i x ys hx hys
      cases hr
      simp only [rawIds] at hids
      obtain ⟨us, u1, u2, u3⟩ := results_rep h hok hys (fun ht i hi => hids ht i (List.mem_append_right _ hi))
      have h0 := fzR_rep (ids := ids) h.wok rfl (h.slot t) hx (fun ht i hi => hids ht i (List.mem_append_left _ hi))
      refine ⟨a.tmps.getD t undef :: us, ?_, by simp [u2], fun j hj => ?_⟩
      · simp [List.mapM_cons, resOf, u1]
      · cases j with
        | zero => exact h0
        | succ j => exact u3 j (by simpa using hj)
    · cases hr
  | .cell ad ty :: r, .cell a' m agg :: s, xs, hok, hr, hids => by
    simp only [okRs, Bool.and_eq_true, beq_iff_eq, Bool.or_eq_true] at hok
    obtain ⟨⟨⟨⟨rfl, o2⟩, o3⟩, o4⟩, hok⟩ := hok
    obtain ⟨i, hi, hsz⟩ := sizeB_some o2
    simp only [resVs] at hr
    split at hr
    · rename_i x ys hx hys
      cases hr
      simp only [rawIds] at hids
      obtain ⟨us, u1, u2, u3⟩ := results_rep h hok hys (fun ht i hi => hids ht i (List.mem_append_right _ hi))
      simp only [resV] at hx
      cases hl : ldCells S (getE S.env ad) m with
      | none => rw [hl] at hx; cases hx
      | some cs =>
        rw [hl] at hx hids
        simp only [Option.bind_some] at hx hids
        cases hag : aggOr agg cs with
        | none => rw [hag] at hx; cases hx
        | some raw =>
          rw [hag] at hx hids
          simp only [Option.bind_some] at hx hids
          obtain ⟨b, off, f, hv, hc, hlen, hrep⟩ := ld_rep h (h.slot ad) hl
          have run := run_loadVar (P := P) (w := w) o3 hi hsz o4 hc
          have hraw : VRep G (if agg = true then .agg ((List.range m).map f).toArray else f 0) raw := by
            rcases agg_rep hag hrep with ⟨rfl, rfl, hra⟩ | ⟨rfl, y, rfl, rfl, hra⟩
            · simpa [hlen] using hra
            · exact hra
          have h0 := fzR_rep (ids := ids) h.wok rfl (.of hraw) hx (fun ht i hi => hids ht i (List.mem_append_left _ hi))
          refine ⟨(if agg = true then .agg ((List.range m).map f).toArray else f 0) :: us, ?_, by simp [u2], fun j hj => ?_⟩
          · simp [List.mapM_cons, resOf, hv, asAddr, run, u1]
          · cases j with
            | zero => exact h0
            | succ j => exact u3 j (by simpa using hj)
    · cases hr
  | .tmp _ :: _, .cell .. :: _, _, hok, _, _ => by simp [okRs] at hok
  | .cell .. :: _, .tmp _ :: _, _, hok, _, _ => by simp [okRs] at hok
  | [], _ :: _, _, hok, _, _ => by simp [okRs] at hok
  | .tmp _ :: _, [], _, hok, _, _ => by simp [okRs] at hok
  | .cell .. :: _, [], _, hok, _, _ => by simp [okRs] at hok

def oneVal : List Value → Value
  | [u] => u
  | us => .tuple us.toArray
theorem run_results {fn : Func} {us : List Value} {tmps : Array Value} (h : (fn.results.toList.mapM (resOf tmps)).run P w = .ok us w) :
    (results fn tmps).run P w = .ok (oneVal us) w := by
  have e : results fn tmps = (do
      let vs ← fn.results.mapM (resOf tmps)
      pure (if h : vs.size = 1 then vs[0] else .tuple vs)) := by
    unfold results resOf; rfl
  rw [e]
  have h1 : (fn.results.mapM (resOf tmps)).run P w = .ok us.toArray w := by simp [Array.mapM_eq_mapM_toList, h]
  simp only [Sem.run_bind, h1, Result.andThen_ok, Sem.run_pure]
  match us with
  | [] => rfl
  | [u] => rfl
  | u :: v :: r => simp [oneVal]

theorem plain_rep {G' : Gh} {v : Value} {x : V} (h : VRep G v x) (hp : x.plainR = true) (hI : ∀ b o u, G.I b o u → G'.I b o u) : VRep G' v x := by
  have one : ∀ {u : Value} {y : V}, VRep G u y → y.plainB = true → VRep G' u y := by
    intro u y hu hy
    cases hu with
    | p hp => exact .p (hp.mono hI)
    | _ => cases hy
  have ag : ∀ {u : Value} {cs : List V}, VRep G u (.agg cs) → cs.all V.plainB = true → VRep G' u (.agg cs) := by
    intro u cs hu hy
    cases hu with
    | agg c _ hs hc => exact .agg c _ hs fun j hj => one (hc j hj) (List.all_eq_true.1 hy _ (List.getElem_mem hj))
  cases x with
  | p y => exact one h rfl
  | nils => cases h with | nils a => exact .nils a
  | agg cs => exact ag h hp
  | tup vs =>
    cases h with
    | tup c _ hs hc =>
      refine .tup c _ hs fun j hj => ?_
      have h1 := hc j hj
      have h2 := List.all_eq_true.1 hp _ (List.getElem_mem hj)
      generalize vs[j] = y at h1 h2
      cases y with
      | agg cs => exact ag h1 h2
      | _ => exact one h1 h2
  | _ => cases hp
end
end Go.Eng
