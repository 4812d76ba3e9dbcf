/- The engine, part 11: literals, boxes, stores, rows. -/
import Derived.Test.YtfjgcfloallohaaEng10
namespace Go.Eng
open Go

section
variable {F : Fence} {n : Nat} {P : Program} {o : Oper} {a : Act} {w : World} {Q : Exit → Act → World → Prop}
variable {N : Nat} {G : Gh} {own : Own} {L : Nat → Option Nat} {S S' : St} {next : Act → World → Prop}

theorem setSubs_some {α : Type} {cs r vs : List α} {off : Nat} (h : setSubs cs off vs = some r) : off + vs.length ≤ cs.length ∧ r = cs.take off ++ vs ++ cs.drop (off + vs.length) := by
  unfold setSubs at h
  split at h
  · exact ⟨by assumption, by injection h with h; exact h.symm⟩
  · cases h
theorem setSubs_len {α : Type} {cs r vs : List α} {off : Nat} (h : setSubs cs off vs = some r) : r.length = cs.length := by
  obtain ⟨h1, rfl⟩ := setSubs_some h; simp; omega
theorem setSubs_get {α : Type} {cs r vs : List α} {off : Nat} (h : setSubs cs off vs = some r) (j : Nat) (hj : j < r.length) :
    (∃ _h1 : off ≤ j, ∃ h2 : j - off < vs.length, r[j] = vs[j - off]) ∨ ((j < off ∨ off + vs.length ≤ j) ∧ ∃ h2 : j < cs.length, r[j] = cs[j]) := by
  have hl := setSubs_len h
  obtain ⟨h1, rfl⟩ := setSubs_some h
  by_cases c1 : j < off
  · refine .inr ⟨.inl c1, by omega, ?_⟩
    rw [List.getElem_append_left (by simp; omega), List.getElem_append_left (by simp; omega)]; simp
  · by_cases c2 : j < off + vs.length
    · refine .inl ⟨by omega, by omega, ?_⟩
      rw [List.getElem_append_left (by simp; omega), List.getElem_append_right (by simp; omega)]
      congr 1; simp; omega
    · refine .inr ⟨.inr (by omega), by omega, ?_⟩
      rw [List.getElem_append_right (by simp; omega)]
      simp only [List.getElem_drop, List.length_append, List.length_take]
      congr 1; omega

/-- The cells of a value. -/
theorem cells_rep {v : Value} {x : V} (h : SRep G L v x) (ho : x.cells.all V.oneB = true) : v.cells.size = x.cells.length ∧ CRep G (fun j => v.cells.getD j undef) x.cells ∧ ∀ u ∈ v.cells.toList, u.oneCell' = true := by
  have one : ∀ {u : Value} {y : V}, VRep G u y → y.oneB = true → u.oneCell' = true := by
    intro u y hu hy
    cases hu with
    | p hp => cases hp <;> rfl
    | agg => cases hy
    | tup => cases hy
    | undef => cases hy
    | _ => rfl
  cases x with
  | agg xs =>
    obtain ⟨c, rfl, hs, hc⟩ := rep_agg h
    refine ⟨hs, hc, fun u hu => ?_⟩
    simp only [Value.cells] at hu
    obtain ⟨j, hj, rfl⟩ := List.mem_iff_getElem.1 hu
    have hj' : j < xs.length := by simpa [hs] using hj
    have := hc j hj'
    simp only [V.cells, List.all_eq_true] at ho
    have e : c.getD j undef = c.toList[j] := by
      have : j < c.size := by simpa using hj
      simp [Array.getD_eq_getD_getElem?, this]
    rw [← e]
    exact one this (ho _ (List.getElem_mem hj'))
  | tup xs => simp [V.cells, V.oneB] at ho
  | undef => simp [V.cells, V.oneB] at ho
  | lptr s o => simp [V.cells, V.oneB] at ho
  | _ =>
    have hv : VRep G v _ := h
    have h1 := one hv (by rfl)
    have hc : v.cells = #[v] := by cases v <;> first | rfl | (simp [Value.oneCell'] at h1)
    rw [hc]
    refine ⟨rfl, fun j hj => ?_, fun u hu => ?_⟩
    · have hj0 : j = 0 := by simpa [V.cells] using hj
      subst hj0
      exact hv
    · simp at hu; subst hu; exact h1

theorem retP_inv {S' : St} {d : Option Nat} {r : Option (V × St)} (h : retP d r = some S') : ∃ x S1, r = some (x, S1) ∧ S' = S1.put d x := by
  cases r with
  | none => cases h
  | some p => obtain ⟨x, S1⟩ := p; exact ⟨x, S1, rfl, by simpa using h.symm⟩

/-- Slots do not mind what else is known. -/
theorem Sim.change (h : Sim N G own L S a w) {G' : Gh} {own' : Own} {L' : Nat → Option Nat} {S1 : St} {w' : World} (hle : G.Le G') (henv : S1.env = S.env)
    (hL : ∀ t s off, getE S.env t = .lptr s off → L' s = L s) (hw : WOK G' own' S1.hp L' S1.loc w') : Sim N G' own' L' S1 a w' where
  size := h.size
  slot t := by
    rw [henv]
    have := h.slot t
    cases hx : getE S.env t with
    | lptr s off =>
      rw [hx] at this
      obtain ⟨b, h1, h2⟩ := this
      exact ⟨b, (hL t s off hx).trans h1, h2⟩
    | _ => rw [hx] at this; exact VRep.mono hle this
  wok := hw

theorem noStale_get : ∀ {e : List (Nat × V)} {s t s' off : Nat}, noStale e s = true → getE e t = .lptr s' off → s' ≠ s
  | [], _, _, _, _, _, h => by simp at h
  | (k, v) :: r, s, t, s', off, hs, h => by
    simp only [noStale_cons, Bool.and_eq_true] at hs
    simp only [getE_cons] at h
    split at h
    · subst h; simpa using hs.1
    · exact noStale_get hs.2 h

/-- A new box: local, or in the heap. -/
theorem box_sim (h : Sim N G own L S a w) {d : Option Nat} {cs : List V} {l : Bool} {x : V} {S1 : St} (hb : boxI S d cs l = some (x, S1)) (c : Array Value) (e : TypeId)
    (hc : c.size = cs.length) (hr : CRep G (fun j => c.getD j undef) cs) :
    ∃ G' own' L', Sim N G' own' L' S1 a (w.alloc (.cells c e)) ∧ Foot G own w G' own' (w.alloc (.cells c e)) ∧ SRep G' L' (.pointer (some ⟨w.heap.size, 0, none⟩)) x := by
  unfold boxI at hb
  split at hb
  · rename_i t
    split at hb
    · rename_i hns
      cases hb
      refine ⟨G, upd own w.heap.size (.loc t), upd L t w.heap.size, h.change (.refl G) rfl (fun t' s off hx => ?_) (h.wok.newLoc t cs c e hc hr), .newOwn _ G c e (.refl G) rfl, w.heap.size, upd_same .., rfl⟩
      exact upd_ne _ _ (noStale_get hns hx)
    · cases hb
  · cases hb
    have hn := h.wok.blk_new
    refine ⟨G.withBox S.hp.length w.heap.size, upd own w.heap.size (.obj S.hp.length), L, h.change (Gh.le_withBox hn) rfl (fun _ _ _ _ => rfl) ?_, .newOwn _ _ c e (Gh.le_withBox hn) rfl, ?_⟩
    · refine h.wok.newObj (.box cs) _ c e (Gh.le_withBox hn) rfl ?_ ?_ ?_ ?_ ?_
      · intro i b hi
        simp only [Gh.withBox] at hi
        by_cases e : i = S.hp.length
        · omega
        · rw [upd_ne _ _ e] at hi; have := h.wok.dom _ _ hi; omega
      · intro i t r hi; have := h.wok.domr i t r hi; omega
      · intro i t r _ hi; exact hi
      · intro s es hh; cases hh
      · exact ⟨w.heap.size, c, upd_same .., upd_same .., blockIs_alloc w c e, hc, hr.mono (Gh.le_withBox hn)⟩
    · exact VRep.ptr _ _ _ (upd_same ..)
  · cases hb

theorem ins_al (hF : ∀ f, F.fn f) (h : Sim N G own L S a w) (hd : ∀ t, o.dst = some t → t < N) {zero : List V} {l : Bool} (hok : okIns P o.op (.al zero l) = true)
    {cl : ClT} (hev : evIns cl o.dst (.al zero l) S = some S') (hn : ∀ a' w', Res N G own w a.defers S' a' w' → next a' w') : o.wpIn F n P a w next Q := by
  obtain ⟨x, S1, hr, hS⟩ := retP_inv hev
  simp only [okIns] at hok
  split at hok
  · rename_i t hop
    unfold zeroB at hok
    split at hok
    · rename_i i hi
      split at hok
      · rename_i z hz
        obtain ⟨h1, h2⟩ := okCells_arr (G := G) hok
        obtain ⟨G', own', L', hs, hf, hv⟩ := box_sim h hr z.cells t h1 h2
        refine wpIn_of_run hF (by rw [hop]; intro c hc; cases hc) (r := .ok (.value (.pointer (some ⟨w.heap.size, 0, none⟩))) (w.alloc (.cells z.cells t))) ?_ ?_
        · simp [execOp, hop, Instr.alloc, zeroValue, typeInfo, hi, hz, newVar, newRow]
        · subst hS
          exact hn _ _ ⟨G', own', L', hs.put hd hv, hf, put_defers .., .alloc rfl _⟩
      · cases hok
    · cases hok
  · cases hok

theorem ins_bx (hF : ∀ f, F.fn f) (h : Sim N G own L S a w) (hd : ∀ t, o.dst = some t → t < N) {y : Arg} {m : Nat} {l : Bool} (hok : okIns P o.op (.bx y m l) = true)
    {cl : ClT} (hev : evIns cl o.dst (.bx y m l) S = some S') (hn : ∀ a' w', Res N G own w a.defers S' a' w' → next a' w') : o.wpIn F n P a w next Q := by
  obtain ⟨x, S1, hr, hS⟩ := retP_inv hev
  simp only [okIns] at hok
  split at hok
  · rename_i t u hop
    unfold bxI at hr
    split at hr
    · rename_i hc
      obtain ⟨h1, h2, -⟩ := cells_rep (okArg_rep h hok) hc.2
      obtain ⟨G', own', L', hs, hf, hv⟩ := box_sim h hr (a.eval u).cells t h1 h2
      refine wpIn_of_run hF (by rw [hop]; intro c hc; cases hc) (r := .ok (.value (.pointer (some ⟨w.heap.size, 0, none⟩))) (w.alloc (.cells (a.eval u).cells t))) ?_ ?_
      · simp [execOp, hop, Instr.box, newVar, newRow]
      · subst hS
        exact hn _ _ ⟨G', own', L', hs.put hd hv, hf, put_defers .., .alloc rfl _⟩
    · cases hr
  · cases hok

theorem alp_boxI {d : Option Nat} {cs : List V} {x : V} {S1 : St} (h : alpI S d cs = some (x, S1)) : boxI S d cs true = some (x, S1) := by
  unfold alpI at h
  split at h
  · split at h
    · rename_i hc; simp only [boxI, if_pos hc.1]; exact h
    · cases h
  · cases h

theorem ins_alp (hF : ∀ f, F.fn f) (h : Sim N G own L S a w) (hd : ∀ t, o.dst = some t → t < N) {zero : List V} (hok : okIns P o.op (.alp zero) = true)
    {cl : ClT} (hev : evIns cl o.dst (.alp zero) S = some S') (hn : ∀ a' w', Res N G own w a.defers S' a' w' → next a' w') : o.wpIn F n P a w next Q := by
  obtain ⟨x, S1, hr, hS⟩ := retP_inv hev
  refine ins_al (l := true) (cl := cl) hF h hd hok ?_ hn
  show retP o.dst (boxI S o.dst zero true) = some S'
  rw [alp_boxI hr, hS]; rfl

theorem ins_bxp (hF : ∀ f, F.fn f) (h : Sim N G own L S a w) (hd : ∀ t, o.dst = some t → t < N) {y : Arg} {m : Nat} (hok : okIns P o.op (.bxp y m) = true)
    {cl : ClT} (hev : evIns cl o.dst (.bxp y m) S = some S') (hn : ∀ a' w', Res N G own w a.defers S' a' w' → next a' w') : o.wpIn F n P a w next Q := by
  obtain ⟨x, S1, hr, hS⟩ := retP_inv hev
  refine ins_bx (l := true) (m := m) (cl := cl) hF h hd hok ?_ hn
  show retP o.dst (bxI S o.dst (S.arg y) m true) = some S'
  unfold bxpI at hr
  unfold bxI
  split at hr
  · rename_i hc
    rw [if_pos hc, alp_boxI hr, hS]; rfl
  · cases hr

theorem ins_nrow (hF : ∀ f, F.fn f) (h : Sim N G own L S a w) (hd : ∀ t, o.dst = some t → t < N) {s : Nat} (hok : okIns P o.op (.nrow s) = true)
    {cl : ClT} (hev : evIns cl o.dst (.nrow s) S = some S') (hn : ∀ a' w', Res N G own w a.defers S' a' w' → next a' w') : o.wpIn F n P a w next Q := by
  have hev' : retP o.dst (some (V.row S.hp.length 0 0 0, { S with hp := S.hp ++ [DObj.row s []] })) = some S' := hev
  obtain ⟨x, S1, hr, hS⟩ := retP_inv hev'
  cases hr
  simp only [okIns] at hok
  have hnew := h.wok.row_new 0
  have hle := Gh.le_withRow (r := .nil) hnew
  have hsim : Sim N (G.withRow S.hp.length 0 .nil) own L { S with hp := S.hp ++ [DObj.row s []] } a w := by
    refine h.change hle rfl (fun _ _ _ _ => rfl) ⟨h.wok.imm, ?_, ?_, ?_, ?_, ?_, h.wok.noI, h.wok.lt, h.wok.ilt⟩
    · intro i b hi; have := h.wok.dom i b hi; simp; omega
    · intro i t r hi
      simp only [Gh.withRow] at hi
      split at hi
      · rename_i hh; simp; omega
      · have := h.wok.domr i t r hi; simp; omega
    · intro i s' es hi t r hr
      simp only [Gh.withRow] at hr
      split at hr
      · rename_i hh; omega
      · rcases get_snoc hi with hi | ⟨rfl, -⟩
        · exact h.wok.top i s' es hi t r hr
        · rw [h.wok.row_new t] at hr; cases hr
    · intro i o' hi
      rcases get_snoc hi with hi | ⟨rfl, rfl⟩
      · exact (h.wok.obj i o' hi).frame hle (fun _ x => x) (fun _ _ => rfl)
      · exact .inl ⟨rfl, by simp [Gh.withRow]⟩
    · intro s' cs hs; exact (h.wok.locs s' cs hs).frame hle rfl (fun _ x => x) (fun _ _ => rfl)
  have hfoot : Foot G own w (G.withRow S.hp.length 0 .nil) own w := ⟨hle, Nat.le_refl _, fun _ _ _ => rfl, fun _ _ x => .inl x, fun _ _ _ x => .inl x, rfl, rfl, rfl⟩
  have hv : SRep (G.withRow S.hp.length 0 .nil) L (.slice none 0 0) (.row S.hp.length 0 0 0) := VRep.rown _ (by simp [Gh.withRow])
  subst hS
  split at hok
  · rename_i hop
    exact wpIn_of_run hF (by rw [hop]; intro c hc; cases hc) (r := .ok (.value (.slice none 0 0)) w) (by simp [execOp, hop, Act.eval]) (hn _ _ ⟨_, own, L, hsim.put hd hv, hfoot, put_defers .., Kp.refl _ _ _ _⟩)
  · rename_i hop
    exact wpIn_of_run hF (by rw [hop]; intro c hc; cases hc) (r := .ok (.value (.slice none 0 0)) w) (by simp [execOp, hop, Act.eval]) (hn _ _ ⟨_, own, L, hsim.put hd hv, hfoot, put_defers .., Kp.refl _ _ _ _⟩)
  · cases hok

end
end Go.Eng
