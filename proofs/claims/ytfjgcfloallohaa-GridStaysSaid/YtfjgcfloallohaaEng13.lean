/- The engine, part 13: literals, new slices. -/
import Derived.Test.YtfjgcfloallohaaEng12
import Derived.Great.BuildSlice
import Derived.Deep.AppendSrc
import Derived.Deep.Upon
namespace Go.Eng
open Go

section
variable {F : Fence} {n : Nat} {P : Program} {o : Oper} {a : Act} {w : World} {Q : Exit → Act → World → Prop}
variable {N : Nat} {G : Gh} {own : Own} {L : Nat → Option Nat} {S S' : St} {next : Act → World → Prop}

theorem fold_putAt {off : Nat} {vs cells : Array Value} (h : off + vs.size ≤ cells.size) :
    (vs.zipIdx.foldl (fun cs (c, j) => cs.setIfInBounds (off + j) c) cells) = putAt cells off vs.toList := by
  rw [← Array.foldl_toList, Array.toList_zipIdx]
  obtain ⟨h1, h2⟩ := Great.foldl_set off vs.toList 0 cells
  apply Array.ext_getElem?
  intro k
  refine (h2 k).trans ?_
  simp only [Nat.add_zero, Array.length_toList]
  have hle : off + vs.toList.length ≤ cells.size := by simpa using h
  show _ = (putAt cells off vs.toList)[k]?
  refine Eq.trans ?_ (List.getElem?_toArray (xs := cells.toList.take off ++ vs.toList ++ cells.toList.drop (off + vs.toList.length))).symm
  split
  · rename_i hc
    rw [List.getElem?_append_left (by simp; omega), List.getElem?_append_right (by simp; omega)]
    congr 1; simp; omega
  · rename_i hc
    rcases Nat.lt_or_ge k off with hk | hk
    · rw [List.append_assoc, List.getElem?_append_left (by simp; omega)]
      simp [hk]
    · by_cases hk2 : k < off + vs.size
      · omega
      · rw [List.getElem?_append_right (by simp; omega)]
        have e : k - (cells.toList.take off ++ vs.toList).length + (off + vs.toList.length) = k := by simp; omega
        simp only [List.getElem?_drop]
        rw [Nat.add_comm, e]; simp

theorem fill_rep (h : Sim N G own L S a w) {places : Nat → Option (Nat × Nat)} : ∀ {ps : List (Nat × Operand)} {qs : List (Nat × Nat × Arg)} {cells : Array Value} {zs cs : List V}, okParts places ps qs = true →
    cells.size = zs.length → CRep G (fun j => cells.getD j undef) zs → fillV zs (qs.map fun (o, n, x) => (o, n, S.arg x)) = some cs →
    ∃ cells', Instr.fill places cells (ps.map fun (i, x) => (i, a.eval x)) = some cells' ∧ cells'.size = cs.length ∧ CRep G (fun j => cells'.getD j undef) cs
  | [], [], cells, zs, cs, _, hsz, hr, hf => by cases hf; exact ⟨cells, rfl, hsz, hr⟩
  | (i, x) :: r, (o', m, b) :: s, cells, zs, cs, hok, hsz, hr, hf => by
    simp only [okParts, Bool.and_eq_true, beq_iff_eq] at hok
    obtain ⟨⟨hp, hx⟩, hrest⟩ := hok
    simp only [List.map_cons, fillV] at hf
    split at hf
    · rename_i hc
      cases hss : setSubs zs o' (S.arg b).cells with
      | none => rw [hss] at hf; cases hf
      | some z =>
        rw [hss] at hf
        simp only [Option.bind_some] at hf
        obtain ⟨c1, c2, c3⟩ := cells_rep (okArg_rep h hx) hc.2
        obtain ⟨p1, p2⟩ := putAt_rep hr hsz c2 c1 hss
        have hle := (setSubs_some hss).1
        obtain ⟨cells', g1, g2, g3⟩ := fill_rep h hrest p1 p2 hf
        refine ⟨cells', ?_, g2, g3⟩
        simp only [List.map_cons]
        unfold Instr.fill
        simp only [hp]
        have e1 : (a.eval x).cells.size = m := by rw [c1, hc.1]
        have e2 : ¬ (o' + (a.eval x).cells.size > cells.size) := by omega
        simp only [e1, ne_eq, not_true, decide_false, Bool.false_or]
        rw [e1] at e2
        simp only [e2, decide_false, if_false, Bool.false_eq_true]
        rw [fold_putAt (by omega)]
        exact g1
    · cases hf
  | [], _ :: _, _, _, _, hok, _, _, _ => by simp [okParts] at hok
  | _ :: _, [], _, _, _, hok, _, _, _ => by simp [okParts] at hok

theorem run_places' (w : World) : ∀ (fs : List Field), fs.all (fun f => (P.info? f.type).isSome) = true →
    (fs.mapM fun f => Prod.mk f.offset <$> sizeOf f.type).run P w = .ok (fs.map fun f => (f.offset, P.cellsOf f.type)) w
  | [], _ => by simp
  | f :: r, h => by
    simp only [List.all_cons, Bool.and_eq_true] at h
    obtain ⟨i, hi⟩ := Option.isSome_iff_exists.1 h.1
    have hs : (sizeOf f.type).run P w = .ok i.size w := by simp [sizeOf, typeInfo, hi]
    have hc : P.cellsOf f.type = i.size := by simp [Program.cellsOf, hi]
    simp [List.mapM_cons, hs, run_places' w r h.2, hc]

theorem fieldsPlaces_eq (fs : Array Field) (i : Nat) : (fs.toList.map fun f => (f.offset, P.cellsOf f.type)).toArray[i]? = fieldsPlaces P fs i := by
  simp only [fieldsPlaces, List.getElem?_toArray, List.getElem?_map, Array.getElem?_toList]
  cases fs[i]? <;> rfl

theorem okParts_congr {p q : Nat → Option (Nat × Nat)} (h : ∀ i, p i = q i) {ps : List (Nat × Operand)} {qs : List (Nat × Nat × Arg)} (hp : okParts p ps qs = true) : okParts q ps qs = true := by
  have : p = q := funext h
  rw [← this]; exact hp

theorem run_build_struct {t : TypeId} {fs : Array Field} {i : TypeInfo} {z : Value} (hu : P.underlying t = some (.struct fs)) (hi : P.info? t = some i) (hz : i.zero = some z) {places : List (Nat × Nat)}
    (hp : (fs.toList.mapM fun f => Prod.mk f.offset <$> sizeOf f.type).run P w = .ok places w) {parts : Array (Nat × Value)} {cells : Array Value} (h : Instr.fill (places.toArray[·]?) z.cells parts.toList = some cells) :
    (Instr.build t parts).run P w = .ok (.agg cells) w := by
  simp at h
  simp [Instr.build, run_underlying hu, zeroValue, typeInfo, hi, hz, Array.mapM_eq_mapM_toList, hp, h]

theorem ins_bld (hF : ∀ f, F.fn f) (h : Sim N G own L S a w) (hd : ∀ t, o.dst = some t → t < N) {zero : List V} {ps : List (Nat × Nat × Arg)} (hok : okIns P o.op (.bld zero ps) = true)
    {cl : ClT} (hev : evIns cl o.dst (.bld zero ps) S = some S') (hn : ∀ a' w', Res N G own w a.defers S' a' w' → next a' w') : o.wpIn F n P a w next Q := by
  obtain ⟨r, hr, hS⟩ := retS_inv hev
  simp only [okIns] at hok
  split at hok
  · rename_i t parts hop
    simp only [Bool.and_eq_true] at hok
    obtain ⟨hz, hk⟩ := hok
    unfold zeroB at hz
    split at hz
    · rename_i i hi
      split at hz
      · rename_i z hzz
        obtain ⟨z1, z2⟩ := okCells_arr (G := G) hz
        cases hf : fillV zero (ps.map fun (o, n, x) => (o, n, S.arg x)) with
        | none => rw [hf] at hr; cases hr
        | some cs =>
          rw [hf] at hr
          cases hr
          split at hk
          · rename_i fs hu
            simp only [Bool.and_eq_true] at hk
            obtain ⟨cells', g1, g2, g3⟩ := fill_rep h (okParts_congr (fun i => (fieldsPlaces_eq (P := P) fs i).symm) hk.1) z1 z2 hf
            refine fin_value hF h hd (by rw [hop]; intro c hc; cases hc) (v := .agg cells') ?_ (.of (.agg _ _ g2 g3)) hS hn
            have e := run_build_struct (w := w) hu hi hzz (run_places' w fs.toList hk.2) (parts := parts.map fun (i, x) => (i, a.eval x)) (cells := cells') (by simpa only [Array.toList_map] using g1)
            simp only [execOp, hop, Sem.run_bind, e]; rfl
          · rename_i m e hu
            split at hk
            · rename_i ie hie
              obtain ⟨cells', g1, g2, g3⟩ := fill_rep h hk z1 z2 hf
              refine fin_value hF h hd (by rw [hop]; intro c hc; cases hc) (v := .agg cells') ?_ (.of (.agg _ _ g2 g3)) hS hn
              simp [execOp, hop, Instr.build, run_underlying hu, sizeOf, zeroValue, typeInfo, hi, hzz, hie, g1]
            · cases hk
          · cases hk
      · cases hz
    · cases hz
  · cases hok
end
end Go.Eng
