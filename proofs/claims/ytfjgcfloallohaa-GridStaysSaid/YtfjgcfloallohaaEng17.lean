/- The engine, part 17: each instruction; operations in their frame. -/
import Derived.Test.YtfjgcfloallohaaEng16
import Derived.OrdersIn
namespace Go.Eng
open Go

section
variable {n : Nat} {P : Program} {o : Oper} {a : Act} {w : World} {Q : Exit → Act → World → Prop} {ro : Option Nat}
variable {N : Nat} {G : Gh} {own : Own} {L : Nat → Option Nat} {S S' : St} {next : Act → World → Prop}

theorem ins_all (h : Sim N G own L S a w) (hd : ∀ t, o.dst = some t → t < N) {cl : ClT} (hcl : ClOK P cl) {i : Ins} (hok : okIns P o.op i = true)
    (hev : evIns cl o.dst i S = some S') (hn : ∀ a' w', Res N G own w a.defers S' a' w' → next a' w') : o.wpIn (Fw ro) n P a w next Q := by
  cases i with
  | mov x => exact ins_mov (Fw.fn ro) h hd hok hev hn
  | nrow s => exact ins_nrow (Fw.fn ro) h hd hok hev hn
  | bin op x y => exact ins_bin (Fw.fn ro) h hd hok hev hn
  | eqb ng x y => exact ins_eqb (Fw.fn ro) h hd hok hev hn
  | eqn k ng x => exact ins_eqn (Fw.fn ro) h hd hok hev hn
  | eqa ng sh x y => exact ins_eqa (Fw.fn ro) h hd hok hev hn
  | eqs ng x y => exact ins_eqs (Fw.fn ro) h hd hok hev hn
  | slca x lo s m => exact ins_slca (Fw.fn ro) h hd hok hev hn
  | clr x s zero => exact ins_clr (Fw.fn ro) h hd hok hev hn
  | un op x => exact ins_un (Fw.fn ro) h hd hok hev hn
  | conv k x => exact ins_conv (Fw.fn ro) h hd hok hev hn
  | len x => exact ins_len (Fw.fn ro) h hd hok hev hn
  | mnmx mx x y => exact ins_mnmx (Fw.fn ro) h hd hok hev hn
  | pick c x y => exact ins_pick (Fw.fn ro) h hd hok hev hn
  | off x k => exact ins_off (Fw.fn ro) h hd hok hev hn
  | ixa x i s m => exact ins_ixa (Fw.fn ro) h hd hok hev hn
  | ixs x i s => exact ins_ixs (Fw.fn ro) h hd hok hev hn
  | ixv x i s m agg => exact ins_ixv (Fw.fn ro) h hd hok hev hn
  | ixc x i => exact ins_ixc (Fw.fn ro) h hd hok hev hn
  | fldv x o m agg => exact ins_fldv (Fw.fn ro) h hd hok hev hn
  | ld x m agg => exact ins_ld (Fw.fn ro) h hd hok hev hn
  | st x v m => exact ins_st (Fw.fn ro) h hd hok hev hn
  | ldl k x m agg => exact ins_ldl (Fw.fn ro) h hd hok hev hn
  | stl k x v m => exact ins_stl (Fw.fn ro) h hd hok hev hn
  | mkz s zero x => exact ins_mkz (Fw.fn ro) h hd hok hev hn
  | al zero loc => exact ins_al (Fw.fn ro) h hd hok hev hn
  | bx x m loc => exact ins_bx (Fw.fn ro) h hd hok hev hn
  | alp zero => exact ins_alp (Fw.fn ro) h hd hok hev hn
  | bxp x m => exact ins_bxp (Fw.fn ro) h hd hok hev hn
  | bld zero ps => exact ins_bld (Fw.fn ro) h hd hok hev hn
  | bsl s len zero ps => exact ins_bsl (Fw.fn ro) h hd hok hev hn
  | app x y s => exact ins_app (Fw.fn ro) h hd hok hev hn
  | slc x lo hi s => exact ins_slc (Fw.fn ro) h hd hok hev hn
  | mks s zero x => exact ins_mks (Fw.fn ro) h hd hok hev hn
  | bsr s len zero ps => exact ins_bsr (Fw.fn ro) h hd hok hev hn
  | ext x i => exact ins_ext (Fw.fn ro) h hd hok hev hn
  | call f as pure => exact ins_call h hd hok hcl hev hn
  | callv x as pure => exact ins_callv h hd hok hcl hev hn
  | mkf f first cap => exact ins_mkf (Fw.fn ro) h hd hok hev hn
  | nck x => exact ins_nck (Fw.fn ro) h hd hok hev hn
end

/-! ### What no instruction turns -/

theorem put_base (S : St) (d : Option Nat) (v : V) : (S.put d v).base = S.base := by cases d <;> rfl
theorem put_dirty (S : St) (d : Option Nat) (v : V) : (S.put d v).dirty = S.dirty := by cases d <;> rfl

def Up (S S' : St) : Prop := S'.base = S.base ∧ (∀ x, x ∈ S.dirty → x ∈ S'.dirty)
theorem Up.refl (S : St) : Up S S := ⟨rfl, fun _ h => h⟩
theorem Up.trans {S S' S'' : St} (h : Up S S') (k : Up S' S'') : Up S S'' := ⟨k.1.trans h.1, fun x hx => k.2 x (h.2 x hx)⟩
theorem Up.put {S S1 : St} (h : Up S S1) (d : Option Nat) (v : V) : Up S (S1.put d v) := ⟨(put_base ..).trans h.1, fun x hx => by rw [put_dirty]; exact h.2 x hx⟩

theorem retS_up {S S' : St} {d : Option Nat} {r : Option V} (h : retS S d r = some S') : Up S S' := by
  cases r with
  | none => cases h
  | some v => have h' : S.put d v = S' := by simpa [retS] using h
              subst h'; exact (Up.refl S).put d v
theorem retP_up {S S' : St} {d : Option Nat} {r : Option (V × St)} (h : retP d r = some S') (hr : ∀ x S1, r = some (x, S1) → Up S S1) : Up S S' := by
  obtain ⟨x, S1, h1, rfl⟩ := retP_inv h
  exact (hr x S1 h1).put d x

theorem boxI_up {S : St} {d : Option Nat} {cs : List V} {l : Bool} {x : V} {S1 : St} (h : boxI S d cs l = some (x, S1)) : Up S S1 := by
  unfold boxI at h
  split at h
  · split at h
    · cases h; exact ⟨rfl, fun _ h => h⟩
    · cases h
  · cases h; exact ⟨rfl, fun _ h => h⟩
  · cases h

theorem stCells_up {S : St} {x : V} {vs : List V} {S1 : St} (h : stCells S x vs = some S1) : Up S S1 := by
  unfold stCells at h
  split at h
  · rename_i s off
    cases hg : getL S.loc s with
    | none => rw [hg] at h; cases h
    | some ds =>
      rw [hg] at h
      simp only [Option.bind_some] at h
      split at h
      · cases h
      cases hss : setSubs ds off vs with
      | none => rw [hss] at h; cases h
      | some ds' => rw [hss] at h; cases h; exact ⟨rfl, fun _ h => h⟩
  · rename_i id off
    cases hg : boxAt S.hp id with
    | none => rw [hg] at h; cases h
    | some ds =>
      rw [hg] at h
      simp only [Option.bind_some] at h
      cases hss : setSubs ds off vs with
      | none => rw [hss] at h; cases h
      | some ds' => rw [hss] at h; cases h; exact ⟨rfl, fun _ h => mem_addD.2 (.inr h)⟩
  · rename_i id tot i j
    cases hg : rowAt S.hp id with
    | none => rw [hg] at h; cases h
    | some p =>
      obtain ⟨s, es⟩ := p
      rw [hg] at h
      simp only [Option.bind_some] at h
      split at h
      · cases he : es[i]? with
        | none => rw [he] at h; cases h
        | some el =>
          rw [he] at h
          simp only [Option.bind_some] at h
          cases hss : setSubs el j vs with
          | none => rw [hss] at h; cases h
          | some el' => rw [hss] at h; cases h; exact ⟨rfl, fun _ h => mem_addD.2 (.inr h)⟩
      · cases h
  · cases h

theorem stI_up {S : St} {x v : V} {m : Nat} {r : V} {S1 : St} (h : stI S x v m = some (r, S1)) : Up S S1 := by
  unfold stI at h
  split at h
  · cases hs : stCells S x v.cells with
    | none => rw [hs] at h; cases h
    | some S2 => rw [hs] at h; cases h; exact stCells_up hs
  · cases h

theorem appV_up {S : St} {x y : V} {s : Nat} {r : V} {S1 : St} (h : appV S x y s = some (r, S1)) : Up S S1 := by
  unfold appV at h
  cases he : elems S.hp y with
  | none => rw [he] at h; cases h
  | some ys =>
    rw [he] at h
    simp only [Option.bind_some] at h
    split at h
    · split at h
      · split at h
        · split at h <;> cases h <;> exact ⟨rfl, fun _ h => h⟩
        · cases h
      · rename_i id tot off len
        cases hg : rowAt S.hp id with
        | none => rw [hg] at h; cases h
        | some p =>
          obtain ⟨s', es⟩ := p
          rw [hg] at h
          simp only [Option.bind_some] at h
          split at h
          · cases h; exact ⟨rfl, fun _ h => mem_addD.2 (.inr h)⟩
          · cases h
      · cases h
    · cases h

theorem mksI_up {S : St} {s : Nat} {zero : List V} {x r : V} {S1 : St} (h : mksI S s zero x = some (r, S1)) : Up S S1 := by
  unfold mksI at h
  split at h
  · split at h
    · cases h; exact ⟨rfl, fun _ h => h⟩
    · cases h
  · cases h

theorem rowI_up {S : St} {s : Nat} {es : Option (List (List V))} {r : V} {S1 : St} (h : rowI S s es = some (r, S1)) : Up S S1 := by
  obtain ⟨l, -, -, -, rfl⟩ := rowI_some h
  exact ⟨rfl, fun _ h => h⟩

theorem clrI_up {S : St} {s : Nat} {zero : List V} {x r : V} {S1 : St} (h : clrI S s zero x = some (r, S1)) : Up S S1 := by
  unfold clrI at h
  split at h
  · split at h
    · cases hs : stCells S (.ptr _ _) (List.replicate _ zero).flatten with
      | none => rw [hs] at h; cases h
      | some S2 => rw [hs] at h; cases h; exact stCells_up hs
    · cases h
  · cases h; exact .refl S
  · cases h

theorem callI_up {cl : ClT} {S S' : St} {d : Option Nat} {pure : Bool} {f : V} {vs : List V} (h : callI cl S d pure f vs = some S') : Up S S' := by
  unfold callI at h
  split at h
  · generalize cl f vs S.hp = r at h
    unfold callR at h
    split at h
    · split at h
      · cases h; exact (Up.refl S).put _ _
      · cases h
    · split at h
      · cases h
      · cases h
        rename_i v H ds _
        have hu : Up S { S with hp := H, dirty := ds.foldr (addD S.base) S.dirty } := ⟨rfl, fun _ h => mem_addDs.2 (.inr h)⟩
        exact hu.put _ _
    · cases h
  · cases h

theorem stlI_up {S : St} {k : Nat} {x v : V} {m : Nat} {r : V} {S1 : St} (h : stlI S k v m x = some (r, S1)) : Up S S1 := by
  unfold stlI at h
  split at h
  · split at h
    · exact stI_up h
    · cases h
  · cases h

theorem alpI_up {S : St} {d : Option Nat} {cs : List V} {x : V} {S1 : St} (h : alpI S d cs = some (x, S1)) : Up S S1 := boxI_up (alp_boxI h)
theorem bxpI_up {S : St} {d : Option Nat} {v : V} {m : Nat} {x : V} {S1 : St} (h : bxpI S d v m = some (x, S1)) : Up S S1 := by
  unfold bxpI at h
  split at h
  · exact alpI_up h
  · cases h

theorem bxI_up {S : St} {d : Option Nat} {v : V} {m : Nat} {l : Bool} {x : V} {S1 : St} (h : bxI S d v m l = some (x, S1)) : Up S S1 := by
  unfold bxI at h
  split at h
  · exact boxI_up h
  · cases h

theorem evIns_up {cl : ClT} {d : Option Nat} {i : Ins} {S S' : St} (h : evIns cl d i S = some S') : Up S S' := by
  cases i <;> simp only [evIns] at h <;> first
    | exact retS_up h
    | exact callI_up h
    | exact retP_up h fun x S1 hx => stI_up hx
    | exact retP_up h fun x S1 hx => stlI_up hx
    | exact retP_up h fun x S1 hx => boxI_up hx
    | exact retP_up h fun x S1 hx => bxI_up hx
    | exact retP_up h fun x S1 hx => alpI_up hx
    | exact retP_up h fun x S1 hx => bxpI_up hx
    | exact retP_up h fun x S1 hx => appV_up hx
    | exact retP_up h fun x S1 hx => mksI_up hx
    | exact retP_up h fun x S1 hx => rowI_up hx
    | exact retP_up h fun x S1 hx => clrI_up hx
    | (cases h; exact (Up.refl S).put _ _)
    | exact retP_up h fun x S1 hx => (by cases hx; exact ⟨rfl, fun _ h => h⟩)

theorem evG_up {cl : ClT} {g : GIns} {S S' : St} (h : evG cl g S = some S') : Up S S' := by
  unfold evG at h
  split at h
  · exact evIns_up h
  · cases h; exact (Up.refl S).put _ _
  · cases h

/-! ### A frame on its way, as seen from where it began -/

structure Fr (w0 : World) (o0 oc : Own) (S : St) (w : World) : Prop where
  sz : w0.heap.size ≤ w.heap.size
  own : ∀ b k, oc b = some k → b < w0.heap.size → ∃ id, k = .obj id ∧ id < S.base
  old : ∀ b k, oc b = some k → b < w0.heap.size → o0 b = some k
  same : ∀ b, b < w0.heap.size → (∀ k, o0 b = some k → ∃ id, k = .obj id ∧ id ∉ S.dirty) → w.heap[b]? = w0.heap[b]?

def InF (N : Nat) (w0 : World) (G0 : Gh) (own0 : Own) (D : List Deferred) (S : St) (a : Act) (w : World) : Prop :=
  ∃ G own L, Sim N G own L S a w ∧ Foot G0 own0 w0 G own w ∧ Fr w0 own0 own S w ∧ a.defers = D

section
variable {n : Nat} {P : Program} {o : Oper} {a : Act} {w : World} {Q : Exit → Act → World → Prop} {ro : Option Nat}
variable {N : Nat} {S S' : St} {w0 : World} {G0 : Gh} {own0 : Own} {D : List Deferred}

theorem Fr.step {G : Gh} {own : Own} (h : Fr w0 own0 own S w) {a' : Act} {w' : World} (hup : Up S S') {D' : List Deferred} (hr : Res N G own w D' S' a' w') :
    ∃ G' own' L', Sim N G' own' L' S' a' w' ∧ Foot G own w G' own' w' ∧ Fr w0 own0 own' S' w' ∧ a'.defers = D' := by
  obtain ⟨G', own', L', h1, h2, h3, h4⟩ := hr
  have back : ∀ b k, own' b = some k → b < w0.heap.size → own b = some k := fun b k hk hb => by
    rcases h2.news b k hk with h5 | h5
    · exact h5
    · have := h.sz; omega
  refine ⟨G', own', L', h1, h2, ⟨Nat.le_trans h.sz h2.size, fun b k hk hb => ?_, fun b k hk hb => h.old b k (back b k hk hb) hb, fun b hb hd => ?_⟩, h3⟩
  · rw [hup.1]; exact h.own b k (back b k hk hb) hb
  · rw [h4 b (Nat.lt_of_lt_of_le hb h.sz) (fun k hk => ?_), h.same b hb (fun k hk => ?_)]
    · obtain ⟨id, h5, h6⟩ := hd k hk
      exact ⟨id, h5, fun hm => h6 (hup.2 _ hm)⟩
    · obtain ⟨id, h5, h6⟩ := hd k (h.old b k hk hb)
      obtain ⟨id', h7, h8⟩ := h.own b k hk hb
      rw [h5] at h7; cases h7
      exact ⟨id, h5, by rw [hup.1]; exact h8, h6⟩

theorem InF.step (hi : InF N w0 G0 own0 D S a w) (hup : Up S S') {K : Act → World → Prop} (hk : ∀ a' w', InF N w0 G0 own0 D S' a' w' → K a' w') :
    ∃ G own L, Sim N G own L S a w ∧ ∀ a' w', Res N G own w a.defers S' a' w' → K a' w' := by
  obtain ⟨G, own, L, h1, h2, h3, h4⟩ := hi
  refine ⟨G, own, L, h1, fun a' w' hr => hk a' w' ?_⟩
  obtain ⟨G', own', L', k1, k2, k3, k4⟩ := h3.step hup hr
  exact ⟨G', own', L', k1, h2.trans k2, k3, k4.trans h4⟩

theorem InF.put (hi : InF N w0 G0 own0 D S a w) {d : Option Nat} (hd : ∀ t, d = some t → t < N) {v : Value} {x : V} (hv : ∀ G L, SRep G L v x) : InF N w0 G0 own0 D (S.put d x) (a.put d v) w := by
  obtain ⟨G, own, L, h1, h2, h3, h4⟩ := hi
  refine ⟨G, own, L, h1.put hd (hv G L), h2, ⟨h3.sz, fun b k hk hb => by rw [put_base]; exact h3.own b k hk hb, h3.old, fun b hb hx => by rw [put_dirty] at hx; exact h3.same b hb hx⟩, (put_defers ..).trans h4⟩

/-- The operation and the instruction. -/
def okG (P : Program) (ops : Array Oper) (N : Nat) (o : Oper) (g : GIns) : Bool :=
  g.dst == o.dst && (match o.dst with | some t => decide (t < N) | none => true) &&
  (match g.guard, o.guard with | none, none => true | some (t, b), some (j, b') => b == b' && ((ops[j]?).bind (·.dst)) == some t | _, _ => false) && okIns P o.op g.ins

theorem yielded_bool {ops : Array Oper} {tmps : Array Value} {j t : Nat} (hj : ((ops[j]?).bind (·.dst)) = some t) {b : Bool} (h : tmps.getD t undef = .bool b) : yielded ops tmps j = some b := by
  unfold yielded
  rw [hj]
  simp only [Option.bind_some]
  by_cases ht : t < tmps.size
  · simp [Array.getD_eq_getD_getElem?, ht] at h
    simp [ht, h]
  · simp [Array.getD_eq_getD_getElem?, ht, undef] at h
theorem yielded_tup {ops : Array Oper} {tmps : Array Value} {j t : Nat} (hj : ((ops[j]?).bind (·.dst)) = some t) {c : Array Value} (h : tmps.getD t undef = .tuple c) : yielded ops tmps j = none := by
  unfold yielded
  rw [hj]
  simp only [Option.bind_some]
  by_cases ht : t < tmps.size
  · simp [Array.getD_eq_getD_getElem?, ht] at h
    simp [ht, h]
  · simp [ht]

theorem op_ok {ops : Array Oper} {i : Nat} {g : GIns} {M : Nat} (hM : M ≤ N) (ho : ops[i]? = some o) (hok : okG P ops M o g = true) {cl : ClT} (hcl : ClOK P cl) (hi : InF N w0 G0 own0 D S a w) (hev : evG cl g S = some S')
    {K : Act → World → Prop} (hk : ∀ a' w', InF N w0 G0 own0 D S' a' w' → K a' w') : wpOpIn (Fw ro) n P ops Q i K a w := by
  unfold wpOpIn
  rw [ho]
  simp only [okG, Bool.and_eq_true, beq_iff_eq] at hok
  obtain ⟨⟨⟨h1, h2⟩, h3⟩, h4⟩ := hok
  have hd : ∀ t, o.dst = some t → t < N := fun t ht => by rw [ht] at h2; exact Nat.lt_of_lt_of_le (by simpa using h2) hM
  have skip : evG cl g S = some (S.put g.dst (.tup [])) → K (a.put o.dst undef) w := fun he => by
    rw [he] at hev
    cases hev
    rw [h1] at hk
    exact hk _ _ (hi.put hd fun G L => .of (.tup #[] [] rfl (fun j hj => absurd hj (Nat.not_lt_zero _))))
  have go : evIns cl g.dst g.ins S = some S' → o.wpIn (Fw ro) n P a w K Q := fun he => by
    obtain ⟨G, own, L, k1, k2⟩ := hi.step (evIns_up he) hk
    rw [h1] at he
    exact ins_all k1 hd hcl h4 he k2
  split at h3
  · rename_i hg1 hg2
    have hw : Region.wanted o (yielded ops a.tmps) = true := by simp [Region.wanted, hg2]
    simp only [hw, if_true]
    unfold evG at hev
    rw [hg1] at hev
    exact go hev
  · rename_i t b j b' hg1 hg2
    simp only [Bool.and_eq_true, beq_iff_eq] at h3
    obtain ⟨rfl, hj⟩ := h3
    unfold evG at hev
    rw [hg1] at hev
    obtain ⟨G, own, L, k1, -⟩ := id hi
    have hs := k1.slot t
    simp only [wanted] at hev
    cases hx : getE S.env t with
    | p x =>
      rw [hx] at hev hs
      cases x with
      | bool c =>
        have hy := yielded_bool hj (rep_bool hs)
        simp only at hev
        by_cases hcb : c = b
        · subst hcb
          have hw : Region.wanted o (yielded ops a.tmps) = true := by simp [Region.wanted, hg2, hy]
          simp only [hw, if_true]
          simp at hev
          exact go hev
        · have hw : Region.wanted o (yielded ops a.tmps) = false := by simp [Region.wanted, hg2, hy, hcb]
          simp only [hw, Bool.false_eq_true, if_false]
          have hcb' : (c == b) = false := by simpa using hcb
          rw [hcb'] at hev
          refine ⟨fun f _ => trivial, skip ?_⟩
          unfold evG
          rw [hg1]
          simp [wanted, hx, hcb']
      | _ => cases hev
    | tup vs =>
      rw [hx] at hev hs
      cases vs with
      | nil =>
        have hy : yielded ops a.tmps j = none := by
          have hs' : VRep G (a.tmps.getD t undef) (.tup []) := hs
          generalize hz : a.tmps.getD t undef = z at hs'
          cases hs' with
          | tup cs _ _ _ => exact yielded_tup hj hz
        have hw : Region.wanted o (yielded ops a.tmps) = false := by simp [Region.wanted, hg2, hy]
        simp only [hw, Bool.false_eq_true, if_false]
        refine ⟨fun f _ => trivial, skip ?_⟩
        unfold evG
        rw [hg1]
        simp [wanted, hx]
      | cons => cases hev
    | _ => rw [hx] at hev; cases hev
  · cases h3
end
end Go.Eng
