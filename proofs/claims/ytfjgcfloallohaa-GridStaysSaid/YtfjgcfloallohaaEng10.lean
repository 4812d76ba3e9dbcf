/- The engine, part 10: comparisons, function values, slices of slices, literals. -/
import Derived.Test.YtfjgcfloallohaaEng9
import Derived.Laws.StructEq
import Derived.ChangeKeysEq
namespace Go.Eng
open Go

section
variable {F : Fence} {n : Nat} {P : Program} {o : Oper} {a : Act} {w : World} {Q : Exit → Act → World → Prop}
variable {N : Nat} {G : Gh} {own : Own} {L : Nat → Option Nat} {S S' : St} {next : Act → World → Prop}

theorem equalIn_bool (d : Nat) {t : TypeId} (ht : P.underlying t = some .bool) (x y : Bool) : (Op.equalIn (d + 1) t (.bool x) (.bool y)).run P w = .ok (x == y) w := by
  simp only [Op.equalIn, Sem.run_bind, run_underlying ht, Result.andThen_ok]; rfl
theorem run_equal_bool {t : TypeId} (ht : P.underlying t = some .bool) (x y : Bool) : (Op.equal t (.bool x) (.bool y)).run P w = .ok (x == y) w := equalIn_bool 9999 ht x y

theorem ng_op {ng : Bool} {b : BinOp} (h : (if ng = true then b == .neq else b == .eql) = true) : (ng = true ∧ b = .neq) ∨ (ng = false ∧ b = .eql) := by
  cases ng <;> simp at h <;> simp [h]

theorem ins_eqb (hF : ∀ f, F.fn f) (h : Sim N G own L S a w) (hd : ∀ t, o.dst = some t → t < N) {ng : Bool} {x y : Arg} (hok : okIns P o.op (.eqb ng x y) = true)
    {cl : ClT} (hev : evIns cl o.dst (.eqb ng x y) S = some S') (hn : ∀ a' w', Res N G own w a.defers S' a' w' → next a' w') : o.wpIn F n P a w next Q := by
  obtain ⟨r, hr, hS⟩ := retS_inv hev
  simp only [okIns] at hok
  split at hok
  · rename_i b' t u v ty hop
    simp only [Bool.and_eq_true] at hok
    obtain ⟨⟨⟨h0, h1⟩, h2⟩, h3⟩ := hok
    split at h3
    · rename_i hu
      have r1 := okArg_rep h h1
      have r2 := okArg_rep h h2
      unfold eqbV at hr
      split at hr
      · rename_i p q hx hy
        rw [hx] at r1; rw [hy] at r2
        have e1 := rep_bool r1; have e2 := rep_bool r2
        cases hr
        refine fin_value hF h hd (by rw [hop]; intro c hc; cases hc) (v := .bool ((p == q) != ng)) ?_ (.of (.p (.bool _))) hS hn
        have hg : ∀ bo, (eqGuard bo t u v (.bool p) (.bool q)).run P w = .ok () w := by intro bo; unfold eqGuard; split <;> simp
        rcases ng_op h0 with ⟨rfl, rfl⟩ | ⟨rfl, rfl⟩
        · simp [execOp, hop, e1, e2, hg, binOp, run_equal_bool hu]
        · simp [execOp, hop, e1, e2, hg, binOp, run_equal_bool hu]
      · cases hr
    · cases h3
  · cases hok

theorem equalIn_nilp (d : Nat) {t e : TypeId} (ht : P.underlying t = some (.pointer e)) (x : Option Addr) : (Op.equalIn (d + 1) t (.pointer x) (.pointer none)).run P w = .ok x.isNone w := by
  simp only [Op.equalIn, Sem.run_bind, run_underlying ht, Result.andThen_ok]; cases x <;> rfl
theorem equalIn_nilf (d : Nat) {t : TypeId} {ps rs : Array TypeId} {vd : Bool} (ht : P.underlying t = some (.func ps rs vd)) : (Op.equalIn (d + 1) t .nilFunc .nilFunc).run P w = .ok true w := by
  simp only [Op.equalIn, Sem.run_bind, run_underlying ht, Result.andThen_ok]; rfl
theorem equalIn_func (d : Nat) {t : TypeId} {ps rs : Array TypeId} {vd : Bool} (ht : P.underlying t = some (.func ps rs vd)) (f : Fn) (x y : Array Value) : (Op.equalIn (d + 1) t (.func f x y) .nilFunc).run P w = .ok false w := by
  simp only [Op.equalIn, Sem.run_bind, run_underlying ht, Result.andThen_ok]; rfl
theorem equalIn_nils (d : Nat) {t e : TypeId} (ht : P.underlying t = some (.slice e)) (x : Addr) (m c : Nat) : (Op.equalIn (d + 1) t (.slice (some x) m c) (.slice none 0 0)).run P w = .ok false w := by
  simp only [Op.equalIn, Sem.run_bind, run_underlying ht, Result.andThen_ok]; rfl

theorem equalIn_nils0 (d : Nat) {t e : TypeId} (ht : P.underlying t = some (.slice e)) (m c : Nat) : (Op.equalIn (d + 1) t (.slice none m c) (.slice none 0 0)).run P w = .ok true w := by
  simp only [Op.equalIn, Sem.run_bind, run_underlying ht, Result.andThen_ok]; rfl

theorem run_bin_eq {ng : Bool} {bo : BinOp} {t : TypeId} {v u : Value} {b : Bool} (h0 : (if ng = true then bo == .neq else bo == .eql) = true) (x y : Operand)
    (he : (Op.equal t v u).run P w = .ok b w) (hne : (∃ ad, v = .pointer ad ∧ u = .pointer none) ∨ (∃ f p q, v = .func f p q ∧ u = .nilFunc) ∨ (v = .nilFunc ∧ u = .nilFunc) ∨ (∃ ad m c, v = .slice ad m c ∧ u = .slice none 0 0)) :
    (do eqGuard bo t x y v u; binOp bo t v u).run P w = .ok (.bool (b != ng)) w := by
  have hg : (eqGuard bo t x y v u).run P w = .ok () w := by
    rcases hne with ⟨ad, rfl, rfl⟩ | ⟨f, p, q, rfl, rfl⟩ | ⟨rfl, rfl⟩ | ⟨ad, m, c, rfl, rfl⟩ <;> (unfold eqGuard; split <;> simp)
  have hb : (binOp bo t v u).run P w = .ok (.bool (b != ng)) w := by
    rcases ng_op h0 with ⟨rfl, rfl⟩ | ⟨rfl, rfl⟩ <;>
      rcases hne with ⟨ad, rfl, rfl⟩ | ⟨f, p, q, rfl, rfl⟩ | ⟨rfl, rfl⟩ | ⟨ad, m, c, rfl, rfl⟩ <;> simp [binOp, he]
  simp only [Sem.run_bind, hg, Result.andThen_ok, hb]

theorem ins_eqn (hF : ∀ f, F.fn f) (h : Sim N G own L S a w) (hd : ∀ t, o.dst = some t → t < N) {k : NK} {ng : Bool} {x : Arg} (hok : okIns P o.op (.eqn k ng x) = true)
    {cl : ClT} (hev : evIns cl o.dst (.eqn k ng x) S = some S') (hn : ∀ a' w', Res N G own w a.defers S' a' w' → next a' w') : o.wpIn F n P a w next Q := by
  obtain ⟨r, hr, hS⟩ := retS_inv hev
  simp only [okIns] at hok
  split at hok
  · rename_i b' t u v ty hop
    simp only [Bool.and_eq_true] at hok
    obtain ⟨⟨h0, h1⟩, h3⟩ := hok
    have r1 := okArg_rep h h1
    unfold eqnV at hr
    split at hr
    · rename_i b hb
      cases hr
      have hv : a.eval (.const v) = v := rfl
      suffices hs : ∃ hh : (Op.equal t (a.eval u) v).run P w = .ok b w, (∃ ad, a.eval u = .pointer ad ∧ v = .pointer none) ∨ (∃ f p q, a.eval u = .func f p q ∧ v = .nilFunc) ∨ (a.eval u = .nilFunc ∧ v = .nilFunc) ∨ (∃ ad m c, a.eval u = .slice ad m c ∧ v = .slice none 0 0) by
        obtain ⟨h5, h6⟩ := hs
        refine fin_value hF h hd (by rw [hop]; intro c hc; cases hc) (v := .bool (b != ng)) ?_ (.of (.p (.bool _))) hS hn
        have := run_bin_eq (P := P) (w := w) h0 u (.const v) h5 h6
        simp only [execOp, hop, hv, Sem.run_bind] at this ⊢
        rw [this]; rfl
      split at h3
      · rename_i e hu
        rcases isNil_ptr r1 hb with ⟨rfl, h5⟩ | ⟨rfl, ad, h5⟩ <;> rw [h5]
        · exact ⟨equalIn_nilp 9999 hu none, .inl ⟨_, rfl, rfl⟩⟩
        · exact ⟨equalIn_nilp 9999 hu _, .inl ⟨_, rfl, rfl⟩⟩
      · rename_i hu
        rcases isNil_fn r1 hb with ⟨rfl, h5⟩ | ⟨rfl, f, p, q, h5⟩ <;> rw [h5]
        · exact ⟨equalIn_nilf 9999 hu, .inr (.inr (.inl ⟨rfl, rfl⟩))⟩
        · exact ⟨equalIn_func 9999 hu f p q, .inr (.inl ⟨_, _, _, rfl, rfl⟩)⟩
      · rename_i e hu
        rcases isNil_sl r1 hb with ⟨rfl, c, h5⟩ | ⟨rfl, ad, m, c, h5⟩ <;> rw [h5]
        · exact ⟨equalIn_nils0 9999 hu 0 c, .inr (.inr (.inr ⟨_, _, _, rfl, rfl⟩))⟩
        · exact ⟨equalIn_nils 9999 hu ad m c, .inr (.inr (.inr ⟨_, _, _, rfl, rfl⟩))⟩
      · cases h3
    · cases hr
  · cases hok

/-! ### Aggregates, cell by cell -/

theorem eqCells_len : ∀ {sh : List Bool} {xs ys : List V} {b : Bool}, eqCells sh xs ys = some b → xs.length = sh.length ∧ ys.length = sh.length
  | [], [], [], _, _ => ⟨rfl, rfl⟩
  | s :: sh, x :: xs, y :: ys, b, h => by
    simp only [eqCells] at h
    split at h
    · rename_i h1 h2
      obtain ⟨q1, q2⟩ := eqCells_len h2
      exact ⟨by simp [q1], by simp [q2]⟩
    · cases h
  | [], _ :: _, _, _, h => by simp [eqCells] at h
  | [], [], _ :: _, _, h => by simp [eqCells] at h
  | _ :: _, [], _, _, h => by simp [eqCells] at h
  | _ :: _, _ :: _, [], _, h => by simp [eqCells] at h
theorem eqCells_append : ∀ {s1 s2 : List Bool} {xs ys : List V} {b : Bool}, eqCells (s1 ++ s2) xs ys = some b →
    ∃ b1 b2, eqCells s1 (xs.take s1.length) (ys.take s1.length) = some b1 ∧ eqCells s2 (xs.drop s1.length) (ys.drop s1.length) = some b2 ∧ b = (b1 && b2)
  | [], s2, xs, ys, b, h => ⟨true, b, by simp, by simpa using h, by simp⟩
  | s :: s1, s2, x :: xs, y :: ys, b, h => by
    simp only [List.cons_append, eqCells] at h
    split at h
    · rename_i p q h1 h2
      obtain ⟨b1, b2, k1, k2, k3⟩ := eqCells_append h2
      cases h
      refine ⟨p && b1, b2, ?_, by simpa using k2, by rw [k3, Bool.and_assoc]⟩
      simp only [List.length_cons, List.take_succ_cons, eqCells, h1, k1]
    · cases h
  | _ :: _, _, [], _, _, h => by simp [eqCells] at h
  | _ :: _, _, _ :: _, [], _, h => by simp [eqCells] at h

/-- One comparison of two parts. -/
def EqP (P : Program) (G : Gh) (w : World) (dd : Nat) (t : TypeId) (sh : List Bool) : Prop :=
  sh.length = P.cellsOf t → ∀ (c c' : Array Value) (off : Nat) (xs ys : List V) (b : Bool), off + sh.length ≤ c.size → off + sh.length ≤ c'.size → CRep G (fun j => c.getD (off + j) undef) xs → CRep G (fun j => c'.getD (off + j) undef) ys →
    eqCells sh xs ys = some b → ∃ v v', (part t c off).run P w = .ok v w ∧ (part t c' off).run P w = .ok v' w ∧ (Op.equalIn dd t v v').run P w = .ok b w

theorem CRep.takeN {f : Nat → Value} {xs : List V} (h : CRep G f xs) (n : Nat) : CRep G f (xs.take n) := fun j hj => by
  have := h j (by simp at hj; omega)
  simpa using this
theorem CRep.dropN {c : Array Value} {off : Nat} {xs : List V} (h : CRep G (fun j => c.getD (off + j) undef) xs) (n : Nat) : CRep G (fun j => c.getD (off + n + j) undef) (xs.drop n) := fun j hj => by
  have := h (n + j) (by simp at hj; omega)
  simp only [List.getElem_drop]
  rw [Nat.add_assoc]; exact this

theorem eqFields_run {dd d : Nat} (IH : ∀ t sh, flatSh P d t = some sh → EqP P G w dd t sh) : ∀ (fs : List Field) (e : Nat) (sh : List Bool), flatFs P (flatSh P d) e fs = some sh →
    ∀ (c c' : Array Value) (xs ys : List V) (b : Bool), e + sh.length ≤ c.size → e + sh.length ≤ c'.size → CRep G (fun j => c.getD (e + j) undef) xs → CRep G (fun j => c'.getD (e + j) undef) ys →
    eqCells sh xs ys = some b → (Op.eqFields dd c c' fs).run P w = .ok b w
  | [], e, sh, h, c, c', xs, ys, b, _, _, _, _, hb => by
    simp only [flatFs] at h; cases h
    match xs, ys, hb with
    | [], [], hb => simp only [eqCells] at hb; cases hb; simp [Op.eqFields]
  | f :: r, e, sh, h, c, c', xs, ys, b, hc, hc', hx, hy, hb => by
    simp only [flatFs] at h
    split at h
    · rename_i hcond
      simp only [Bool.and_eq_true, bne_iff_ne, beq_iff_eq] at hcond
      obtain ⟨⟨hn, ho⟩, hi⟩ := hcond
      split at h
      · rename_i s1 hs1
        split at h
        · rename_i hl
          cases hr : flatFs P (flatSh P d) (e + P.cellsOf f.type) r with
          | none => rw [hr] at h; cases h
          | some s2 =>
            rw [hr] at h
            cases h
            obtain ⟨b1, b2, k1, k2, rfl⟩ := eqCells_append hb
            simp only [List.length_append] at hc hc'
            obtain ⟨v, v', p1, p2, p3⟩ := IH f.type s1 hs1 hl c c' e _ _ b1 (by omega) (by omega) (hx.takeN _) (hy.takeN _) k1
            have rest := eqFields_run IH r (e + P.cellsOf f.type) s2 hr c c' (xs.drop s1.length) (ys.drop s1.length) b2 (by omega) (by omega) (hl ▸ hx.dropN _) (hl ▸ hy.dropN _) k2
            simp only [Op.eqFields, hn, ne_eq, not_false_eq_true, if_true, Sem.run_bind, ho, p1, p2, p3, Result.andThen_ok]
            cases b1
            · simp
            · simpa using rest
        · cases h
      · cases h
    · cases h

theorem eqItems_run {dd d : Nat} {t : TypeId} {sh : List Bool} (IH : EqP P G w dd t sh) (hl : sh.length = P.cellsOf t) : ∀ (n i : Nat) (c c' : Array Value) (off : Nat) (xs ys : List V) (b : Bool),
    off + i * sh.length + (List.replicate n sh).flatten.length ≤ c.size → off + i * sh.length + (List.replicate n sh).flatten.length ≤ c'.size → CRep G (fun j => c.getD (off + i * sh.length + j) undef) xs → CRep G (fun j => c'.getD (off + i * sh.length + j) undef) ys →
    eqCells (List.replicate n sh).flatten xs ys = some b → off = 0 → (Op.eqItems dd t (P.cellsOf t) c c' (List.range' i n)).run P w = .ok b w
  | 0, i, c, c', off, xs, ys, b, _, _, _, _, hb, _ => by
    simp only [List.replicate_zero, List.flatten_nil] at hb
    match xs, ys, hb with
    | [], [], hb => simp only [eqCells] at hb; cases hb; simp [Op.eqItems]
  | n + 1, i, c, c', off, xs, ys, b, hc, hc', hx, hy, hb, h0 => by
    subst h0
    simp only [List.replicate_succ, List.flatten_cons] at hb hc hc'
    obtain ⟨b1, b2, k1, k2, rfl⟩ := eqCells_append hb
    simp only [List.length_append] at hc hc'
    obtain ⟨v, v', p1, p2, p3⟩ := IH hl c c' (0 + i * sh.length) _ _ b1 (by omega) (by omega) (hx.takeN _) (hy.takeN _) k1
    have e1 : 0 + i * sh.length + sh.length = 0 + (i + 1) * sh.length := by rw [Nat.succ_mul]; omega
    have rest := eqItems_run (d := d) IH hl n (i + 1) c c' 0 (xs.drop sh.length) (ys.drop sh.length) b2 (by rw [← e1]; omega) (by rw [← e1]; omega) (by rw [← e1]; exact hx.dropN _) (by rw [← e1]; exact hy.dropN _) k2 rfl
    simp only [Nat.zero_add, hl] at p1 p2
    simp only [List.range'_succ, Op.eqItems, Sem.run_bind, p1, p2, p3, Result.andThen_ok]
    cases b1
    · simp
    · simpa using rest

theorem eqScal_int_inv {x y : V} {b : Bool} (h : eqScal true x y = some b) : ∃ k a a', x = .p (.int k a) ∧ y = .p (.int k a') ∧ b = decide (a = a') := by
  unfold eqScal at h
  split at h
  · split at h
    · rename_i hk; subst hk; cases h; exact ⟨_, _, _, rfl, rfl, rfl⟩
    · cases h
  · rename_i hh; cases hh
  · cases h
theorem eqScal_bool_inv {x y : V} {b : Bool} (h : eqScal false x y = some b) : ∃ a a', x = .p (.bool a) ∧ y = .p (.bool a') ∧ b = (a == a') := by
  unfold eqScal at h
  split at h
  · rename_i hh; cases hh
  · cases h; exact ⟨_, _, rfl, rfl, rfl⟩
  · cases h

theorem eq_one {dd : Nat} {t : TypeId} {s : Bool} (hs : sizeB P t 1 = true) (ha : aggB P t false = true)
    (hq : ∀ v v' x y b, VRep G v x → VRep G v' y → eqScal s x y = some b → (Op.equalIn dd t v v').run P w = .ok b w) : EqP P G w dd t [s] := by
  intro hcl c c' off xs ys b hc hc' hx hy hb
  obtain ⟨i, hi, hsz⟩ := sizeB_some hs
  obtain ⟨l1, l2⟩ := eqCells_len hb
  obtain ⟨x, rfl⟩ := List.length_eq_one_iff.1 l1
  obtain ⟨y, rfl⟩ := List.length_eq_one_iff.1 l2
  have hx0 := hx 0 (by simp)
  have hy0 := hy 0 (by simp)
  simp only [Nat.add_zero, List.getElem_cons_zero] at hx0 hy0
  simp only [List.length_singleton] at hc hc'
  have p1 := run_part (w := w) ha hi hsz (.inr rfl) hc
  have p2 := run_part (w := w) ha hi hsz (.inr rfl) hc'
  simp only [Bool.false_eq_true, if_false] at p1 p2
  simp only [eqCells] at hb
  split at hb
  · rename_i b1 b2 h1 h2
    cases h2; cases hb
    exact ⟨_, _, p1, p2, by rw [hq _ _ _ _ _ hx0 hy0 h1, Bool.and_true]⟩
  · cases hb

theorem flat_run : ∀ (d : Nat) (t : TypeId) (sh : List Bool), flatSh P d t = some sh → ∀ k, EqP P G w (k + d) t sh
  | 0, t, sh, h, k => by simp [flatSh] at h
  | d + 1, t, sh, h, k => by
    simp only [flatSh] at h
    have agg : ∀ (hcl : sh.length = P.cellsOf t) (ha : aggB P t true = true) {i : TypeInfo} (hi : P.info? t = some i)
        (hq : ∀ (c c' : Array Value) (xs ys : List V) (b : Bool), 0 + sh.length ≤ c.size → 0 + sh.length ≤ c'.size → CRep G (fun j => c.getD (0 + j) undef) xs → CRep G (fun j => c'.getD (0 + j) undef) ys →
          eqCells sh xs ys = some b → (Op.equalIn (k + (d + 1)) t (.agg c) (.agg c')).run P w = .ok b w), EqP P G w (k + (d + 1)) t sh := by
      intro hcl ha i hi hq _ c c' off xs ys b hc hc' hx hy hb
      have hsz : i.size = sh.length := by rw [hcl]; simp [Program.cellsOf, hi]
      have p1 := run_part (w := w) ha hi hsz (.inl rfl) hc
      have p2 := run_part (w := w) ha hi hsz (.inl rfl) hc'
      simp only [if_true] at p1 p2
      obtain ⟨l1, l2⟩ := eqCells_len hb
      refine ⟨_, _, p1, p2, hq _ _ xs ys b (by simp) (by simp) (fun j hj => ?_) (fun j hj => ?_) hb⟩
      · have := hx j hj
        have hlt : j < sh.length := by omega
        simpa [Array.getD_eq_getD_getElem?, hlt] using this
      · have := hy j hj
        have hlt : j < sh.length := by omega
        simpa [Array.getD_eq_getD_getElem?, hlt] using this
    split at h
    · rename_i q hu
      split at h
      · rename_i hs
        cases h
        refine eq_one hs (by simp [aggB, hu]) fun v v' x y b hx hy hb => ?_
        obtain ⟨k', a, a', rfl, rfl, rfl⟩ := eqScal_int_inv hb
        rw [rep_int (L := fun _ => none) (.of hx), rep_int (L := fun _ => none) (.of hy), show k + (d + 1) = (k + d) + 1 from rfl, run_equalIn_int _ _ _ _ _ _ _ hu]
        rfl
      · cases h
    · rename_i hu
      split at h
      · rename_i hs
        cases h
        refine eq_one hs (by simp [aggB, hu]) fun v v' x y b hx hy hb => ?_
        obtain ⟨a, a', rfl, rfl, rfl⟩ := eqScal_bool_inv hb
        rw [rep_bool (L := fun _ => none) (.of hx), rep_bool (L := fun _ => none) (.of hy), show k + (d + 1) = (k + d) + 1 from rfl, equalIn_bool _ hu]
      · cases h
    · rename_i fs hu
      split at h
      · rename_i hst
        have hfo : P.fieldsOf t = fs := by simp [Program.fieldsOf, hu]
        obtain ⟨i, hi⟩ := info_of_underlying hu
        intro hcl
        refine agg hcl (by simp [aggB, hu]) hi (fun c c' xs ys b hc hc' hx hy hb => ?_) hcl
        rw [show k + (d + 1) = (k + d) + 1 from rfl, run_equalIn_struct _ _ _ _ _ (by rw [hfo]; exact hu) hst, hfo]
        exact eqFields_run (fun t sh h => flat_run d t sh h k) fs.toList 0 sh h c c' xs ys b hc hc' hx hy hb
      · cases h
    · rename_i m e hu
      split at h
      · rename_i s1 hs1
        split at h
        · rename_i hl
          cases h
          obtain ⟨i, hi⟩ := info_of_underlying hu
          intro hcl
          refine agg hcl (by simp [aggB, hu]) hi (fun c c' xs ys b hc hc' hx hy hb => ?_) hcl
          by_cases hm : m = 0
          · subst hm
            simp only [List.replicate_zero, List.flatten_nil] at hb
            match xs, ys, hb with
            | [], [], hb =>
              simp only [eqCells] at hb; cases hb
              rw [show k + (d + 1) = (k + d) + 1 from rfl]
              have hie : ∃ ie, P.info? e = some ie := by
                unfold flatSh at hs1
                split at hs1
                · cases hs1
                · cases hue : P.underlying e with
                  | none => rw [hue] at hs1; cases hs1
                  | some z => exact info_of_underlying hue
              obtain ⟨ie, hie⟩ := hie
              rw [run_equalIn_array _ _ _ _ hu hie]
              simp [Op.eqItems]
          · have hie : ∃ ie, P.info? e = some ie := by
              unfold flatSh at hs1
              split at hs1
              · cases hs1
              · cases hue : P.underlying e with
                | none => rw [hue] at hs1; cases hs1
                | some z => exact info_of_underlying hue
            obtain ⟨ie, hie⟩ := hie
            rw [show k + (d + 1) = (k + d) + 1 from rfl, run_equalIn_array _ _ _ _ hu hie, List.range_eq_range']
            exact eqItems_run (d := d) (flat_run d e s1 hs1 k) hl m 0 c c' 0 xs ys b (by simpa using hc) (by simpa using hc') (by simpa using hx) (by simpa using hy) hb rfl
        · cases h
      · cases h
    · cases h

theorem ins_eqa (hF : ∀ f, F.fn f) (h : Sim N G own L S a w) (hd : ∀ t, o.dst = some t → t < N) {ng : Bool} {sh : List Bool} {x y : Arg} (hok : okIns P o.op (.eqa ng sh x y) = true)
    {cl : ClT} (hev : evIns cl o.dst (.eqa ng sh x y) S = some S') (hn : ∀ a' w', Res N G own w a.defers S' a' w' → next a' w') : o.wpIn F n P a w next Q := by
  obtain ⟨r, hr, hS⟩ := retS_inv hev
  simp only [okIns] at hok
  split at hok
  · rename_i b' t u v ty hop
    simp only [Bool.and_eq_true] at hok
    obtain ⟨⟨⟨h0, h1⟩, h2⟩, h3⟩ := hok
    simp only [flatT, Bool.and_eq_true, beq_iff_eq, Bool.not_eq_true'] at h3
    obtain ⟨⟨⟨q1, q2⟩, q3⟩, q4⟩ := h3
    have r1 := okArg_rep h h1
    have r2 := okArg_rep h h2
    unfold eqaV at hr
    split at hr
    · rename_i xs ys hx hy
      rw [hx] at r1; rw [hy] at r2
      split at hr
      · rename_i b hb
        cases hr
        obtain ⟨c, e1, s1, c1⟩ := rep_agg r1
        obtain ⟨c', e2, s2, c2⟩ := rep_agg r2
        obtain ⟨l1, l2⟩ := eqCells_len hb
        obtain ⟨i, hi⟩ : ∃ i, P.info? t = some i := by
          unfold aggB at q3
          split at q3
          · exact info_of_underlying ‹_›
          · exact info_of_underlying ‹_›
          · exact info_of_underlying ‹_›
          · cases q3
        have hsz : i.size = sh.length := by rw [q2]; simp [Program.cellsOf, hi]
        obtain ⟨v1, v2, p1, p2, p3⟩ := flat_run (w := w) 50 t sh q1 9950 q2 c c' 0 xs ys b (by omega) (by omega) (by simpa using c1) (by simpa using c2) hb
        have g1 := run_part (P := P) (w := w) q3 hi hsz (.inl rfl) (c := c) (off := 0) (by omega)
        have g2 := run_part (P := P) (w := w) q3 hi hsz (.inl rfl) (c := c') (off := 0) (by omega)
        have same : ∀ (d : Array Value), d.size = sh.length → Value.agg ((List.range sh.length).map fun j => d.getD (0 + j) undef).toArray = .agg d := by
          intro d hds
          congr 1
          apply Array.ext'
          apply List.ext_getElem?
          intro j
          by_cases hj : j < sh.length
          · have : j < d.size := by omega
            simp [hj, Array.getD_eq_getD_getElem?, this]
          · have : ¬ j < d.size := by omega
            simp [hj, this]
        simp only [if_true] at g1 g2
        rw [same c (by omega)] at g1
        rw [same c' (by omega)] at g2
        rw [p1] at g1; rw [p2] at g2
        cases g1; cases g2
        refine fin_value hF h hd (by rw [hop]; intro c hc; cases hc) (v := .bool (b != ng)) ?_ (.of (.p (.bool _))) hS hn
        have hg : ∀ bo, (eqGuard bo t u v (.agg c) (.agg c')).run P w = .ok () w := fun bo => run_eqGuard_agg _ bo t u v c c' q4
        rcases ng_op h0 with ⟨rfl, rfl⟩ | ⟨rfl, rfl⟩
        · simp [execOp, hop, e1, e2, hg, run_neq_struct, p3, Result.andThen]
        · simp [execOp, hop, e1, e2, hg, run_eql_struct, p3, Result.andThen]
      · cases hr
    · cases hr
  · cases hok

theorem equalIn_str (d : Nat) {t : TypeId} (ht : P.underlying t = some .string) (x y : ByteArray) : (Op.equalIn (d + 1) t (.string x) (.string y)).run P w = .ok (x == y) w := by
  simp only [Op.equalIn, Sem.run_bind, run_underlying ht, Result.andThen_ok]; rfl

theorem rep_str {v : Value} {s : ByteArray} (h : SRep G L v (.p (.str s))) : v = .string s := by cases h with | p h => cases h; rfl

theorem ins_eqs (hF : ∀ f, F.fn f) (h : Sim N G own L S a w) (hd : ∀ t, o.dst = some t → t < N) {ng : Bool} {x y : Arg} (hok : okIns P o.op (.eqs ng x y) = true)
    {cl : ClT} (hev : evIns cl o.dst (.eqs ng x y) S = some S') (hn : ∀ a' w', Res N G own w a.defers S' a' w' → next a' w') : o.wpIn F n P a w next Q := by
  obtain ⟨r, hr, hS⟩ := retS_inv hev
  simp only [okIns] at hok
  split at hok
  · rename_i b' t u v ty hop
    simp only [Bool.and_eq_true] at hok
    obtain ⟨⟨⟨h0, h1⟩, h2⟩, h3⟩ := hok
    split at h3
    · rename_i hu
      have r1 := okArg_rep h h1
      have r2 := okArg_rep h h2
      unfold eqsV at hr
      split at hr
      · rename_i p q hx hy
        rw [hx] at r1; rw [hy] at r2
        have e1 := rep_str r1; have e2 := rep_str r2
        cases hr
        refine fin_value hF h hd (by rw [hop]; intro c hc; cases hc) (v := .bool ((p == q) != ng)) ?_ (.of (.p (.bool _))) hS hn
        have hg : ∀ bo, (eqGuard bo t u v (.string p) (.string q)).run P w = .ok () w := by intro bo; unfold eqGuard; split <;> simp
        rcases ng_op h0 with ⟨rfl, rfl⟩ | ⟨rfl, rfl⟩
        · simp [execOp, hop, e1, e2, hg, binOp, Op.stringOp, (beq_toListBytes p q).symm]
        · simp [execOp, hop, e1, e2, hg, binOp, Op.stringOp, (beq_toListBytes p q).symm]
      · cases hr
    · cases h3
  · cases hok

theorem ins_ixc (hF : ∀ f, F.fn f) (h : Sim N G own L S a w) (hd : ∀ t, o.dst = some t → t < N) {x y : Arg} (hok : okIns P o.op (.ixc x y) = true)
    {cl : ClT} (hev : evIns cl o.dst (.ixc x y) S = some S') (hn : ∀ a' w', Res N G own w a.defers S' a' w' → next a' w') : o.wpIn F n P a w next Q := by
  obtain ⟨r, hr, hS⟩ := retS_inv hev
  simp only [okIns] at hok
  split at hok
  · rename_i t u v hop
    simp only [Bool.and_eq_true] at hok
    obtain ⟨⟨h1, h2⟩, h3⟩ := hok
    split at h3
    · rename_i hu
      have r1 := okArg_rep h h1
      have r2 := okArg_rep h h2
      unfold ixcV at hr
      split at hr
      · rename_i s k i hx hy
        rw [hx] at r1; rw [hy] at r2
        have e1 := rep_str r1; have e2 := rep_int r2
        split at hr
        · rename_i h0
          split at hr
          · rename_i b hb
            cases hr
            refine fin_value hF h hd (by rw [hop]; intro c hc; cases hc) (v := .int .u8 b.toNat) ?_ (.of (.p (.int _ _))) hS hn
            simp [execOp, hop, e1, e2, Instr.index, asIntOf, run_underlying hu, h0, hb]
          · cases hr
        · cases hr
      · cases hr
    · cases h3
  · cases hok

/-! ### Slices of arrays -/

theorem run_sliceBound {k : IntKind} {i : Int} {y : Nat} {code : BoundsCode} (h0 : 0 ≤ i) (h1 : i ≤ y) : (Instr.sliceBound (.int k i) y code).run P w = .ok i.toNat w := by
  simp [Instr.sliceBound, asIntOf, h0, h1]


theorem ins_slca (hF : ∀ f, F.fn f) (h : Sim N G own L S a w) (hd : ∀ t, o.dst = some t → t < N) {x : Arg} {lo : Option Arg} {s m : Nat} (hok : okIns P o.op (.slca x lo s m) = true)
    {cl : ClT} (hev : evIns cl o.dst (.slca x lo s m) S = some S') (hn : ∀ a' w', Res N G own w a.defers S' a' w' → next a' w') : o.wpIn F n P a w next Q := by
  obtain ⟨r, hr, hS⟩ := retS_inv hev
  simp only [okIns] at hok
  split at hok
  · rename_i t u l hh mx hop
    simp only [Bool.and_eq_true] at hok
    obtain ⟨⟨⟨⟨h1, h2⟩, h3⟩, h4⟩, h5⟩ := hok
    have e2 : hh = none := by cases hh <;> simp at h2 ⊢
    have e3 : mx = none := by cases mx <;> simp at h3 ⊢
    subst e2 e3
    split at h4
    · rename_i m' e hu
      simp only [Bool.and_eq_true, beq_iff_eq] at h4
      obtain ⟨rfl, hsz⟩ := h4
      obtain ⟨ie, hie, hsz⟩ := sizeB_some hsz
      have r1 := okArg_rep h h1
      unfold slcaV at hr
      split at hr
      · rename_i hl
        have e1 : lo = none := by cases lo <;> simp at hl ⊢
        subst e1
        have e4 : l = none := by cases l <;> simp at h5 ⊢
        subst e4
        split at hr
        · rename_i id off hx
          rw [hx] at r1
          generalize hva : a.eval u = va at r1
          cases r1 with
          | ptr _ _ b hb =>
            have run : (execOp a.eval o).run P w = .ok (.value (.slice (some (if m = 0 then ⟨b, off, none⟩ else (⟨b, off, none⟩ : Addr).add (0 * s))) m m)) w := by
              simp [execOp, hop, hva, Instr.sliceAt, Instr.sureAddr, run_underlying hu, Instr.sliceBounds, run_sizeOf hie, hsz]
            split at hr
            · rename_i hm
              cases hr
              subst hm
              exact fin_value hF h hd (by rw [hop]; intro c hc; cases hc) run (.of (VRep.nils _)) hS hn
            · rename_i hm
              cases hr
              rw [if_neg hm] at run
              refine fin_value hF h hd (by rw [hop]; intro c hc; cases hc) run (.of ?_) hS hn
              rw [Addr.add_lit, Nat.zero_mul, Nat.add_zero]
              exact VRep.bvs _ _ _ _ _ _ hb (Nat.le_refl _) (by omega)
        · cases hr
      · rename_i k z hl
        cases lo with
        | none => cases hl
        | some lo =>
        cases l with
        | none => simp at h5
        | some y =>
          have ry := okArg_rep h h5
          simp only [Option.map_some, Option.some.injEq] at hl
          rw [hl] at ry; have ey := rep_int ry
          split at hr
          · rename_i id off hx
            rw [hx] at r1
            generalize hva : a.eval u = va at r1
            cases r1 with
            | ptr _ _ b hb =>
              split at hr
              · rename_i hz
                have run : (execOp a.eval o).run P w = .ok (.value (.slice (some (if m = z.toNat then ⟨b, off, none⟩ else (⟨b, off, none⟩ : Addr).add (z.toNat * s))) (m - z.toNat) (m - z.toNat))) w := by
                  simp [execOp, hop, hva, ey, Instr.sliceAt, Instr.sureAddr, run_underlying hu, Instr.sliceBounds, run_sizeOf hie, hsz, run_sliceBound hz.1 hz.2]
                split at hr
                · rename_i hm
                  cases hr
                  rw [hm, Nat.sub_self] at run
                  exact fin_value hF h hd (by rw [hop]; intro c hc; cases hc) run (.of (VRep.nils _)) hS hn
                · rename_i hm
                  cases hr
                  rw [if_neg (fun e => hm e.symm)] at run
                  refine fin_value hF h hd (by rw [hop]; intro c hc; cases hc) run (.of ?_) hS hn
                  rw [Addr.add_lit]
                  exact VRep.bvs _ _ _ _ _ _ hb (Nat.le_refl _) (by omega)
              · cases hr
          · cases hr
      · cases hr
    · cases h4
  · cases hok

theorem ins_nck (hF : ∀ f, F.fn f) (h : Sim N G own L S a w) (hd : ∀ t, o.dst = some t → t < N) {x : Arg} (hok : okIns P o.op (.nck x) = true)
    {cl : ClT} (hev : evIns cl o.dst (.nck x) S = some S') (hn : ∀ a' w', Res N G own w a.defers S' a' w' → next a' w') : o.wpIn F n P a w next Q := by
  obtain ⟨r, hr, hS⟩ := retS_inv hev
  simp only [okIns] at hok
  split at hok
  · rename_i u hop
    have r1 := okArg_rep h hok
    unfold nckV at hr
    split at hr
    · rename_i hb
      cases hr
      rcases isNil_ptr r1 hb with ⟨hh, _⟩ | ⟨_, ad, hv⟩
      · cases hh
      · rw [hv] at r1
        exact fin_value hF h hd (by rw [hop]; intro c hc; cases hc) (v := .pointer (some ad)) (by simp [execOp, hop, hv]) r1 hS hn
    · cases hr
  · cases hok

theorem normA_rep {v : Value} {x : V} (h : SRep G L v x) (ho : (normA x).outB = true) : VRep G v (normA x) := by
  cases x with
  | nils =>
    cases h with | nils ad => exact .p (.sl0 ad 0)
  | lptr s o => simp [normA, V.outB] at ho
  | _ => exact h

/-- Arguments that are handed on. -/
theorem args_rep (h : Sim N G own L S a w) {xs : List Operand} {bs : List Arg} (hx : okArgs xs bs = true) (ho : (bs.map fun b => normA (S.arg b)).all V.outB = true) :
    (xs.toArray.map a.eval).size = (bs.map fun b => normA (S.arg b)).length ∧
    ∀ j (hj : j < (bs.map fun b => normA (S.arg b)).length), VRep G ((xs.toArray.map a.eval).getD j undef) ((bs.map fun b => normA (S.arg b))[j]) := by
  obtain ⟨h1, h2⟩ := okArgs_rep h hx
  refine ⟨by simp [h1], fun j hj => ?_⟩
  have hj2 : j < bs.length := by simpa using hj
  have hj1 : j < xs.length := by omega
  have := h2 j hj1 hj2
  have ho' := (List.all_eq_true.1 ho) ((bs.map fun b => normA (S.arg b))[j]) (List.getElem_mem _)
  simp only [List.getElem_map] at ho' ⊢
  have e : (xs.toArray.map a.eval).getD j undef = a.eval xs[j] := by simp [Array.getD_eq_getD_getElem?, hj1]
  rw [e]
  exact normA_rep this ho'

theorem ins_mkf (hF : ∀ f, F.fn f) (h : Sim N G own L S a w) (hd : ∀ t, o.dst = some t → t < N) {f : Fn} {as bs : List Arg} (hok : okIns P o.op (.mkf f as bs) = true)
    {cl : ClT} (hev : evIns cl o.dst (.mkf f as bs) S = some S') (hn : ∀ a' w', Res N G own w a.defers S' a' w' → next a' w') : o.wpIn F n P a w next Q := by
  obtain ⟨r, hr, hS⟩ := retS_inv hev
  simp only [okIns] at hok
  split at hok
  · rename_i g xs ys hop
    simp only [Bool.and_eq_true, decide_eq_true_eq] at hok
    obtain ⟨⟨rfl, h1⟩, h2⟩ := hok
    unfold mkfV at hr
    split at hr
    · rename_i ho
      cases hr
      obtain ⟨a1, a2⟩ := args_rep h h1 ho.1
      obtain ⟨b1, b2⟩ := args_rep h h2 ho.2
      simp only [Array.toArray_toList] at a1 a2 b1 b2
      exact fin_value hF h hd (by rw [hop]; intro c hc; cases hc) (v := .func f (xs.map a.eval) (ys.map a.eval)) (by simp [execOp, hop, Instr.makeFunc]) (.of (.fn _ _ _ _ _ a1 b1 a2 b2)) hS hn
    · cases hr
  · cases hok

theorem rep_head {α : Type} {es : List (List α)} {s s' : Nat} (h : headOK s es = true) (hn : 0 < es.length) (hs : ∀ i (h : i < es.length), (es[i]).length = s') : s' = s := by
  cases es with
  | nil => simp at hn
  | cons e r => rw [← hs 0 (by simp)]; simpa [headOK] using h

/-- A piece of a slice. -/
theorem slc_rep {H : Heap} {loc : List (Nat × List V)} (hw : WOK G own H L loc w) {s : Nat} {v : Value} {x r : V} {lo hi : Option Int} (h : SRep G L v x) (hr : slcV H s x lo hi = some r) :
    ∃ ad len cap, v = .slice ad len cap ∧ 0 ≤ lo.getD 0 ∧ lo.getD 0 ≤ hi.getD len ∧ hi.getD len ≤ (len : Int) ∧ len ≤ cap ∧
      VRep G (.slice (if cap = (lo.getD 0).toNat then ad else ad.map (·.add ((lo.getD 0).toNat * s))) ((hi.getD len).toNat - (lo.getD 0).toNat) (cap - (lo.getD 0).toNat)) r := by
  unfold slcV at hr
  split at hr
  · cases hr
  · rename_i m hl
    split at hr
    · rename_i hb
      obtain ⟨h0, h1, h2⟩ := hb
      split at hr
      · rename_i es
        split at hr
        · rename_i hh
          cases hr
          cases hl
          cases h with
          | p hp =>
            cases hp with
            | sl0 ad cap =>
              refine ⟨ad, 0, cap, rfl, h0, h1, h2, Nat.zero_le _, ?_⟩
              simp only [List.length_nil] at h1 h2
              have e : ((hi.getD ((0 : Nat) : Int)).toNat - (lo.getD 0).toNat) = 0 := by omega
              rw [e]
              simp only [List.drop_nil, List.take_nil]
              exact .p (.sl0 _ _)
            | sl b off cap s' _ c hn hc hs hI hR =>
              have := rep_head hh hn hs
              subst this
              refine ⟨_, _, cap, rfl, h0, h1, h2, hc, ?_⟩
              by_cases hz : (hi.getD (es.length : Int)).toNat - (lo.getD 0).toNat = 0
              · rw [hz]
                have e : (hi.getD (es.length : Int) - lo.getD 0).toNat = 0 := by omega
                rw [e, List.take_zero]
                exact .p (.sl0 _ _)
              · have hne : cap ≠ (lo.getD 0).toNat := by omega
                rw [if_neg hne]
                simp only [Option.map_some, Addr.add_lit]
                have hlen : ((es.drop (lo.getD 0).toNat).take (hi.getD (es.length : Int) - lo.getD 0).toNat).length = (hi.getD (es.length : Int)).toNat - (lo.getD 0).toNat := by simp; omega
                rw [← hlen]
                refine .p (.sl b (off + (lo.getD 0).toNat * s') (cap - (lo.getD 0).toNat) s' _ (fun i j => c ((lo.getD 0).toNat + i) j) (by omega) (by omega) ?_ ?_ ?_)
                · intro i hi'; simp only [List.getElem_take, List.getElem_drop]; exact hs _ _
                · intro i j hi' hj
                  have := hI ((lo.getD 0).toNat + i) j (by omega) hj
                  rwa [Nat.add_mul, ← Nat.add_assoc] at this
                · intro i j hi' hj
                  simp only [List.getElem_take, List.getElem_drop]
                  exact hR _ _ _ _
        · cases hr
      · rename_i es
        split at hr
        · rename_i hh
          cases hr
          cases hl
          cases h with
          | vsl0 ad cap =>
            refine ⟨ad, 0, cap, rfl, h0, h1, h2, Nat.zero_le _, ?_⟩
            simp only [List.length_nil] at h1 h2
            have e : ((hi.getD ((0 : Nat) : Int)).toNat - (lo.getD 0).toNat) = 0 := by omega
            rw [e]
            simp only [List.drop_nil, List.take_nil]
            exact .vsl0 _ _
          | vsl b off cap s' _ c hn hc hs hI hR =>
            have := rep_head hh hn hs
            subst this
            refine ⟨_, _, cap, rfl, h0, h1, h2, hc, ?_⟩
            by_cases hz : (hi.getD (es.length : Int)).toNat - (lo.getD 0).toNat = 0
            · rw [hz]
              have e : (hi.getD (es.length : Int) - lo.getD 0).toNat = 0 := by omega
              rw [e, List.take_zero]
              exact .vsl0 _ _
            · have hne : cap ≠ (lo.getD 0).toNat := by omega
              rw [if_neg hne]
              simp only [Option.map_some, Addr.add_lit]
              have hlen : ((es.drop (lo.getD 0).toNat).take (hi.getD (es.length : Int) - lo.getD 0).toNat).length = (hi.getD (es.length : Int)).toNat - (lo.getD 0).toNat := by simp; omega
              rw [← hlen]
              refine .vsl b (off + (lo.getD 0).toNat * s') (cap - (lo.getD 0).toNat) s' _ (fun i j => c ((lo.getD 0).toNat + i) j) (by omega) (by omega) ?_ ?_ ?_
              · intro i hi'; simp only [List.getElem_take, List.getElem_drop]; exact hs _ _
              · intro i j hi' hj
                have := hI ((lo.getD 0).toNat + i) j (by omega) hj
                rwa [Nat.add_mul, ← Nat.add_assoc] at this
              · intro i j hi' hj
                simp only [List.getElem_take, List.getElem_drop]
                exact hR _ _ _ _
        · cases hr
      · cases hr
        cases hl
        cases h with
        | nils ad =>
          refine ⟨ad, 0, 0, rfl, h0, h1, h2, Nat.zero_le _, ?_⟩
          have e1 : (lo.getD 0).toNat = 0 := by omega
          have e2 : ((hi.getD ((0 : Nat) : Int)).toNat - (lo.getD 0).toNat) = 0 := by omega
          rw [e2, e1]
          simp only [if_true]
          exact .nils ad
      · rename_i id tot off m'
        split at hr
        · rename_i s' es hro
          split at hr
          · rename_i hc
            obtain ⟨hc1, rfl⟩ := hc
            cases hr
            cases hl
            cases h with
            | rown _ hg =>
              refine ⟨none, 0, 0, rfl, h0, h1, h2, Nat.zero_le _, ?_⟩
              have e1 : (lo.getD 0).toNat = 0 := by omega
              have e2 : ((hi.getD ((0 : Nat) : Int)).toNat - (lo.getD 0).toNat) = 0 := by omega
              have e3 : (hi.getD ((0 : Nat) : Int) - lo.getD 0).toNat = 0 := by omega
              rw [e3, e2, e1]
              simp only [if_true]
              exact .rown _ hg
            | rowz _ _ _ ho ad cap =>
              refine ⟨ad, 0, cap, rfl, h0, h1, h2, Nat.zero_le _, ?_⟩
              have e2 : ((hi.getD ((0 : Nat) : Int)).toNat - (lo.getD 0).toNat) = 0 := by omega
              have e3 : (hi.getD ((0 : Nat) : Int) - lo.getD 0).toNat = 0 := by omega
              rw [e3, e2]
              exact .rowz _ _ _ (by omega) _ _
            | row _ _ _ _ b s'' cap hg h1' h2' =>
              obtain ⟨rfl, -⟩ := row_info hw hro (hc1 ▸ hg)
              refine ⟨_, _, cap - off, rfl, h0, h1, h2, by omega, ?_⟩
              by_cases hz : cap - off = (lo.getD 0).toNat
              · rw [if_pos hz]
                have e2 : ((hi.getD (m : Int)).toNat - (lo.getD 0).toNat) = 0 := by omega
                have e3 : (hi.getD (m : Int) - lo.getD 0).toNat = 0 := by omega
                rw [e3, e2]
                by_cases hoff : off + (lo.getD 0).toNat = 0
                · have e4 : (lo.getD 0).toNat = 0 := by omega
                  have e5 : off = 0 := by omega
                  rw [e4, e5]
                  have := VRep.row (G := G) id tot 0 0 b s'' cap hg (by omega) h2'
                  simpa using this
                · exact .rowz _ _ _ (by omega) _ _
              · rw [if_neg hz]
                simp only [Option.map_some, Addr.add_lit]
                have e3 : (hi.getD (m : Int) - lo.getD 0).toNat = (hi.getD (m : Int)).toNat - (lo.getD 0).toNat := by omega
                rw [e3, ← Nat.add_mul, show cap - off - (lo.getD 0).toNat = cap - (off + (lo.getD 0).toNat) by omega]
                exact .row _ _ _ _ _ _ _ hg (by omega) h2'
          · cases hr
        · cases hr
      · cases hr
    · cases hr

theorem ins_slc (hF : ∀ f, F.fn f) (h : Sim N G own L S a w) (hd : ∀ t, o.dst = some t → t < N) {x : Arg} {lo hi : Option Arg} {s : Nat} (hok : okIns P o.op (.slc x lo hi s) = true)
    {cl : ClT} (hev : evIns cl o.dst (.slc x lo hi s) S = some S') (hn : ∀ a' w', Res N G own w a.defers S' a' w' → next a' w') : o.wpIn F n P a w next Q := by
  obtain ⟨r, hr, hS⟩ := retS_inv hev
  simp only [okIns] at hok
  split at hok
  · rename_i t u l hh m hop
    simp only [Bool.and_eq_true] at hok
    obtain ⟨⟨⟨⟨h1, h2⟩, h3⟩, h4⟩, h5⟩ := hok
    obtain ⟨e, ie, hu, hie, hsz, hs0⟩ := sliceB_some h3
    have hm : m = none := by cases m <;> simp at h2 ⊢
    subst hm
    have r1 := okArg_rep h h1
    -- the bounds as numbers
    have low : ∃ l' : Option Int, (lo.map S.arg = none ∧ l = none ∧ l' = none ∨ ∃ y k z, l = some y ∧ a.eval y = .int k z ∧ l' = some z ∧ lo.map S.arg = some (.p (.int k z))) ∨ True := ⟨none, .inr trivial⟩
    clear low
    unfold slcI at hr
    split at hr
    · rename_i hl hhi
      have e1 : lo = none := by cases lo <;> simp at hl ⊢
      have e2 : hi = none := by cases hi <;> simp at hhi ⊢
      subst e1 e2
      have e3 : l = none := by cases l <;> simp at h4 ⊢
      have e4 : hh = none := by cases hh <;> simp at h5 ⊢
      subst e3 e4
      obtain ⟨ad, len, cap, hv, b0, b1, b2, b3, hrep⟩ := slc_rep h.wok r1 hr
      simp only [Option.getD_none] at b0 b1 b2 hrep
      refine fin_value hF h hd (by rw [hop]; intro c hc; cases hc) ?_ (.of hrep) hS hn
      simp [execOp, hop, hv, Instr.sliceAt, Instr.slice, run_underlying hu, Instr.sliceBounds, run_sizeOf hie, hsz]
    · rename_i k z hl hhi
      have e2 : hi = none := by cases hi <;> simp at hhi ⊢
      subst e2
      have e4 : hh = none := by cases hh <;> simp at h5 ⊢
      subst e4
      cases lo with
      | none => cases hl
      | some lo =>
        cases l with
        | none => simp at h4
        | some y =>
          have ry := okArg_rep h h4
          simp only [Option.map_some, Option.some.injEq] at hl
          rw [hl] at ry; have ey := rep_int ry
          obtain ⟨ad, len, cap, hv, b0, b1, b2, b3, hrep⟩ := slc_rep h.wok r1 hr
          simp only [Option.getD_none, Option.getD_some] at b0 b1 b2 hrep
          refine fin_value hF h hd (by rw [hop]; intro c hc; cases hc) ?_ (.of hrep) hS hn
          simp [execOp, hop, hv, Instr.sliceAt, Instr.slice, run_underlying hu, Instr.sliceBounds, run_sizeOf hie, hsz, ey, run_sliceBound b0 b1]
    · rename_i k z hl hhi
      have e1 : lo = none := by cases lo <;> simp at hl ⊢
      subst e1
      have e3 : l = none := by cases l <;> simp at h4 ⊢
      subst e3
      cases hi with
      | none => cases hhi
      | some hi =>
        cases hh with
        | none => simp at h5
        | some y =>
          have ry := okArg_rep h h5
          simp only [Option.map_some, Option.some.injEq] at hhi
          rw [hhi] at ry; have ey := rep_int ry
          obtain ⟨ad, len, cap, hv, b0, b1, b2, b3, hrep⟩ := slc_rep h.wok r1 hr
          simp only [Option.getD_none, Option.getD_some] at b0 b1 b2 hrep
          have b4 : z ≤ (cap : Int) := by omega
          refine fin_value hF h hd (by rw [hop]; intro c hc; cases hc) ?_ (.of hrep) hS hn
          simp [execOp, hop, hv, Instr.sliceAt, Instr.slice, run_underlying hu, Instr.sliceBounds, run_sizeOf hie, hsz, ey, run_sliceBound b1 b4]
    · rename_i k z k' z' hl hhi
      cases lo with
      | none => cases hl
      | some lo =>
      cases l with
      | none => simp at h4
      | some y =>
      cases hi with
      | none => cases hhi
      | some hi =>
      cases hh with
      | none => simp at h5
      | some y' =>
        have ry := okArg_rep h h4
        simp only [Option.map_some, Option.some.injEq] at hl
        rw [hl] at ry; have ey := rep_int ry
        have ry' := okArg_rep h h5
        simp only [Option.map_some, Option.some.injEq] at hhi
        rw [hhi] at ry'; have ey' := rep_int ry'
        obtain ⟨ad, len, cap, hv, b0, b1, b2, b3, hrep⟩ := slc_rep h.wok r1 hr
        simp only [Option.getD_some] at b0 b1 b2 hrep
        have b4 : z' ≤ (cap : Int) := by omega
        have b5 : z ≤ ((z'.toNat : Nat) : Int) := by omega
        refine fin_value hF h hd (by rw [hop]; intro c hc; cases hc) ?_ (.of hrep) hS hn
        simp [execOp, hop, hv, Instr.sliceAt, Instr.slice, run_underlying hu, Instr.sliceBounds, run_sizeOf hie, hsz, ey, ey', run_sliceBound (Int.le_trans b0 b1) b4, run_sliceBound b0 b5]
    · cases hr
  · cases hok
end
end Go.Eng
