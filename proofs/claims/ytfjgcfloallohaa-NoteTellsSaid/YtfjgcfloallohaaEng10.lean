/- The engine, part 10: comparisons, function values, slices of slices, literals. -/
import Derived.Test.YtfjgcfloallohaaEng9
namespace Go.Eng
open Go

section
variable {F : Fence} {n : Nat} {P : Program} {o : Oper} {a : Act} {w : World} {Q : Exit → Act → World → Prop}
variable {N : Nat} {G : Gh} {own : Own} {L : Nat → Option Nat} {S S' : St} {next : Act → World → Prop}

theorem equalIn_bool (d : Nat) {t : TypeId} (ht : P.underlying t = some .bool) (x y : Bool) : (Op.equalIn (d + 1) t (.bool x) (.bool y)).run P w = .ok (x == y) w := by
  simp only [Op.equalIn, Sem.run_bind, run_underlying ht, Result.andThen_ok]; rfl
theorem run_equal_bool {t : TypeId} (ht : P.underlying t = some .bool) (x y : Bool) : (Op.equal t (.bool x) (.bool y)).run P w = .ok (x == y) w := equalIn_bool 9999 ht x y

theorem ng_op {ng : Bool} {b : BinOp} (h : (if ng = true then b == .neq else b == .eql) = true) : (ng = true ∧ b = .neq) ∨ (ng = false ∧ b = .eql) := by
  cases ng <;> simp at h <;> simp [h]

theorem ins_eqb (hF : ∀ f, F.fn f) (h : Sim N G own L S a w) (hd : ∀ t, o.dst = some t → t < N) {ng : Bool} {x y : Arg} (hok : okIns P o.op (.eqb ng x y) = true)
    {cl : ClT} (hev : evIns cl o.dst (.eqb ng x y) S = some S') (hn : ∀ a' w', Res N G own w a.defers S' a' w' → next a' w') : o.wpIn F n P a w next Q := by
  obtain ⟨r, hr, hS⟩ := retS_inv hev
  simp only [okIns] at hok
  split at hok
  · rename_i b' t u v ty hop
    simp only [Bool.and_eq_true] at hok
    obtain ⟨⟨⟨h0, h1⟩, h2⟩, h3⟩ := hok
    split at h3
    · rename_i hu
      have r1 := okArg_rep h h1
      have r2 := okArg_rep h h2
      unfold eqbV at hr
      split at hr
      · rename_i p q hx hy
        rw [hx] at r1; rw [hy] at r2
        have e1 := rep_bool r1; have e2 := rep_bool r2
        cases hr
        refine fin_value hF h hd (by rw [hop]; intro c hc; cases hc) (v := .bool ((p == q) != ng)) ?_ (.of (.p (.bool _))) hS hn
        have hg : ∀ bo, (eqGuard bo t u v (.bool p) (.bool q)).run P w = .ok () w := by intro bo; unfold eqGuard; split <;> simp
        rcases ng_op h0 with ⟨rfl, rfl⟩ | ⟨rfl, rfl⟩
        · simp [execOp, hop, e1, e2, hg, binOp, run_equal_bool hu]
        · simp [execOp, hop, e1, e2, hg, binOp, run_equal_bool hu]
      · cases hr
    · cases h3
  · cases hok

theorem equalIn_nilp (d : Nat) {t e : TypeId} (ht : P.underlying t = some (.pointer e)) (x : Option Addr) : (Op.equalIn (d + 1) t (.pointer x) (.pointer none)).run P w = .ok x.isNone w := by
  simp only [Op.equalIn, Sem.run_bind, run_underlying ht, Result.andThen_ok]; cases x <;> rfl
theorem equalIn_nilf (d : Nat) {t : TypeId} {ps rs : Array TypeId} {vd : Bool} (ht : P.underlying t = some (.func ps rs vd)) : (Op.equalIn (d + 1) t .nilFunc .nilFunc).run P w = .ok true w := by
  simp only [Op.equalIn, Sem.run_bind, run_underlying ht, Result.andThen_ok]; rfl
theorem equalIn_func (d : Nat) {t : TypeId} {ps rs : Array TypeId} {vd : Bool} (ht : P.underlying t = some (.func ps rs vd)) (f : Fn) (x y : Array Value) : (Op.equalIn (d + 1) t (.func f x y) .nilFunc).run P w = .ok false w := by
  simp only [Op.equalIn, Sem.run_bind, run_underlying ht, Result.andThen_ok]; rfl
theorem equalIn_nils (d : Nat) {t e : TypeId} (ht : P.underlying t = some (.slice e)) (x : Addr) (m c : Nat) : (Op.equalIn (d + 1) t (.slice (some x) m c) (.slice none 0 0)).run P w = .ok false w := by
  simp only [Op.equalIn, Sem.run_bind, run_underlying ht, Result.andThen_ok]; rfl

theorem run_bin_eq {ng : Bool} {bo : BinOp} {t : TypeId} {v u : Value} {b : Bool} (h0 : (if ng = true then bo == .neq else bo == .eql) = true) (x y : Operand)
    (he : (Op.equal t v u).run P w = .ok b w) (hne : (∃ ad, v = .pointer ad ∧ u = .pointer none) ∨ (∃ f p q, v = .func f p q ∧ u = .nilFunc) ∨ (v = .nilFunc ∧ u = .nilFunc) ∨ (∃ ad m c, v = .slice ad m c ∧ u = .slice none 0 0)) :
    (do eqGuard bo t x y v u; binOp bo t v u).run P w = .ok (.bool (b != ng)) w := by
  have hg : (eqGuard bo t x y v u).run P w = .ok () w := by
    rcases hne with ⟨ad, rfl, rfl⟩ | ⟨f, p, q, rfl, rfl⟩ | ⟨rfl, rfl⟩ | ⟨ad, m, c, rfl, rfl⟩ <;> (unfold eqGuard; split <;> simp)
  have hb : (binOp bo t v u).run P w = .ok (.bool (b != ng)) w := by
    rcases ng_op h0 with ⟨rfl, rfl⟩ | ⟨rfl, rfl⟩ <;>
      rcases hne with ⟨ad, rfl, rfl⟩ | ⟨f, p, q, rfl, rfl⟩ | ⟨rfl, rfl⟩ | ⟨ad, m, c, rfl, rfl⟩ <;> simp [binOp, he]
  simp only [Sem.run_bind, hg, Result.andThen_ok, hb]

theorem ins_eqn (hF : ∀ f, F.fn f) (h : Sim N G own L S a w) (hd : ∀ t, o.dst = some t → t < N) {k : NK} {ng : Bool} {x : Arg} (hok : okIns P o.op (.eqn k ng x) = true)
    {cl : ClT} (hev : evIns cl o.dst (.eqn k ng x) S = some S') (hn : ∀ a' w', Res N G own w a.defers S' a' w' → next a' w') : o.wpIn F n P a w next Q := by
  obtain ⟨r, hr, hS⟩ := retS_inv hev
  simp only [okIns] at hok
  split at hok
  · rename_i b' t u v ty hop
    simp only [Bool.and_eq_true] at hok
    obtain ⟨⟨h0, h1⟩, h3⟩ := hok
    have r1 := okArg_rep h h1
    unfold eqnV at hr
    split at hr
    · rename_i b hb
      cases hr
      have hv : a.eval (.const v) = v := rfl
      suffices hs : ∃ hh : (Op.equal t (a.eval u) v).run P w = .ok b w, (∃ ad, a.eval u = .pointer ad ∧ v = .pointer none) ∨ (∃ f p q, a.eval u = .func f p q ∧ v = .nilFunc) ∨ (a.eval u = .nilFunc ∧ v = .nilFunc) ∨ (∃ ad m c, a.eval u = .slice ad m c ∧ v = .slice none 0 0) by
        obtain ⟨h5, h6⟩ := hs
        refine fin_value hF h hd (by rw [hop]; intro c hc; cases hc) (v := .bool (b != ng)) ?_ (.of (.p (.bool _))) hS hn
        have := run_bin_eq (P := P) (w := w) h0 u (.const v) h5 h6
        simp only [execOp, hop, hv, Sem.run_bind] at this ⊢
        rw [this]; rfl
      split at h3
      · rename_i e hu
        rcases isNil_ptr r1 hb with ⟨rfl, h5⟩ | ⟨rfl, ad, h5⟩ <;> rw [h5]
        · exact ⟨equalIn_nilp 9999 hu none, .inl ⟨_, rfl, rfl⟩⟩
        · exact ⟨equalIn_nilp 9999 hu _, .inl ⟨_, rfl, rfl⟩⟩
      · rename_i hu
        rcases isNil_fn r1 hb with ⟨rfl, h5⟩ | ⟨rfl, f, p, q, h5⟩ <;> rw [h5]
        · exact ⟨equalIn_nilf 9999 hu, .inr (.inr (.inl ⟨rfl, rfl⟩))⟩
        · exact ⟨equalIn_func 9999 hu f p q, .inr (.inl ⟨_, _, _, rfl, rfl⟩)⟩
      · rename_i e hu
        obtain ⟨rfl, ad, m, c, h5⟩ := isNil_sl r1 hb
        rw [h5]
        exact ⟨equalIn_nils 9999 hu ad m c, .inr (.inr (.inr ⟨_, _, _, rfl, rfl⟩))⟩
      · cases h3
    · cases hr
  · cases hok

theorem ins_nck (hF : ∀ f, F.fn f) (h : Sim N G own L S a w) (hd : ∀ t, o.dst = some t → t < N) {x : Arg} (hok : okIns P o.op (.nck x) = true)
    {cl : ClT} (hev : evIns cl o.dst (.nck x) S = some S') (hn : ∀ a' w', Res N G own w a.defers S' a' w' → next a' w') : o.wpIn F n P a w next Q := by
  obtain ⟨r, hr, hS⟩ := retS_inv hev
  simp only [okIns] at hok
  split at hok
  · rename_i u hop
    have r1 := okArg_rep h hok
    unfold nckV at hr
    split at hr
    · rename_i hb
      cases hr
      rcases isNil_ptr r1 hb with ⟨hh, _⟩ | ⟨_, ad, hv⟩
      · cases hh
      · rw [hv] at r1
        exact fin_value hF h hd (by rw [hop]; intro c hc; cases hc) (v := .pointer (some ad)) (by simp [execOp, hop, hv]) r1 hS hn
    · cases hr
  · cases hok

theorem normA_rep {v : Value} {x : V} (h : SRep G L v x) (ho : (normA x).outB = true) : VRep G v (normA x) := by
  cases x with
  | nils =>
    cases h with | nils ad => exact .p (.sl0 ad 0)
  | lptr s o => simp [normA, V.outB] at ho
  | _ => exact h

/-- Arguments that are handed on. -/
theorem args_rep (h : Sim N G own L S a w) {xs : List Operand} {bs : List Arg} (hx : okArgs xs bs = true) (ho : (bs.map fun b => normA (S.arg b)).all V.outB = true) :
    (xs.toArray.map a.eval).size = (bs.map fun b => normA (S.arg b)).length ∧
    ∀ j (hj : j < (bs.map fun b => normA (S.arg b)).length), VRep G ((xs.toArray.map a.eval).getD j undef) ((bs.map fun b => normA (S.arg b))[j]) := by
  obtain ⟨h1, h2⟩ := okArgs_rep h hx
  refine ⟨by simp [h1], fun j hj => ?_⟩
  have hj2 : j < bs.length := by simpa using hj
  have hj1 : j < xs.length := by omega
  have := h2 j hj1 hj2
  have ho' := (List.all_eq_true.1 ho) ((bs.map fun b => normA (S.arg b))[j]) (List.getElem_mem _)
  simp only [List.getElem_map] at ho' ⊢
  have e : (xs.toArray.map a.eval).getD j undef = a.eval xs[j] := by simp [Array.getD_eq_getD_getElem?, hj1]
  rw [e]
  exact normA_rep this ho'

theorem ins_mkf (hF : ∀ f, F.fn f) (h : Sim N G own L S a w) (hd : ∀ t, o.dst = some t → t < N) {f : Fn} {as bs : List Arg} (hok : okIns P o.op (.mkf f as bs) = true)
    {cl : ClT} (hev : evIns cl o.dst (.mkf f as bs) S = some S') (hn : ∀ a' w', Res N G own w a.defers S' a' w' → next a' w') : o.wpIn F n P a w next Q := by
  obtain ⟨r, hr, hS⟩ := retS_inv hev
  simp only [okIns] at hok
  split at hok
  · rename_i g xs ys hop
    simp only [Bool.and_eq_true, decide_eq_true_eq] at hok
    obtain ⟨⟨rfl, h1⟩, h2⟩ := hok
    unfold mkfV at hr
    split at hr
    · rename_i ho
      cases hr
      obtain ⟨a1, a2⟩ := args_rep h h1 ho.1
      obtain ⟨b1, b2⟩ := args_rep h h2 ho.2
      simp only [Array.toArray_toList] at a1 a2 b1 b2
      exact fin_value hF h hd (by rw [hop]; intro c hc; cases hc) (v := .func f (xs.map a.eval) (ys.map a.eval)) (by simp [execOp, hop, Instr.makeFunc]) (.of (.fn _ _ _ _ _ a1 b1 a2 b2)) hS hn
    · cases hr
  · cases hok

theorem rep_head {α : Type} {es : List (List α)} {s s' : Nat} (h : headOK s es = true) (hn : 0 < es.length) (hs : ∀ i (h : i < es.length), (es[i]).length = s') : s' = s := by
  cases es with
  | nil => simp at hn
  | cons e r => rw [← hs 0 (by simp)]; simpa [headOK] using h

/-- A piece of a slice. -/
theorem slc_rep {H : Heap} {loc : List (Nat × List V)} (hw : WOK G own H L loc w) {s : Nat} {v : Value} {x r : V} {lo hi : Option Int} (h : SRep G L v x) (hr : slcV H s x lo hi = some r) :
    ∃ ad len cap, v = .slice ad len cap ∧ 0 ≤ lo.getD 0 ∧ lo.getD 0 ≤ hi.getD len ∧ hi.getD len ≤ (len : Int) ∧ len ≤ cap ∧
      VRep G (.slice (if cap = (lo.getD 0).toNat then ad else ad.map (·.add ((lo.getD 0).toNat * s))) ((hi.getD len).toNat - (lo.getD 0).toNat) (cap - (lo.getD 0).toNat)) r := by
  unfold slcV at hr
  split at hr
  · cases hr
  · rename_i m hl
    split at hr
    · rename_i hb
      obtain ⟨h0, h1, h2⟩ := hb
      split at hr
      · rename_i es
        split at hr
        · rename_i hh
          cases hr
          cases hl
          cases h with
          | p hp =>
            cases hp with
            | sl0 ad cap =>
              refine ⟨ad, 0, cap, rfl, h0, h1, h2, Nat.zero_le _, ?_⟩
              simp only [List.length_nil] at h1 h2
              have e : ((hi.getD ((0 : Nat) : Int)).toNat - (lo.getD 0).toNat) = 0 := by omega
              rw [e]
              simp only [List.drop_nil, List.take_nil]
              exact .p (.sl0 _ _)
            | sl b off cap s' _ c hn hc hs hI hR =>
              have := rep_head hh hn hs
              subst this
              refine ⟨_, _, cap, rfl, h0, h1, h2, hc, ?_⟩
              by_cases hz : (hi.getD (es.length : Int)).toNat - (lo.getD 0).toNat = 0
              · rw [hz]
                have e : (hi.getD (es.length : Int) - lo.getD 0).toNat = 0 := by omega
                rw [e, List.take_zero]
                exact .p (.sl0 _ _)
              · have hne : cap ≠ (lo.getD 0).toNat := by omega
                rw [if_neg hne]
                simp only [Option.map_some, Addr.add_lit]
                have hlen : ((es.drop (lo.getD 0).toNat).take (hi.getD (es.length : Int) - lo.getD 0).toNat).length = (hi.getD (es.length : Int)).toNat - (lo.getD 0).toNat := by simp; omega
                rw [← hlen]
                refine .p (.sl b (off + (lo.getD 0).toNat * s') (cap - (lo.getD 0).toNat) s' _ (fun i j => c ((lo.getD 0).toNat + i) j) (by omega) (by omega) ?_ ?_ ?_)
                · intro i hi'; simp only [List.getElem_take, List.getElem_drop]; exact hs _ _
                · intro i j hi' hj
                  have := hI ((lo.getD 0).toNat + i) j (by omega) hj
                  rwa [Nat.add_mul, ← Nat.add_assoc] at this
                · intro i j hi' hj
                  simp only [List.getElem_take, List.getElem_drop]
                  exact hR _ _ _ _
        · cases hr
      · rename_i es
        split at hr
        · rename_i hh
          cases hr
          cases hl
          cases h with
          | vsl0 ad cap =>
            refine ⟨ad, 0, cap, rfl, h0, h1, h2, Nat.zero_le _, ?_⟩
            simp only [List.length_nil] at h1 h2
            have e : ((hi.getD ((0 : Nat) : Int)).toNat - (lo.getD 0).toNat) = 0 := by omega
            rw [e]
            simp only [List.drop_nil, List.take_nil]
            exact .vsl0 _ _
          | vsl b off cap s' _ c hn hc hs hI hR =>
            have := rep_head hh hn hs
            subst this
            refine ⟨_, _, cap, rfl, h0, h1, h2, hc, ?_⟩
            by_cases hz : (hi.getD (es.length : Int)).toNat - (lo.getD 0).toNat = 0
            · rw [hz]
              have e : (hi.getD (es.length : Int) - lo.getD 0).toNat = 0 := by omega
              rw [e, List.take_zero]
              exact .vsl0 _ _
            · have hne : cap ≠ (lo.getD 0).toNat := by omega
              rw [if_neg hne]
              simp only [Option.map_some, Addr.add_lit]
              have hlen : ((es.drop (lo.getD 0).toNat).take (hi.getD (es.length : Int) - lo.getD 0).toNat).length = (hi.getD (es.length : Int)).toNat - (lo.getD 0).toNat := by simp; omega
              rw [← hlen]
              refine .vsl b (off + (lo.getD 0).toNat * s') (cap - (lo.getD 0).toNat) s' _ (fun i j => c ((lo.getD 0).toNat + i) j) (by omega) (by omega) ?_ ?_ ?_
              · intro i hi'; simp only [List.getElem_take, List.getElem_drop]; exact hs _ _
              · intro i j hi' hj
                have := hI ((lo.getD 0).toNat + i) j (by omega) hj
                rwa [Nat.add_mul, ← Nat.add_assoc] at this
              · intro i j hi' hj
                simp only [List.getElem_take, List.getElem_drop]
                exact hR _ _ _ _
        · cases hr
      · cases hr
        cases hl
        cases h with
        | nils ad =>
          refine ⟨ad, 0, 0, rfl, h0, h1, h2, Nat.zero_le _, ?_⟩
          have e1 : (lo.getD 0).toNat = 0 := by omega
          have e2 : ((hi.getD ((0 : Nat) : Int)).toNat - (lo.getD 0).toNat) = 0 := by omega
          rw [e2, e1]
          simp only [if_true]
          exact .nils ad
      · rename_i id tot off m'
        split at hr
        · rename_i s' es hro
          split at hr
          · rename_i hc
            obtain ⟨hc1, rfl⟩ := hc
            cases hr
            cases hl
            cases h with
            | rown _ hg =>
              refine ⟨none, 0, 0, rfl, h0, h1, h2, Nat.zero_le _, ?_⟩
              have e1 : (lo.getD 0).toNat = 0 := by omega
              have e2 : ((hi.getD ((0 : Nat) : Int)).toNat - (lo.getD 0).toNat) = 0 := by omega
              have e3 : (hi.getD ((0 : Nat) : Int) - lo.getD 0).toNat = 0 := by omega
              rw [e3, e2, e1]
              simp only [if_true]
              exact .rown _ hg
            | rowz _ _ _ ho ad cap =>
              refine ⟨ad, 0, cap, rfl, h0, h1, h2, Nat.zero_le _, ?_⟩
              have e2 : ((hi.getD ((0 : Nat) : Int)).toNat - (lo.getD 0).toNat) = 0 := by omega
              have e3 : (hi.getD ((0 : Nat) : Int) - lo.getD 0).toNat = 0 := by omega
              rw [e3, e2]
              exact .rowz _ _ _ (by omega) _ _
            | row _ _ _ _ b s'' cap hg h1' h2' =>
              obtain ⟨rfl, -⟩ := row_info hw hro (hc1 ▸ hg)
              refine ⟨_, _, cap - off, rfl, h0, h1, h2, by omega, ?_⟩
              by_cases hz : cap - off = (lo.getD 0).toNat
              · rw [if_pos hz]
                have e2 : ((hi.getD (m : Int)).toNat - (lo.getD 0).toNat) = 0 := by omega
                have e3 : (hi.getD (m : Int) - lo.getD 0).toNat = 0 := by omega
                rw [e3, e2]
                by_cases hoff : off + (lo.getD 0).toNat = 0
                · have e4 : (lo.getD 0).toNat = 0 := by omega
                  have e5 : off = 0 := by omega
                  rw [e4, e5]
                  have := VRep.row (G := G) id tot 0 0 b s'' cap hg (by omega) h2'
                  simpa using this
                · exact .rowz _ _ _ (by omega) _ _
              · rw [if_neg hz]
                simp only [Option.map_some, Addr.add_lit]
                have e3 : (hi.getD (m : Int) - lo.getD 0).toNat = (hi.getD (m : Int)).toNat - (lo.getD 0).toNat := by omega
                rw [e3, ← Nat.add_mul, show cap - off - (lo.getD 0).toNat = cap - (off + (lo.getD 0).toNat) by omega]
                exact .row _ _ _ _ _ _ _ hg (by omega) h2'
          · cases hr
        · cases hr
      · cases hr
    · cases hr

theorem run_sliceBound {k : IntKind} {i : Int} {y : Nat} {code : BoundsCode} (h0 : 0 ≤ i) (h1 : i ≤ y) : (Instr.sliceBound (.int k i) y code).run P w = .ok i.toNat w := by
  simp [Instr.sliceBound, asIntOf, h0, h1]

theorem ins_slc (hF : ∀ f, F.fn f) (h : Sim N G own L S a w) (hd : ∀ t, o.dst = some t → t < N) {x : Arg} {lo hi : Option Arg} {s : Nat} (hok : okIns P o.op (.slc x lo hi s) = true)
    {cl : ClT} (hev : evIns cl o.dst (.slc x lo hi s) S = some S') (hn : ∀ a' w', Res N G own w a.defers S' a' w' → next a' w') : o.wpIn F n P a w next Q := by
  obtain ⟨r, hr, hS⟩ := retS_inv hev
  simp only [okIns] at hok
  split at hok
  · rename_i t u l hh m hop
    simp only [Bool.and_eq_true] at hok
    obtain ⟨⟨⟨⟨h1, h2⟩, h3⟩, h4⟩, h5⟩ := hok
    obtain ⟨e, ie, hu, hie, hsz, hs0⟩ := sliceB_some h3
    have hm : m = none := by cases m <;> simp at h2 ⊢
    subst hm
    have r1 := okArg_rep h h1
    -- the bounds as numbers
    have low : ∃ l' : Option Int, (lo.map S.arg = none ∧ l = none ∧ l' = none ∨ ∃ y k z, l = some y ∧ a.eval y = .int k z ∧ l' = some z ∧ lo.map S.arg = some (.p (.int k z))) ∨ True := ⟨none, .inr trivial⟩
    clear low
    unfold slcI at hr
    split at hr
    · rename_i hl hhi
      have e1 : lo = none := by cases lo <;> simp at hl ⊢
      have e2 : hi = none := by cases hi <;> simp at hhi ⊢
      subst e1 e2
      have e3 : l = none := by cases l <;> simp at h4 ⊢
      have e4 : hh = none := by cases hh <;> simp at h5 ⊢
      subst e3 e4
      obtain ⟨ad, len, cap, hv, b0, b1, b2, b3, hrep⟩ := slc_rep h.wok r1 hr
      simp only [Option.getD_none] at b0 b1 b2 hrep
      refine fin_value hF h hd (by rw [hop]; intro c hc; cases hc) ?_ (.of hrep) hS hn
      simp [execOp, hop, hv, Instr.sliceAt, Instr.slice, run_underlying hu, Instr.sliceBounds, run_sizeOf hie, hsz]
    · rename_i k z hl hhi
      have e2 : hi = none := by cases hi <;> simp at hhi ⊢
      subst e2
      have e4 : hh = none := by cases hh <;> simp at h5 ⊢
      subst e4
      cases lo with
      | none => cases hl
      | some lo =>
        cases l with
        | none => simp at h4
        | some y =>
          have ry := okArg_rep h h4
          simp only [Option.map_some, Option.some.injEq] at hl
          rw [hl] at ry; have ey := rep_int ry
          obtain ⟨ad, len, cap, hv, b0, b1, b2, b3, hrep⟩ := slc_rep h.wok r1 hr
          simp only [Option.getD_none, Option.getD_some] at b0 b1 b2 hrep
          refine fin_value hF h hd (by rw [hop]; intro c hc; cases hc) ?_ (.of hrep) hS hn
          simp [execOp, hop, hv, Instr.sliceAt, Instr.slice, run_underlying hu, Instr.sliceBounds, run_sizeOf hie, hsz, ey, run_sliceBound b0 b1]
    · rename_i k z hl hhi
      have e1 : lo = none := by cases lo <;> simp at hl ⊢
      subst e1
      have e3 : l = none := by cases l <;> simp at h4 ⊢
      subst e3
      cases hi with
      | none => cases hhi
      | some hi =>
        cases hh with
        | none => simp at h5
        | some y =>
          have ry := okArg_rep h h5
          simp only [Option.map_some, Option.some.injEq] at hhi
          rw [hhi] at ry; have ey := rep_int ry
          obtain ⟨ad, len, cap, hv, b0, b1, b2, b3, hrep⟩ := slc_rep h.wok r1 hr
          simp only [Option.getD_none, Option.getD_some] at b0 b1 b2 hrep
          have b4 : z ≤ (cap : Int) := by omega
          refine fin_value hF h hd (by rw [hop]; intro c hc; cases hc) ?_ (.of hrep) hS hn
          simp [execOp, hop, hv, Instr.sliceAt, Instr.slice, run_underlying hu, Instr.sliceBounds, run_sizeOf hie, hsz, ey, run_sliceBound b1 b4]
    · rename_i k z k' z' hl hhi
      cases lo with
      | none => cases hl
      | some lo =>
      cases l with
      | none => simp at h4
      | some y =>
      cases hi with
      | none => cases hhi
      | some hi =>
      cases hh with
      | none => simp at h5
      | some y' =>
        have ry := okArg_rep h h4
        simp only [Option.map_some, Option.some.injEq] at hl
        rw [hl] at ry; have ey := rep_int ry
        have ry' := okArg_rep h h5
        simp only [Option.map_some, Option.some.injEq] at hhi
        rw [hhi] at ry'; have ey' := rep_int ry'
        obtain ⟨ad, len, cap, hv, b0, b1, b2, b3, hrep⟩ := slc_rep h.wok r1 hr
        simp only [Option.getD_some] at b0 b1 b2 hrep
        have b4 : z' ≤ (cap : Int) := by omega
        have b5 : z ≤ ((z'.toNat : Nat) : Int) := by omega
        refine fin_value hF h hd (by rw [hop]; intro c hc; cases hc) ?_ (.of hrep) hS hn
        simp [execOp, hop, hv, Instr.sliceAt, Instr.slice, run_underlying hu, Instr.sliceBounds, run_sizeOf hie, hsz, ey, ey', run_sliceBound (Int.le_trans b0 b1) b4, run_sliceBound b0 b5]
    · cases hr
  · cases hok
end
end Go.Eng
