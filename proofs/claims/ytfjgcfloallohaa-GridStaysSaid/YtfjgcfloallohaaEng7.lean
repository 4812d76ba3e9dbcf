/- The engine, part 7: operations that only reckon. -/
import Derived.Test.YtfjgcfloallohaaEng6
namespace Go.Eng
open Go

theorem retS_inv {S S' : St} {d : Option Nat} {r : Option V} (h : retS S d r = some S') : ∃ x, r = some x ∧ S' = S.put d x := by
  cases r with
  | none => cases h
  | some x => exact ⟨x, rfl, by simpa using h.symm⟩

section
variable {F : Fence} {n : Nat} {P : Program} {o : Oper} {a : Act} {w : World} {Q : Exit → Act → World → Prop}
variable {N : Nat} {G : Gh} {own : Own} {L : Nat → Option Nat} {S S' : St} {next : Act → World → Prop}

/-- An operation that leaves the world alone. -/
theorem fin_value (hF : ∀ f, F.fn f) (h : Sim N G own L S a w) (hd : ∀ t, o.dst = some t → t < N) (hnd : ∀ c, o.op ≠ .defer c) {v : Value} {x : V}
    (hr : (execOp a.eval o).run P w = .ok (.value v) w) (hv : SRep G L v x) (hS : S' = S.put o.dst x)
    (hn : ∀ a' w', Res N G own w a.defers S' a' w' → next a' w') : o.wpIn F n P a w next Q := by
  refine wpIn_of_run hF hnd hr ?_
  subst hS
  exact hn _ _ ⟨G, own, L, h.put hd hv, .refl .., put_defers .., Kp.refl _ _ _ _⟩

theorem rep_int {v : Value} {k : IntKind} {m : Int} (h : SRep G L v (.p (.int k m))) : v = .int k m := by cases h with | p h => cases h; rfl
theorem rep_bool {v : Value} {b : Bool} (h : SRep G L v (.p (.bool b))) : v = .bool b := by cases h with | p h => cases h; rfl

theorem run_intOp {op : BinOp} {k k' : IntKind} {m m' : Int} {r : PV} (t : TypeId) (hk : op = .shl ∨ op = .shr ∨ k = k') (h : intOp op k m m' = some r) :
    ∃ v, (binOp op t (.int k m) (.int k' m')).run P w = .ok v w ∧ PRep G.I v r := by
  cases op <;> simp only [intOp] at h <;>
    first
    | (rcases hk with hk | hk | rfl <;> first | cases hk | skip
       all_goals (cases h; refine ⟨_, ?_, by first | exact .int _ _ | exact .bool _⟩; simp [binOp, Op.intArith, Op.intBits, Op.intCmp]; try rfl))
    | (rcases hk with hk | hk | rfl <;> first | cases hk | skip
       all_goals
        (split at h
         · cases h
         · rename_i hz; cases h; refine ⟨_, ?_, .int _ _⟩; simp [binOp, Op.intDiv, hz]))
    | (split at h
       · cases h
       · rename_i hz; cases h; refine ⟨_, ?_, .int _ _⟩; simp [binOp, Op.shift, hz])

theorem eqGuard_int (op : BinOp) (t : TypeId) (x y : Operand) (k k' : IntKind) (m m' : Int) : (eqGuard op t x y (.int k m) (.int k' m')).run P w = .ok () w := by
  unfold eqGuard; split <;> simp

theorem ins_bin (hF : ∀ f, F.fn f) (h : Sim N G own L S a w) (hd : ∀ t, o.dst = some t → t < N) {op : BinOp} {x y : Arg} (hok : okIns P o.op (.bin op x y) = true)
    {cl : ClT} (hev : evIns cl o.dst (.bin op x y) S = some S') (hn : ∀ a' w', Res N G own w a.defers S' a' w' → next a' w') : o.wpIn F n P a w next Q := by
  obtain ⟨r, hr, hS⟩ := retS_inv hev
  simp only [okIns] at hok
  split at hok
  · rename_i b' t u v ty hop
    simp only [Bool.and_eq_true, beq_iff_eq] at hok
    obtain ⟨⟨rfl, h1⟩, h2⟩ := hok
    have r1 := okArg_rep h h1
    have r2 := okArg_rep h h2
    unfold binV at hr
    split at hr
    · rename_i k m k' m' hx hy
      rw [hx] at r1; rw [hy] at r2
      have e1 := rep_int r1
      have e2 := rep_int r2
      split at hr
      · rename_i hk
        cases hi : intOp op k m m' with
        | none => rw [hi] at hr; cases hr
        | some p =>
          rw [hi] at hr; cases hr
          obtain ⟨z, hz, hp⟩ := run_intOp (P := P) (w := w) (G := G) t hk hi
          refine fin_value hF h hd (by rw [hop]; intro c hc; cases hc) (v := z) ?_ (.of (.p hp)) hS hn
          simp only [execOp, hop, e1, e2, Sem.run_bind, eqGuard_int, Result.andThen_ok, hz, Sem.run_pure]
      · cases hr
    · cases hr
  · cases hok

theorem ins_mov (hF : ∀ f, F.fn f) (h : Sim N G own L S a w) (hd : ∀ t, o.dst = some t → t < N) {x : Arg} (hok : okIns P o.op (.mov x) = true)
    {cl : ClT} (hev : evIns cl o.dst (.mov x) S = some S') (hn : ∀ a' w', Res N G own w a.defers S' a' w' → next a' w') : o.wpIn F n P a w next Q := by
  simp only [evIns, Option.some.injEq] at hev
  simp only [okIns] at hok
  split at hok
  · rename_i y hop
    exact fin_value hF h hd (by rw [hop]; intro c hc; cases hc) (v := a.eval y) (by simp [execOp, hop]) (okArg_rep h hok) hev.symm hn
  · rename_i y hop
    exact fin_value hF h hd (by rw [hop]; intro c hc; cases hc) (v := a.eval y) (by simp [execOp, hop]) (okArg_rep h hok) hev.symm hn
  · cases hok

theorem ins_pick (hF : ∀ f, F.fn f) (h : Sim N G own L S a w) (hd : ∀ t, o.dst = some t → t < N) {c x y : Arg} (hok : okIns P o.op (.pick c x y) = true)
    {cl : ClT} (hev : evIns cl o.dst (.pick c x y) S = some S') (hn : ∀ a' w', Res N G own w a.defers S' a' w' → next a' w') : o.wpIn F n P a w next Q := by
  obtain ⟨r, hr, hS⟩ := retS_inv hev
  simp only [okIns] at hok
  split at hok
  · rename_i u v z hop
    simp only [Bool.and_eq_true] at hok
    obtain ⟨⟨h0, h1⟩, h2⟩ := hok
    have r0 := okArg_rep h h0
    have r1 := okArg_rep h h1
    have r2 := okArg_rep h h2
    unfold pickV at hr
    split at hr
    · rename_i b hc
      rw [hc] at r0
      have e0 := rep_bool r0
      simp only [Option.some.injEq] at hr
      refine fin_value hF h hd (by rw [hop]; intro c hc; cases hc) (v := if b = true then a.eval v else a.eval z) ?_ (x := r) ?_ hS hn
      · simp [execOp, hop, e0, asBool]
      · rw [← hr]; cases b <;> simp <;> assumption
    · cases hr
  · cases hok

theorem ins_un (hF : ∀ f, F.fn f) (h : Sim N G own L S a w) (hd : ∀ t, o.dst = some t → t < N) {op : UnOp} {x : Arg} (hok : okIns P o.op (.un op x) = true)
    {cl : ClT} (hev : evIns cl o.dst (.un op x) S = some S') (hn : ∀ a' w', Res N G own w a.defers S' a' w' → next a' w') : o.wpIn F n P a w next Q := by
  obtain ⟨r, hr, hS⟩ := retS_inv hev
  simp only [okIns] at hok
  split at hok
  · rename_i b' t u hop
    simp only [Bool.and_eq_true, beq_iff_eq] at hok
    obtain ⟨rfl, h1⟩ := hok
    have r1 := okArg_rep h h1
    unfold unV at hr
    split at hr
    · rename_i b hx
      rw [hx] at r1; have e1 := rep_bool r1
      cases hr
      exact fin_value hF h hd (by rw [hop]; intro c hc; cases hc) (v := .bool !b) (by simp [execOp, hop, e1, Op.unary]) (.of (.p (.bool _))) hS hn
    · rename_i k m hx
      rw [hx] at r1; have e1 := rep_int r1
      cases hr
      exact fin_value hF h hd (by rw [hop]; intro c hc; cases hc) (v := .int k (k.wrap (0 - m))) (by simp [execOp, hop, e1, Op.unary, Op.intArith]) (.of (.p (.int _ _))) hS hn
    · rename_i k m hx
      rw [hx] at r1; have e1 := rep_int r1
      cases hr
      exact fin_value hF h hd (by rw [hop]; intro c hc; cases hc) (v := .int k (k.wrap (BitVec.ofInt k.bits (if k.signed then -1 else k.max) ^^^ BitVec.ofInt k.bits m).toNat)) (by simp [execOp, hop, e1, Op.unary, Op.intBits]) (.of (.p (.int _ _))) hS hn
    · cases hr
  · cases hok

theorem ins_conv (hF : ∀ f, F.fn f) (h : Sim N G own L S a w) (hd : ∀ t, o.dst = some t → t < N) {k : IntKind} {x : Arg} (hok : okIns P o.op (.conv k x) = true)
    {cl : ClT} (hev : evIns cl o.dst (.conv k x) S = some S') (hn : ∀ a' w', Res N G own w a.defers S' a' w' → next a' w') : o.wpIn F n P a w next Q := by
  obtain ⟨r, hr, hS⟩ := retS_inv hev
  simp only [okIns] at hok
  split at hok
  · rename_i s d u hop
    simp only [Bool.and_eq_true] at hok
    obtain ⟨h1, h2⟩ := hok
    have r1 := okArg_rep h h1
    unfold convV at hr
    split at hr
    · rename_i k0 m hx
      rw [hx] at r1; have e1 := rep_int r1
      cases hr
      split at h2
      · rename_i ks kd hs hdd
        simp only [beq_iff_eq] at h2
        subst h2
        exact fin_value hF h hd (by rw [hop]; intro c hc; cases hc) (v := .int k (k.wrap m)) (by simp [execOp, hop, e1, convert, run_underlying hs, run_underlying hdd, Conv.intToInt]) (.of (.p (.int _ _))) hS hn
      · cases h2
    · cases hr
  · cases hok

theorem ins_mnmx (hF : ∀ f, F.fn f) (h : Sim N G own L S a w) (hd : ∀ t, o.dst = some t → t < N) {mx : Bool} {x y : Arg} (hok : okIns P o.op (.mnmx mx x y) = true)
    {cl : ClT} (hev : evIns cl o.dst (.mnmx mx x y) S = some S') (hn : ∀ a' w', Res N G own w a.defers S' a' w' → next a' w') : o.wpIn F n P a w next Q := by
  obtain ⟨r, hr, hS⟩ := retS_inv hev
  simp only [okIns] at hok
  split at hok
  · rename_i c hop
    unfold mnmxV at hr
    split at hok
    · rename_i u v hcal hargs
      simp only [Bool.and_eq_true] at hok
      obtain ⟨⟨rfl, h1⟩, h2⟩ := hok
      have ha : c.args = #[u, v] := by apply Array.ext'; simpa using hargs
      have r1 := okArg_rep h h1
      have r2 := okArg_rep h h2
      split at hr
      · rename_i k m k' m' hx hy
        rw [hx] at r1; rw [hy] at r2
        have e1 := rep_int r1; have e2 := rep_int r2
        split at hr
        · rename_i hk; subst hk; cases hr
          refine fin_value hF h hd (by rw [hop]; intro c hc; cases hc) (v := .int k (max m m')) ?_ (.of (.p (.int _ _))) hS hn
          simp [execOp, hop, resolve, hcal, ha, e1, e2, invoke, builtin, Builtin.max_, Builtin.max2]
          split <;> omega
        · cases hr
      · cases hr
    · rename_i u v hcal hargs
      simp only [Bool.and_eq_true, Bool.not_eq_true'] at hok
      obtain ⟨⟨rfl, h1⟩, h2⟩ := hok
      have ha : c.args = #[u, v] := by apply Array.ext'; simpa using hargs
      have r1 := okArg_rep h h1
      have r2 := okArg_rep h h2
      split at hr
      · rename_i k m k' m' hx hy
        rw [hx] at r1; rw [hy] at r2
        have e1 := rep_int r1; have e2 := rep_int r2
        split at hr
        · rename_i hk; subst hk; cases hr
          refine fin_value hF h hd (by rw [hop]; intro c hc; cases hc) (v := .int k (min m m')) ?_ (.of (.p (.int _ _))) hS hn
          simp [execOp, hop, resolve, hcal, ha, e1, e2, invoke, builtin, Builtin.min_, Builtin.min2]
          split <;> omega
        · cases hr
      · cases hr
    · cases hok
  · cases hok
end
end Go.Eng
