/- The engine, part 2: evaluation without a count of rounds: 'evD', 'clD', and their unfolding. -/
import Derived.Test.YtfjgcfloallohaaEng1
namespace Go.Eng
open Go

def LeE (e e' : EvT) : Prop := ∀ c S r, e c S = some r → e' c S = some r
def LeC (c c' : ClT) : Prop := ∀ f a H r, c f a H = some r → c' f a H = some r

theorem evIns_mono {cl cl' : ClT} (h : LeC cl cl') (d : Option Nat) (i : Ins) (S : St) (r : St) (hr : evIns cl d i S = some r) : evIns cl' d i S = some r := by
  cases i with
  | call f args pure =>
    simp only [evIns, callI] at hr ⊢
    split at hr
    · rename_i hv
      rw [if_pos hv]
      cases hc : cl (.p (.fn f)) (args.map fun a => normA (S.arg a)) S.hp with
      | none => rw [hc] at hr; simp [callR] at hr
      | some x => rw [hc] at hr; rw [h _ _ _ _ hc]; exact hr
    · cases hr
  | callv x args pure =>
    simp only [evIns, callI] at hr ⊢
    split at hr
    · rename_i hv
      rw [if_pos hv]
      cases hc : cl (S.arg x) (args.map fun a => normA (S.arg a)) S.hp with
      | none => rw [hc] at hr; simp [callR] at hr
      | some x => rw [hc] at hr; rw [h _ _ _ _ hc]; exact hr
    · cases hr
  | _ => exact hr

theorem evG_mono {cl cl' : ClT} (h : LeC cl cl') (g : GIns) (S r : St) (hr : evG cl g S = some r) : evG cl' g S = some r := by
  simp only [evG] at hr ⊢
  cases hw : wanted S g.guard with
  | none => rw [hw] at hr; cases hr
  | some b =>
    rw [hw] at hr
    cases b with
    | true => exact evIns_mono h _ _ _ _ hr
    | false => exact hr

theorem evOps_mono {cl cl' : ClT} (h : LeC cl cl') : ∀ (l : List GIns) (S r : St), evOps cl l S = some r → evOps cl' l S = some r
  | [], _, _, hr => hr
  | g :: l, S, r, hr => by
    simp only [evOps] at hr ⊢
    cases hg : evG cl g S with
    | none => rw [hg] at hr; cases hr
    | some S' =>
      rw [hg] at hr
      rw [evG_mono h g S S' hg]
      exact evOps_mono h l S' r hr

theorem evStep_mono {e e' : EvT} {c c' : ClT} (he : LeE e e') (hc : LeC c c') : LeE (evStep e c) (evStep e' c') := by
  intro code S r hr
  cases code with
  | skip => exact hr
  | label l => exact hr
  | exit id => exact hr
  | ret => exact hr
  | goto l => exact hr
  | scope a => exact he _ _ _ hr
  | scopeR a b =>
    simp only [evStep] at hr ⊢
    cases ha : e a S with
    | none => rw [ha] at hr; cases hr
    | some x =>
      obtain ⟨x, S'⟩ := x
      rw [ha] at hr; rw [he _ _ _ ha]
      simp only [Option.bind_some] at hr ⊢
      cases x with
      | goto l =>
        simp only at hr ⊢
        split at hr
        · exact he _ _ _ hr
        · exact hr
      | _ => exact hr
  | prep ts a => exact he _ _ _ hr
  | esc ts a =>
    simp only [evStep] at hr ⊢
    cases hs : escS S ts with
    | none => rw [hs] at hr; cases hr
    | some T => rw [hs] at hr; exact he _ _ _ hr
  | rangeFunc x ps a b => exact hr
  | reg d ops ks kl =>
    simp only [evStep] at hr ⊢
    cases ho : evOps c ops S with
    | none => rw [ho] at hr; cases hr
    | some S' => rw [ho] at hr; rw [evOps_mono hc ops S S' ho]; exact hr
  | seq a b =>
    simp only [evStep] at hr ⊢
    cases ha : e a S with
    | none => rw [ha] at hr; cases hr
    | some x =>
      obtain ⟨x, S'⟩ := x
      rw [ha] at hr; rw [he _ _ _ ha]
      cases x <;> simp at hr ⊢ <;> first | exact he _ _ _ hr | exact hr
  | cond x a b =>
    simp only [evStep] at hr ⊢
    split at hr
    · split at hr <;> simp_all <;> exact he _ _ _ hr
    · cases hr
  | block id a =>
    simp only [evStep] at hr ⊢
    cases ha : e a S with
    | none => rw [ha] at hr; cases hr
    | some x => rw [ha] at hr; rw [he _ _ _ ha]; exact hr
  | loop ks kl a =>
    simp only [evStep] at hr ⊢
    cases ha : e a (S.keep ks kl) with
    | none => rw [ha] at hr; cases hr
    | some x =>
      obtain ⟨x, S'⟩ := x
      rw [ha] at hr; rw [he _ _ _ ha]
      cases x <;> simp at hr ⊢ <;> first | exact he _ _ _ hr | exact hr

theorem runF_mono {e e' : EvT} (he : LeE e e') {fn : IFn} {args : List V} {H : Heap} {r : CR} (hr : runF e fn args H = some r) : runF e' fn args H = some r := by
  simp only [runF] at hr ⊢
  cases hb : e fn.body (St.enter args H) with
  | none => rw [hb] at hr; cases hr
  | some x => rw [hb] at hr; rw [he _ _ _ hb]; exact hr
theorem bareR_some {a b : Option CR} {r : CR} (h : bareR a b = some r) : a = some (.nils, none) ∧ b = some (.nils, none) ∧ r = (.nils, none) := by
  unfold bareR at h; split at h
  · simp at h; exact ⟨rfl, rfl, h.symm⟩
  · cases h

theorem go_mono {E : Env} {e e' : EvT} (he : LeE e e') (f : FuncId) (args : List V) (H : Heap) (r : CR)
    (hr : clStep.go E e f args H = some r) : clStep.go E e' f args H = some r := by
  simp only [clStep.go] at hr ⊢
  split at hr
  · exact hr
  · split at hr
    · rename_i fn _
      split at hr
      · obtain ⟨h1, h2, rfl⟩ := bareR_some hr
        rw [runF_mono he h1, runF_mono he h2]; simp_all [bareR]
      · simp_all [runF_mono he hr]
    · cases hr

theorem clStep_mono {E : Env} {e e' : EvT} (he : LeE e e') : LeC (clStep E e) (clStep E e') := by
  intro f args H r hr
  simp only [clStep] at hr ⊢
  split at hr
  · exact go_mono he _ _ _ _ hr
  · exact go_mono he _ _ _ _ hr
  · cases hr

theorem sys_mono (E : Env) : ∀ n, LeE (sys E n).1 (sys E (n + 1)).1 ∧ LeC (sys E n).2 (sys E (n + 1)).2
  | 0 => ⟨fun _ _ _ h => by simp [sys] at h, fun _ _ _ _ h => by simp [sys] at h⟩
  | n + 1 => ⟨evStep_mono (sys_mono E n).1 (sys_mono E n).2, clStep_mono (sys_mono E n).1⟩

theorem sys_le (E : Env) {m n : Nat} (h : m ≤ n) : LeE (sys E m).1 (sys E n).1 ∧ LeC (sys E m).2 (sys E n).2 := by
  induction h with
  | refl => exact ⟨fun _ _ _ h => h, fun _ _ _ _ h => h⟩
  | step _ ih => exact ⟨fun c S r h => (sys_mono E _).1 _ _ _ (ih.1 c S r h), fun f a H r h => (sys_mono E _).2 _ _ _ _ (ih.2 f a H r h)⟩

open Classical in
noncomputable def lim {α : Type} (g : Nat → Option α) : Option α := if h : ∃ n, (g n).isSome = true then g h.choose else none

theorem lim_some {α : Type} {g : Nat → Option α} (hm : ∀ m n r, m ≤ n → g m = some r → g n = some r) (r : α) : lim g = some r ↔ ∃ n, g n = some r := by
  unfold lim
  constructor
  · intro h
    split at h
    · exact ⟨_, h⟩
    · cases h
  · rintro ⟨n, hn⟩
    have h : ∃ n, (g n).isSome = true := ⟨n, by simp [hn]⟩
    rw [dif_pos h]
    have hs := h.choose_spec
    cases hc : g h.choose with
    | none => rw [hc] at hs; cases hs
    | some r' =>
      have h1 := hm _ (max n h.choose) r' (Nat.le_max_right ..) hc
      have h2 := hm _ (max n h.choose) r (Nat.le_max_left ..) hn
      rw [h1] at h2; exact h2

noncomputable def evD (E : Env) : EvT := fun c S => lim fun n => (sys E n).1 c S
noncomputable def clD (E : Env) : ClT := fun f a H => lim fun n => (sys E n).2 f a H

theorem evD_iff (E : Env) (c : IC) (S : St) (r : Ex × St) : evD E c S = some r ↔ ∃ n, (sys E n).1 c S = some r :=
  lim_some (fun _ _ _ h hm => (sys_le E h).1 _ _ _ hm) r
theorem clD_iff (E : Env) (f : V) (a : List V) (H : Heap) (r : CR) : clD E f a H = some r ↔ ∃ n, (sys E n).2 f a H = some r :=
  lim_some (fun _ _ _ h hm => (sys_le E h).2 _ _ _ _ hm) r

theorem sys_le_evD (E : Env) (n : Nat) : LeE (sys E n).1 (evD E) := fun c S r h => (evD_iff E c S r).2 ⟨n, h⟩
theorem sys_le_clD (E : Env) (n : Nat) : LeC (sys E n).2 (clD E) := fun f a H r h => (clD_iff E f a H r).2 ⟨n, h⟩

theorem evIns_lim (E : Env) (d : Option Nat) (i : Ins) (S r : St) (hr : evIns (clD E) d i S = some r) : ∃ n, evIns (sys E n).2 d i S = some r := by
  cases i with
  | call f args pure =>
    simp only [evIns, callI] at hr ⊢
    split at hr
    · rename_i hv
      cases hc : clD E (.p (.fn f)) (args.map fun a => normA (S.arg a)) S.hp with
      | none => rw [hc] at hr; simp [callR] at hr
      | some x => rw [hc] at hr; obtain ⟨n, hn⟩ := (clD_iff ..).1 hc; exact ⟨n, by rw [if_pos hv, hn]; exact hr⟩
    · cases hr
  | callv x args pure =>
    simp only [evIns, callI] at hr ⊢
    split at hr
    · rename_i hv
      cases hc : clD E (S.arg x) (args.map fun a => normA (S.arg a)) S.hp with
      | none => rw [hc] at hr; simp [callR] at hr
      | some x => rw [hc] at hr; obtain ⟨n, hn⟩ := (clD_iff ..).1 hc; exact ⟨n, by rw [if_pos hv, hn]; exact hr⟩
    · cases hr
  | _ => exact ⟨0, hr⟩

theorem evG_lim (E : Env) (g : GIns) (S r : St) (hr : evG (clD E) g S = some r) : ∃ n, evG (sys E n).2 g S = some r := by
  simp only [evG] at hr ⊢
  split at hr
  · rename_i h; obtain ⟨n, hn⟩ := evIns_lim E _ _ _ _ hr; exact ⟨n, hn⟩
  · exact ⟨0, hr⟩
  · cases hr

theorem evOps_lim (E : Env) : ∀ (l : List GIns) (S r : St), evOps (clD E) l S = some r → ∃ n, evOps (sys E n).2 l S = some r
  | [], _, _, hr => ⟨0, hr⟩
  | g :: l, S, r, hr => by
    simp only [evOps] at hr ⊢
    cases hg : evG (clD E) g S with
    | none => rw [hg] at hr; cases hr
    | some S' =>
      rw [hg] at hr
      obtain ⟨n, hn⟩ := evG_lim E g S S' hg
      obtain ⟨m, hm⟩ := evOps_lim E l S' r hr
      refine ⟨max n m, ?_⟩
      rw [evG_mono (sys_le E (Nat.le_max_left n m)).2 g S S' hn]
      exact evOps_mono (sys_le E (Nat.le_max_right n m)).2 l S' r hm

theorem evD_eq (E : Env) (c : IC) (S : St) : evD E c S = evStep (evD E) (clD E) c S := by
  apply Option.ext
  intro r
  constructor
  · intro h
    obtain ⟨n, hn⟩ := (evD_iff ..).1 h
    cases n with
    | zero => simp [sys] at hn
    | succ n => exact evStep_mono (sys_le_evD E n) (sys_le_clD E n) _ _ _ hn
  · intro h
    suffices hs : ∃ n, evStep (sys E n).1 (sys E n).2 c S = some r by
      obtain ⟨n, hn⟩ := hs
      exact (evD_iff ..).2 ⟨n + 1, hn⟩
    cases c with
    | skip => exact ⟨0, h⟩
    | label l => exact ⟨0, h⟩
    | exit id => exact ⟨0, h⟩
    | ret => exact ⟨0, h⟩
    | goto l => exact ⟨0, h⟩
    | scope a => obtain ⟨n, hn⟩ := (evD_iff ..).1 h; exact ⟨n, hn⟩
    | scopeR a b =>
      simp only [evStep] at h ⊢
      cases ha : evD E a S with
      | none => rw [ha] at h; cases h
      | some x =>
        obtain ⟨x, S'⟩ := x
        rw [ha] at h
        obtain ⟨n, hn⟩ := (evD_iff ..).1 ha
        simp only [Option.bind_some] at h
        cases x with
        | goto l =>
          simp only at h
          split at h
          · rename_i p hp
            obtain ⟨m, hm⟩ := (evD_iff ..).1 h
            refine ⟨max n m, ?_⟩
            rw [(sys_le E (Nat.le_max_left n m)).1 _ _ _ hn]
            simp only [Option.bind_some, hp]
            exact (sys_le E (Nat.le_max_right n m)).1 _ _ _ hm
          · rename_i hp
            exact ⟨n, by rw [hn]; simp only [Option.bind_some, hp]; exact h⟩
        | normal => exact ⟨n, by rw [hn]; exact h⟩
        | exit id => exact ⟨n, by rw [hn]; exact h⟩
        | ret => exact ⟨n, by rw [hn]; exact h⟩
    | prep ts a => obtain ⟨n, hn⟩ := (evD_iff ..).1 h; exact ⟨n, hn⟩
    | esc ts a =>
      simp only [evStep] at h ⊢
      cases hs : escS S ts with
      | none => rw [hs] at h; cases h
      | some T => rw [hs] at h; obtain ⟨n, hn⟩ := (evD_iff ..).1 h; exact ⟨n, hn⟩
    | rangeFunc x ps a b => exact ⟨0, h⟩
    | reg d ops ks kl =>
      simp only [evStep] at h ⊢
      cases ho : evOps (clD E) ops S with
      | none => rw [ho] at h; cases h
      | some S' => rw [ho] at h; obtain ⟨n, hn⟩ := evOps_lim E ops S S' ho; exact ⟨n, by rw [hn]; exact h⟩
    | seq a b =>
      simp only [evStep] at h ⊢
      cases ha : evD E a S with
      | none => rw [ha] at h; cases h
      | some x =>
        obtain ⟨x, S'⟩ := x
        rw [ha] at h
        obtain ⟨n, hn⟩ := (evD_iff ..).1 ha
        cases x with
        | normal =>
          simp at h
          obtain ⟨m, hm⟩ := (evD_iff ..).1 h
          refine ⟨max n m, ?_⟩
          rw [(sys_le E (Nat.le_max_left n m)).1 _ _ _ hn]
          exact (sys_le E (Nat.le_max_right n m)).1 _ _ _ hm
        | exit id => exact ⟨n, by rw [hn]; exact h⟩
        | goto id => exact ⟨n, by rw [hn]; exact h⟩
        | ret => exact ⟨n, by rw [hn]; exact h⟩
    | cond x a b =>
      simp only [evStep] at h ⊢
      split at h
      · split at h
        · obtain ⟨n, hn⟩ := (evD_iff ..).1 h; exact ⟨n, by simp [*]⟩
        · obtain ⟨n, hn⟩ := (evD_iff ..).1 h; exact ⟨n, by simp [*]⟩
      · cases h
    | block id a =>
      simp only [evStep] at h ⊢
      cases ha : evD E a S with
      | none => rw [ha] at h; cases h
      | some x => rw [ha] at h; obtain ⟨n, hn⟩ := (evD_iff ..).1 ha; exact ⟨n, by rw [hn]; exact h⟩
    | loop ks kl a =>
      simp only [evStep] at h ⊢
      cases ha : evD E a (S.keep ks kl) with
      | none => rw [ha] at h; cases h
      | some x =>
        obtain ⟨x, S'⟩ := x
        rw [ha] at h
        obtain ⟨n, hn⟩ := (evD_iff ..).1 ha
        cases x with
        | normal =>
          simp at h
          obtain ⟨m, hm⟩ := (evD_iff ..).1 h
          refine ⟨max n m, ?_⟩
          rw [(sys_le E (Nat.le_max_left n m)).1 _ _ _ hn]
          exact (sys_le E (Nat.le_max_right n m)).1 _ _ _ hm
        | exit id => exact ⟨n, by rw [hn]; exact h⟩
        | goto id => exact ⟨n, by rw [hn]; exact h⟩
        | ret => exact ⟨n, by rw [hn]; exact h⟩

theorem runF_lim {E : Env} {fn : IFn} {args : List V} {H : Heap} {r : CR} (h : runF (evD E) fn args H = some r) : ∃ n, runF (sys E n).1 fn args H = some r := by
  simp only [runF] at h ⊢
  cases hb : evD E fn.body (St.enter args H) with
  | none => rw [hb] at h; cases h
  | some x => rw [hb] at h; obtain ⟨n, hn⟩ := (evD_iff ..).1 hb; exact ⟨n, by rw [hn]; exact h⟩
theorem go_lim (E : Env) (f : FuncId) (args : List V) (H : Heap) (r : CR) (h : clStep.go E (evD E) f args H = some r) : ∃ n, clStep.go E (sys E n).1 f args H = some r := by
  simp only [clStep.go] at h ⊢
  split at h
  · exact ⟨0, h⟩
  · split at h
    · rename_i fn _
      split at h
      · rename_i hc
        obtain ⟨h1, h2, rfl⟩ := bareR_some h
        obtain ⟨n1, k1⟩ := runF_lim h1
        obtain ⟨n2, k2⟩ := runF_lim h2
        refine ⟨max n1 n2, ?_⟩
        rw [if_pos hc, runF_mono (sys_le E (Nat.le_max_left n1 n2)).1 k1, runF_mono (sys_le E (Nat.le_max_right n1 n2)).1 k2]; rfl
      · rename_i hc
        obtain ⟨n, hn⟩ := runF_lim h
        exact ⟨n, by rw [if_neg hc]; exact hn⟩
    · cases h

theorem clD_eq (E : Env) (f : V) (args : List V) (H : Heap) : clD E f args H = clStep E (evD E) f args H := by
  apply Option.ext
  intro r
  constructor
  · intro h
    obtain ⟨n, hn⟩ := (clD_iff ..).1 h
    cases n with
    | zero => simp [sys] at hn
    | succ n => exact clStep_mono (sys_le_evD E n) _ _ _ _ hn
  · intro h
    suffices hs : ∃ n, clStep E (sys E n).1 f args H = some r by
      obtain ⟨n, hn⟩ := hs
      exact (clD_iff ..).2 ⟨n + 1, hn⟩
    simp only [clStep] at h ⊢
    split at h
    · exact go_lim E _ _ _ _ h
    · exact go_lim E _ _ _ _ h
    · cases h

end Go.Eng
