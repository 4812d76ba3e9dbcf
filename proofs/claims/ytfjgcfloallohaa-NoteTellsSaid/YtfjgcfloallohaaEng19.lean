/- The engine, part 19: operations that do not touch one another change places. -/
import Derived.Test.YtfjgcfloallohaaEng18
namespace Go.Eng
open Go

def GIns.guardT (g : GIns) : List Nat := match g.guard with | some (t, _) => [t] | none => []
def GIns.reads (g : GIns) : List Nat := g.guardT ++ g.ins.reads

/-- The value and the memory behind an operation. -/
def evVG (cl : ClT) (g : GIns) (S : St) : Option (V × St) :=
  match wanted S g.guard with
  | some true => evV cl g.ins S
  | some false => some (.tup [], S)
  | none => none

theorem evG_evVG {cl : ClT} {g : GIns} (S : St) (h : g.ins.heapy g.dst = true) : evG cl g S = (evVG cl g S).map fun p => p.2.put g.dst p.1 := by
  unfold evG evVG
  cases wanted S g.guard with
  | none => rfl
  | some b =>
    cases b
    · rfl
    · exact evIns_evV cl _ _ S h

section
variable {cl : ClT} {S : St}

theorem wanted_env {e : List (Nat × V)} {g : GIns} (h : ∀ t ∈ g.guardT, getE S.env t = getE e t) : wanted { S with env := e } g.guard = wanted S g.guard := by
  unfold GIns.guardT at h
  cases hg : g.guard with
  | none => rfl
  | some p =>
    obtain ⟨t, b⟩ := p
    rw [hg] at h
    have := h t (by simp)
    simp only [wanted, this]

theorem evVG_env {e : List (Nat × V)} {g : GIns} (h : ∀ t ∈ g.reads, getE S.env t = getE e t) : evVG cl g { S with env := e } = (evVG cl g S).map fun p => (p.1, { p.2 with env := e }) := by
  unfold evVG
  rw [wanted_env fun t ht => h t (List.mem_append_left _ ht)]
  split
  · exact evV_env fun t ht => h t (List.mem_append_right _ ht)
  · rfl
  · rfl

theorem evVG_keeps {g : GIns} {v : V} {T : St} (h : evVG cl g S = some (v, T)) : T.env = S.env := by
  unfold evVG at h
  split at h
  · exact evV_keeps h
  · cases h; rfl
  · cases h

theorem evVG_reads {g : GIns} (hc : g.ins.cls ≤ 1) {v : V} {T : St} (h : evVG cl g S = some (v, T)) : T = S := by
  unfold evVG at h
  split at h
  · exact evV_reads hc h
  · cases h; rfl
  · cases h

theorem evVG_zero {g : GIns} (hc : g.ins.cls = 0) {T : St} (he : T.env = S.env) : evVG cl g T = (evVG cl g S).map fun p => (p.1, T) := by
  have hw : wanted T g.guard = wanted S g.guard := by
    have : T = { T with env := S.env } := by rw [← he]
    cases g.guard with
    | none => rfl
    | some p => simp only [wanted, he]
  unfold evVG
  rw [hw]
  split
  · exact evV_zero hc he
  · rfl
  · rfl
end

/-- Two operations that do not touch one another. -/
def indep (g h : GIns) : Bool :=
  (match g.dst with | some d => !h.reads.contains d && (match h.dst with | some d' => d != d' | none => true) | none => true) &&
  (match h.dst with | some d => !g.reads.contains d | none => true) &&
  g.ins.heapy g.dst && h.ins.heapy h.dst &&
  (g.ins.cls == 0 || h.ins.cls == 0 || (g.ins.cls == 1 && h.ins.cls == 1))

structure Eqv (S T : St) : Prop where
  env : ∀ t, getE S.env t = getE T.env t
  loc : S.loc = T.loc
  hp : S.hp = T.hp
  base : S.base = T.base
  dirty : S.dirty = T.dirty

theorem Eqv.refl (S : St) : Eqv S S := ⟨fun _ => rfl, rfl, rfl, rfl, rfl⟩
theorem Eqv.trans {S T U : St} (h : Eqv S T) (k : Eqv T U) : Eqv S U := ⟨fun t => (h.env t).trans (k.env t), h.loc.trans k.loc, h.hp.trans k.hp, h.base.trans k.base, h.dirty.trans k.dirty⟩
theorem Eqv.eq {S T : St} (h : Eqv S T) : T = { S with env := T.env } := by
  obtain ⟨-, h1, h2, h3, h4⟩ := h
  cases S; cases T; simp_all

theorem Eqv.put {S T : St} (h : Eqv S T) (d : Option Nat) (v : V) : Eqv (S.put d v) (T.put d v) := by
  cases d with
  | none => exact h
  | some t =>
    refine ⟨fun t' => ?_, h.loc, h.hp, h.base, h.dirty⟩
    simp only [St.put, getE_cons]
    split
    · rfl
    · exact h.env t'

theorem Eqv.evG {cl : ClT} {g : GIns} (hh : g.ins.heapy g.dst = true) {S T S' : St} (h : Eqv S T) (he : evG cl g S = some S') : ∃ T', evG cl g T = some T' ∧ Eqv S' T' := by
  rw [evG_evVG S hh] at he
  cases hv : evVG cl g S with
  | none => rw [hv] at he; cases he
  | some p =>
    obtain ⟨v, U⟩ := p
    rw [hv] at he
    have he' : U.put g.dst v = S' := by simpa using he
    subst he'
    have h1 := evVG_env (cl := cl) (S := S) (e := T.env) (g := g) (fun t _ => h.env t)
    rw [← h.eq, hv] at h1
    have h2 := evG_evVG (cl := cl) T hh
    rw [h1] at h2
    have hq : Eqv U { U with env := T.env } := ⟨fun t => ?_, rfl, rfl, rfl, rfl⟩
    · exact ⟨({ U with env := T.env } : St).put g.dst v, h2, hq.put _ _⟩
    show getE U.env t = getE T.env t
    rw [evVG_keeps hv]; exact h.env t

theorem put_env_ne {S : St} {d : Option Nat} {v : V} {t : Nat} (h : ∀ x, d = some x → x ≠ t) : getE (S.put d v).env t = getE S.env t := by
  cases d with
  | none => rfl
  | some x => simp only [St.put, getE_cons]; rw [if_neg]; simpa using h x rfl

theorem indep_swap {cl : ClT} {g h : GIns} (hi : indep g h = true) {S S1 S2 : St} (h1 : evG cl g S = some S1) (h2 : evG cl h S1 = some S2) :
    ∃ T1 T2, evG cl h S = some T1 ∧ evG cl g T1 = some T2 ∧ Eqv S2 T2 := by
  simp only [indep, Bool.and_eq_true] at hi
  obtain ⟨⟨⟨⟨i1, i2⟩, i3⟩, i4⟩, i5⟩ := hi
  have n1 : ∀ t ∈ h.reads, ∀ x, g.dst = some x → x ≠ t := fun t ht x hx e => by
    subst e; rw [hx] at i1; simp at i1; exact i1.1 ht
  have n2 : ∀ t ∈ g.reads, ∀ x, h.dst = some x → x ≠ t := fun t ht x hx e => by
    subst e; rw [hx] at i2; simp at i2; exact i2 ht
  have n3 : ∀ x y, g.dst = some x → h.dst = some y → x ≠ y := fun x y hx hy => by
    rw [hx, hy] at i1; simp at i1; exact i1.2
  rw [evG_evVG S i3] at h1
  rw [evG_evVG S1 i4] at h2
  cases hg : evVG cl g S with
  | none => rw [hg] at h1; cases h1
  | some p =>
    obtain ⟨vg, Sg⟩ := p
    rw [hg] at h1
    have e1 : Sg.put g.dst vg = S1 := by simpa using h1
    have kg := evVG_keeps hg
    cases hh : evVG cl h S1 with
    | none => rw [hh] at h2; cases h2
    | some p =>
      obtain ⟨vh, Sh⟩ := p
      rw [hh] at h2
      have e2 : Sh.put h.dst vh = S2 := by simpa using h2
      have kh := evVG_keeps hh
      -- the second from where the first has turned memory alone
      have hSg : Sg = { S1 with env := Sg.env } := by subst e1; cases g.dst <;> rfl
      have hhg : evVG cl h Sg = some (vh, { Sh with env := Sg.env }) := by
        have := evVG_env (cl := cl) (S := S1) (e := Sg.env) (g := h) (fun t ht => by subst e1; exact put_env_ne (n1 t ht))
        rw [← hSg, hh] at this
        exact this
      have agree : ∀ (U : St) (v : V), U.env = S.env → ∀ t ∈ g.reads, getE S.env t = getE (U.put h.dst v).env t := fun U v hU t ht => by
        rw [put_env_ne (n2 t ht), hU]
      have ends : ∀ (U : St), U = { Sh with env := S.env } → ∀ (v : V), v = vh → ∀ (W : St), W.env = (U.put h.dst v).env → W.loc = Sh.loc → W.hp = Sh.hp → W.base = Sh.base → W.dirty = Sh.dirty → Eqv S2 (W.put g.dst vg) := by
        rintro U rfl v rfl W w1 w2 w3 w4 w5
        subst e2
        refine ⟨fun t => ?_, ?_, ?_, ?_, ?_⟩
        · have hl : getE (Sh.put h.dst v).env t = match h.dst with | some y => if y = t then v else (match g.dst with | some x => if x = t then vg else getE S.env t | none => getE S.env t) | none => (match g.dst with | some x => if x = t then vg else getE S.env t | none => getE S.env t) := by
            have hb : getE Sh.env t = match g.dst with | some x => if x = t then vg else getE S.env t | none => getE S.env t := by
              rw [kh, ← e1]
              cases hgd : g.dst with
              | none => simp only [St.put, kg]
              | some x => simp [St.put, kg]
            cases hhd : h.dst with
            | none => simp only [St.put]; exact hb
            | some y => simp only [St.put, getE_cons, hb, beq_iff_eq]
          rw [hl]
          cases hgd : g.dst with
          | none =>
            simp only [St.put, w1]
            cases hhd : h.dst with
            | none => simp [St.put]
            | some y => simp [St.put]
          | some x =>
            simp only [St.put, getE_cons, w1, beq_iff_eq]
            cases hhd : h.dst with
            | none => simp [St.put]
            | some y =>
              have := n3 x y hgd hhd
              by_cases c1 : x = t
              · subst c1; simp [Ne.symm this]
              · simp [St.put, c1]
        · cases h.dst <;> cases g.dst <;> exact w2.symm
        · cases h.dst <;> cases g.dst <;> exact w3.symm
        · cases h.dst <;> cases g.dst <;> exact w4.symm
        · cases h.dst <;> cases g.dst <;> exact w5.symm
      by_cases c2 : g.ins.cls ≤ 1
      · have hS := evVG_reads c2 hg
        subst hS
        refine ⟨({ Sh with env := Sg.env } : St).put h.dst vh, (({ Sh with env := Sg.env } : St).put h.dst vh).put g.dst vg, by rw [evG_evVG _ i4, hhg]; rfl, ?_, ?_⟩
        · rw [evG_evVG _ i3]
          have hx : evVG cl g ({ Sh with env := Sg.env }.put h.dst vh) = some (vg, { Sh with env := Sg.env }.put h.dst vh) := by
            by_cases c3 : h.ins.cls ≤ 1
            · have hU := evVG_reads c3 hhg
              have := evVG_env (cl := cl) (S := Sg) (e := ({ Sh with env := Sg.env }.put h.dst vh).env) (g := g) (agree { Sh with env := Sg.env } vh rfl)
              rw [hg] at this
              rw [hU] at this ⊢
              have hE : Sg.put h.dst vh = { Sg with env := (Sg.put h.dst vh).env } := by cases h.dst <;> rfl
              rw [hE]
              exact this
            · have c4 : g.ins.cls = 0 := by
                simp only [Bool.or_eq_true, beq_iff_eq, Bool.and_eq_true] at i5
                rcases i5 with (h5 | h5) | ⟨h5, h6⟩
                · exact h5
                · omega
                · omega
              have hz := evVG_zero (cl := cl) (S := Sg) (T := { Sh with env := Sg.env }) c4 rfl
              rw [hg] at hz
              have := evVG_env (cl := cl) (S := { Sh with env := Sg.env }) (e := ({ Sh with env := Sg.env }.put h.dst vh).env) (g := g) (agree { Sh with env := Sg.env } vh rfl)
              rw [hz] at this
              have hE : ({ Sh with env := Sg.env } : St).put h.dst vh = { ({ Sh with env := Sg.env } : St) with env := (({ Sh with env := Sg.env } : St).put h.dst vh).env } := by cases h.dst <;> rfl
              rw [hE]
              exact this
          rw [hx]; rfl
        · refine ends _ rfl vh rfl _ rfl ?_ ?_ ?_ ?_ <;> cases h.dst <;> rfl
      · have c4 : h.ins.cls = 0 := by
          simp only [Bool.or_eq_true, beq_iff_eq, Bool.and_eq_true] at i5
          rcases i5 with (h5 | h5) | ⟨h5, h6⟩
          · omega
          · exact h5
          · omega
        have hU := evVG_reads (by omega) hhg
        have hz := evVG_zero (cl := cl) (S := Sg) (T := S) c4 kg.symm
        rw [hhg] at hz
        have hz' : evVG cl h S = some (vh, S) := hz
        refine ⟨S.put h.dst vh, ({ Sg with env := (S.put h.dst vh).env } : St).put g.dst vg, by rw [evG_evVG _ i4, hz']; rfl, ?_, ?_⟩
        · rw [evG_evVG _ i3]
          have := evVG_env (cl := cl) (S := S) (e := (S.put h.dst vh).env) (g := g) (agree S vh rfl)
          rw [hg] at this
          have hE : S.put h.dst vh = { S with env := (S.put h.dst vh).env } := by cases h.dst <;> rfl
          rw [hE, this]; rfl
        · have hm : Sg.loc = Sh.loc ∧ Sg.hp = Sh.hp ∧ Sg.base = Sh.base ∧ Sg.dirty = Sh.dirty := by rw [← hU]; exact ⟨rfl, rfl, rfl, rfl⟩
          exact ends { Sh with env := S.env } rfl vh rfl _ (by cases h.dst <;> rfl) hm.1 hm.2.1 hm.2.2.1 hm.2.2.2

/-! ### A list of operations -/

def evL (cl : ClT) : List (Nat × GIns) → St → Option St
  | [], S => some S
  | p :: r, S => (evG cl p.2 S).bind (evL cl r)

theorem evL_eqv {cl : ClT} : ∀ {R : List (Nat × GIns)} (_ : ∀ p ∈ R, p.2.ins.heapy p.2.dst = true) {S T S' : St}, Eqv S T → evL cl R S = some S' → ∃ T', evL cl R T = some T' ∧ Eqv S' T'
  | [], _, S, T, S', h, he => by cases he; exact ⟨T, rfl, h⟩
  | p :: r, hh, S, T, S', h, he => by
    simp only [evL] at he ⊢
    cases hg : evG cl p.2 S with
    | none => rw [hg] at he; cases he
    | some S1 =>
      rw [hg] at he
      obtain ⟨T1, t1, t2⟩ := h.evG (hh p List.mem_cons_self) hg
      rw [t1]
      exact evL_eqv (fun q hq => hh q (List.mem_cons_of_mem _ hq)) t2 he

theorem evL_front {cl : ClT} {p : Nat × GIns} {B : List (Nat × GIns)} : ∀ {A : List (Nat × GIns)} (_ : ∀ q ∈ A ++ p :: B, q.2.ins.heapy q.2.dst = true) (_ : ∀ q ∈ A, indep q.2 p.2 = true) {S S' : St}, evL cl (A ++ p :: B) S = some S' →
    ∃ S1 S'', evG cl p.2 S = some S1 ∧ evL cl (A ++ B) S1 = some S'' ∧ Eqv S' S''
  | [], _, _, S, S', he => by
    simp only [List.nil_append, evL] at he ⊢
    cases hg : evG cl p.2 S with
    | none => rw [hg] at he; cases he
    | some S1 => rw [hg] at he; exact ⟨S1, S', rfl, he, .refl _⟩
  | q :: A, hh, hi, S, S', he => by
    simp only [List.cons_append, evL] at he ⊢
    cases hg : evG cl q.2 S with
    | none => rw [hg] at he; cases he
    | some S1 =>
      rw [hg] at he
      obtain ⟨S2, S'', h1, h2, h3⟩ := evL_front (fun x hx => hh x (List.mem_cons_of_mem _ hx)) (fun x hx => hi x (List.mem_cons_of_mem _ hx)) he
      obtain ⟨T1, T2, t1, t2, t3⟩ := indep_swap (hi q List.mem_cons_self) hg h1
      obtain ⟨T', u1, u2⟩ := evL_eqv (fun x hx => hh x (by
        rcases List.mem_append.1 hx with hx | hx
        · exact List.mem_cons_of_mem _ (List.mem_append_left _ hx)
        · exact List.mem_cons_of_mem _ (List.mem_append_right _ (List.mem_cons_of_mem _ hx)))) t3 h2
      exact ⟨T1, T', t1, by rw [t2]; exact u1, h3.trans u2⟩
end Go.Eng
