/- The engine, part 19: operations that do not touch one another change places. -/
import Derived.Test.YtfjgcfloallohaaEng18
namespace Go.Eng
open Go

def GIns.guardT (g : GIns) : List Nat := match g.guard with | some (t, _) => [t] | none => []
def GIns.reads (g : GIns) : List Nat := g.guardT ++ g.ins.reads

/-- The value and the memory behind an operation. -/
def evVG (cl : ClT) (g : GIns) (S : St) : Option (V × St) :=
  match wanted S g.guard with
  | some true => evV cl g.ins S
  | some false => some (.tup [], S)
  | none => none

theorem evG_evVG {cl : ClT} {g : GIns} (S : St) (h : g.ins.heapy g.dst = true) : evG cl g S = (evVG cl g S).map fun p => p.2.put g.dst p.1 := by
  unfold evG evVG
  cases wanted S g.guard with
  | none => rfl
  | some b =>
    cases b
    · rfl
    · exact evIns_evV cl _ _ S h

section
variable {cl : ClT} {S : St}

theorem wanted_env {e : List (Nat × V)} {g : GIns} (h : ∀ t ∈ g.guardT, getE S.env t = getE e t) : wanted { S with env := e } g.guard = wanted S g.guard := by
  unfold GIns.guardT at h
  cases hg : g.guard with
  | none => rfl
  | some p =>
    obtain ⟨t, b⟩ := p
    rw [hg] at h
    have := h t (by simp)
    simp only [wanted, this]

theorem evVG_env {e : List (Nat × V)} {g : GIns} (h : ∀ t ∈ g.reads, getE S.env t = getE e t) : evVG cl g { S with env := e } = (evVG cl g S).map fun p => (p.1, { p.2 with env := e }) := by
  unfold evVG
  rw [wanted_env fun t ht => h t (List.mem_append_left _ ht)]
  split
  · exact evV_env fun t ht => h t (List.mem_append_right _ ht)
  · rfl
  · rfl

theorem evVG_keeps {g : GIns} {v : V} {T : St} (h : evVG cl g S = some (v, T)) : T.env = S.env := by
  unfold evVG at h
  split at h
  · exact evV_keeps h
  · cases h; rfl
  · cases h

theorem evVG_reads {g : GIns} (hc : g.ins.cls ≤ 1) {v : V} {T : St} (h : evVG cl g S = some (v, T)) : T = S := by
  unfold evVG at h
  split at h
  · exact evV_reads hc h
  · cases h; rfl
  · cases h

theorem evVG_zero {g : GIns} (hc : g.ins.cls = 0) {T : St} (he : T.env = S.env) : evVG cl g T = (evVG cl g S).map fun p => (p.1, T) := by
  have hw : wanted T g.guard = wanted S g.guard := by
    have : T = { T with env := S.env } := by rw [← he]
    cases g.guard with
    | none => rfl
    | some p => simp only [wanted, he]
  unfold evVG
  rw [hw]
  split
  · exact evV_zero hc he
  · rfl
  · rfl
end

/-- What turns one local box alone: a new one whose name is there already, or a store. -/
def GIns.wkey (g : GIns) : Option Nat :=
  if g.guard.isNone = true then match g.ins with
    | .alp _ | .bxp _ _ => g.dst
    | .stl k _ _ _ => some k
    | _ => none
  else none
def GIns.fresh (g : GIns) : Bool := match g.ins with | .stl .. => false | _ => true
def GIns.okD (g : GIns) : Bool := g.ins.heapy g.dst || g.wkey.isSome

/-- Two operations that do not touch one another. -/
def indep (g h : GIns) : Bool :=
  (match g.dst with | some d => !h.reads.contains d && (match h.dst with | some d' => d != d' | none => true) | none => true) &&
  (match h.dst with | some d => !g.reads.contains d | none => true) &&
  (match g.wkey, h.wkey with
    | some k, some k' => k != k'
    | some k, none => h.ins.heapy h.dst && (if g.fresh = true then h.ins.okL else h.ins.noK k)
    | none, some k => g.ins.heapy g.dst && (if h.fresh = true then g.ins.okL else g.ins.noK k)
    | none, none => g.ins.heapy g.dst && h.ins.heapy h.dst && ((g.ins.cls == 0 || h.ins.cls == 0 || (g.ins.cls == 1 && h.ins.cls == 1)) || (g.ins.isLdl && h.ins.heapOnly) || (g.ins.heapOnly && h.ins.isLdl)))

structure Eqv (S T : St) : Prop where
  env : ∀ t, getE S.env t = getE T.env t
  stale : ∀ s, noStale S.env s = noStale T.env s
  loc : S.loc = T.loc
  hp : S.hp = T.hp
  base : S.base = T.base
  dirty : S.dirty = T.dirty

theorem Eqv.refl (S : St) : Eqv S S := ⟨fun _ => rfl, fun _ => rfl, rfl, rfl, rfl, rfl⟩
theorem Eqv.trans {S T U : St} (h : Eqv S T) (k : Eqv T U) : Eqv S U := ⟨fun t => (h.env t).trans (k.env t), fun t => (h.stale t).trans (k.stale t), h.loc.trans k.loc, h.hp.trans k.hp, h.base.trans k.base, h.dirty.trans k.dirty⟩
theorem Eqv.eq {S T : St} (h : Eqv S T) : T = { S with env := T.env } := by
  obtain ⟨-, -, h1, h2, h3, h4⟩ := h
  cases S; cases T; simp_all

theorem Eqv.put {S T : St} (h : Eqv S T) (d : Option Nat) (v : V) : Eqv (S.put d v) (T.put d v) := by
  cases d with
  | none => exact h
  | some t =>
    refine ⟨fun t' => ?_, fun s => ?_, h.loc, h.hp, h.base, h.dirty⟩
    · simp only [St.put, getE_cons]
      split
      · rfl
      · exact h.env t'
    · simp only [St.put, noStale_cons, h.stale s]

/-- What the local box comes to hold, and what is handed on. -/
def conW (g : GIns) (k : Nat) (S : St) : Option (List V × V) :=
  match g.ins with
  | .alp z => if noStale S.env k = true ∧ (getL S.loc k).isSome = true ∧ z ≠ [] then some (z, .lptr k 0) else none
  | .bxp x n => if ((S.arg x).cells.length = n ∧ (S.arg x).cells.all V.oneB = true) ∧ noStale S.env k = true ∧ (getL S.loc k).isSome = true ∧ (S.arg x).cells ≠ [] then some ((S.arg x).cells, .lptr k 0) else none
  | .stl k' x v n => match S.arg x with
    | .lptr s o => if s = k' then (if (S.arg v).cells.length = n ∧ (S.arg v).cells.all V.oneB = true then (getL S.loc k).bind fun cs => if cs.isEmpty = true then none else (setSubs cs o (S.arg v).cells).map fun cs' => (cs', .tup []) else none) else none
    | _ => none
  | _ => none

theorem evG_W {cl : ClT} {g : GIns} {k : Nat} (hw : g.wkey = some k) (S : St) : evG cl g S = (conW g k S).map fun p => (S.withL k p.1).put g.dst p.2 := by
  unfold GIns.wkey at hw
  split at hw
  · rename_i hg
    have h1 : g.guard = none := by simpa using hg
    unfold evG conW
    rw [h1]
    simp only [wanted]
    split at hw
    · rename_i z hz
      rw [hz, hw]
      simp only [evIns, alpI, St.withL]
      split <;> rfl
    · rename_i x n hz
      rw [hz, hw]
      simp only [evIns, bxpI, alpI, St.withL]
      by_cases c1 : (S.arg x).cells.length = n ∧ (S.arg x).cells.all V.oneB = true
      · rw [if_pos c1]
        by_cases c2 : noStale S.env k = true ∧ (getL S.loc k).isSome = true ∧ (S.arg x).cells ≠ []
        · rw [if_pos c2, if_pos ⟨c1, c2⟩]; rfl
        · rw [if_neg c2, if_neg fun hh => c2 hh.2]; rfl
      · rw [if_neg c1, if_neg fun hh => c1 hh.1]; rfl
    · rename_i k' x v n hz
      cases hw
      rw [hz]
      simp only [evIns, stlI]
      generalize S.arg x = y
      cases y with
      | lptr s o =>
        simp only
        by_cases hs : s = k
        · subst hs
          simp only [if_true, stI, stCells]
          by_cases hc : (S.arg v).cells.length = n ∧ (S.arg v).cells.all V.oneB = true
          · rw [if_pos hc, if_pos hc]
            cases hg : getL S.loc s with
            | none => rfl
            | some cs =>
              simp only [Option.bind_some]
              by_cases he : cs.isEmpty = true
              · rw [if_pos he, if_pos he]; rfl
              · rw [if_neg he, if_neg he]
                cases setSubs cs o (S.arg v).cells <;> rfl
          · rw [if_neg hc, if_neg hc]; rfl
        · rw [if_neg hs, if_neg hs]; rfl
      | _ => rfl
    · cases hw
  · cases hw

/-- It does not mind what else turns. -/
theorem conW_congr {g : GIns} {k : Nat} {S T : St} (he : ∀ t ∈ g.reads, getE S.env t = getE T.env t) (hs : g.fresh = true → noStale S.env k = noStale T.env k) (hi : (getL S.loc k).isSome = (getL T.loc k).isSome)
    (hl : g.fresh = false → getL S.loc k = getL T.loc k) : conW g k T = conW g k S := by
  have ha : ∀ x : Arg, (∀ t ∈ argT x, t ∈ g.reads) → T.arg x = S.arg x := fun x hx => by
    cases x with
    | t m => exact (he m (hx m (by simp [argT]))).symm
    | c v => rfl
  have hr : ∀ t ∈ g.ins.reads, t ∈ g.reads := fun t ht => List.mem_append_right _ ht
  unfold conW
  split
  · rename_i z hz
    have hf : g.fresh = true := by simp [GIns.fresh, hz]
    rw [hs hf, hi]
  · rename_i x n hz
    have hf : g.fresh = true := by simp [GIns.fresh, hz]
    rw [hs hf, hi, ha x fun t ht => hr t (by rw [hz]; exact ht)]
  · rename_i k' x v n hz
    have hf : g.fresh = false := by simp [GIns.fresh, hz]
    rw [hl hf, ha x fun t ht => hr t (by rw [hz]; exact List.mem_append_left _ ht), ha v fun t ht => hr t (by rw [hz]; exact List.mem_append_right _ ht)]
  · rfl

theorem conW_some {g : GIns} {k : Nat} {S : St} {p : List V × V} (h : conW g k S = some p) : (getL S.loc k).isSome = true ∧ (g.fresh = true → noStale S.env k = true) ∧ (p.2 = .tup [] ∨ p.2 = .lptr k 0) := by
  unfold conW at h
  split at h
  · split at h
    · rename_i hc; cases h; exact ⟨hc.2.1, fun _ => hc.1, .inr rfl⟩
    · cases h
  · split at h
    · rename_i hc; cases h; exact ⟨hc.2.2.1, fun _ => hc.2.1, .inr rfl⟩
    · cases h
  · rename_i k' x v n hz
    split at h
    · split at h
      · split at h
        · cases hg : getL S.loc k with
          | none => rw [hg] at h; cases h
          | some cs =>
            rw [hg] at h
            simp only [Option.bind_some] at h
            split at h
            · cases h
            · cases hss : setSubs cs _ (S.arg v).cells with
              | none => rw [hss] at h; cases h
              | some cs' => rw [hss] at h; cases h; exact ⟨rfl, fun hf => (by simp [GIns.fresh, hz] at hf), .inl rfl⟩
        · cases h
      · cases h
    · cases h
  · cases h

theorem Eqv.evG {cl : ClT} {g : GIns} (hh : g.okD = true) {S T S' : St} (h : Eqv S T) (he : evG cl g S = some S') : ∃ T', evG cl g T = some T' ∧ Eqv S' T' := by
  cases hw : g.wkey with
  | some k =>
    rw [evG_W hw] at he
    rw [evG_W hw, conW_congr (S := S) (T := T) (fun t _ => h.env t) (fun _ => h.stale k) (by rw [h.loc]) (fun _ => by rw [h.loc])]
    cases hc : conW g k S with
    | none => rw [hc] at he; cases he
    | some p =>
      rw [hc] at he
      cases he
      refine ⟨_, rfl, Eqv.put ?_ _ _⟩
      exact ⟨h.env, h.stale, by simp only [St.withL, h.loc], h.hp, h.base, h.dirty⟩
  | none =>
    have hh : g.ins.heapy g.dst = true := by simpa [GIns.okD, hw] using hh
    rw [evG_evVG S hh] at he
    cases hv : evVG cl g S with
    | none => rw [hv] at he; cases he
    | some p =>
      obtain ⟨v, U⟩ := p
      rw [hv] at he
      have he' : U.put g.dst v = S' := by simpa using he
      subst he'
      have h1 := evVG_env (cl := cl) (S := S) (e := T.env) (g := g) (fun t _ => h.env t)
      rw [← h.eq, hv] at h1
      have h2 := evG_evVG (cl := cl) T hh
      rw [h1] at h2
      have hq : Eqv U { U with env := T.env } := ⟨fun t => by show getE U.env t = getE T.env t; rw [evVG_keeps hv]; exact h.env t, fun s => by show noStale U.env s = noStale T.env s; rw [evVG_keeps hv]; exact h.stale s, rfl, rfl, rfl, rfl⟩
      exact ⟨({ U with env := T.env } : St).put g.dst v, h2, hq.put _ _⟩

theorem put_env_ne {S : St} {d : Option Nat} {v : V} {t : Nat} (h : ∀ x, d = some x → x ≠ t) : getE (S.put d v).env t = getE S.env t := by
  cases d with
  | none => rfl
  | some x => simp only [St.put, getE_cons]; rw [if_neg]; simpa using h x rfl

theorem ord_swap {cl : ClT} {g h : GIns} (n1 : ∀ t ∈ h.reads, ∀ x, g.dst = some x → x ≠ t) (n2 : ∀ t ∈ g.reads, ∀ x, h.dst = some x → x ≠ t) (n3 : ∀ x y, g.dst = some x → h.dst = some y → x ≠ y)
    (i3 : g.ins.heapy g.dst = true) (i4 : h.ins.heapy h.dst = true) (i5 : (g.ins.cls == 0 || h.ins.cls == 0 || (g.ins.cls == 1 && h.ins.cls == 1)) = true) {S S1 S2 : St} (h1 : evG cl g S = some S1) (h2 : evG cl h S1 = some S2) :
    ∃ T1 T2, evG cl h S = some T1 ∧ evG cl g T1 = some T2 ∧ Eqv S2 T2 := by
  rw [evG_evVG S i3] at h1
  rw [evG_evVG S1 i4] at h2
  cases hg : evVG cl g S with
  | none => rw [hg] at h1; cases h1
  | some p =>
    obtain ⟨vg, Sg⟩ := p
    rw [hg] at h1
    have e1 : Sg.put g.dst vg = S1 := by simpa using h1
    have kg := evVG_keeps hg
    cases hh : evVG cl h S1 with
    | none => rw [hh] at h2; cases h2
    | some p =>
      obtain ⟨vh, Sh⟩ := p
      rw [hh] at h2
      have e2 : Sh.put h.dst vh = S2 := by simpa using h2
      have kh := evVG_keeps hh
      -- the second from where the first has turned memory alone
      have hSg : Sg = { S1 with env := Sg.env } := by subst e1; cases g.dst <;> rfl
      have hhg : evVG cl h Sg = some (vh, { Sh with env := Sg.env }) := by
        have := evVG_env (cl := cl) (S := S1) (e := Sg.env) (g := h) (fun t ht => by subst e1; exact put_env_ne (n1 t ht))
        rw [← hSg, hh] at this
        exact this
      have agree : ∀ (U : St) (v : V), U.env = S.env → ∀ t ∈ g.reads, getE S.env t = getE (U.put h.dst v).env t := fun U v hU t ht => by
        rw [put_env_ne (n2 t ht), hU]
      have ends : ∀ (U : St), U = { Sh with env := S.env } → ∀ (v : V), v = vh → ∀ (W : St), W.env = (U.put h.dst v).env → W.loc = Sh.loc → W.hp = Sh.hp → W.base = Sh.base → W.dirty = Sh.dirty → Eqv S2 (W.put g.dst vg) := by
        rintro U rfl v rfl W w1 w2 w3 w4 w5
        subst e2
        refine ⟨fun t => ?_, fun s => ?_, ?_, ?_, ?_, ?_⟩
        · have hl : getE (Sh.put h.dst v).env t = match h.dst with | some y => if y = t then v else (match g.dst with | some x => if x = t then vg else getE S.env t | none => getE S.env t) | none => (match g.dst with | some x => if x = t then vg else getE S.env t | none => getE S.env t) := by
            have hb : getE Sh.env t = match g.dst with | some x => if x = t then vg else getE S.env t | none => getE S.env t := by
              rw [kh, ← e1]
              cases hgd : g.dst with
              | none => simp only [St.put, kg]
              | some x => simp [St.put, kg]
            cases hhd : h.dst with
            | none => simp only [St.put]; exact hb
            | some y => simp only [St.put, getE_cons, hb, beq_iff_eq]
          rw [hl]
          cases hgd : g.dst with
          | none =>
            simp only [St.put, w1]
            cases hhd : h.dst with
            | none => simp
            | some y => simp
          | some x =>
            simp only [St.put, getE_cons, w1, beq_iff_eq]
            cases hhd : h.dst with
            | none => simp
            | some y =>
              have := n3 x y hgd hhd
              by_cases c1 : x = t
              · subst c1; simp [Ne.symm this]
              · simp [c1]
        · have hb : noStale Sh.env s = (match g.dst with | some x => staleB vg s && noStale S.env s | none => noStale S.env s) := by
            rw [kh, ← e1]
            cases hgd : g.dst with
            | none => simp only [St.put, kg]
            | some x => simp only [St.put, noStale_cons, kg]
          cases hgd : g.dst with
          | none =>
            rw [hgd] at hb
            cases hhd : h.dst with
            | none => simp only [St.put, w1, hb, hhd]
            | some y => simp only [St.put, noStale_cons, w1, hb, hhd]
          | some x =>
            rw [hgd] at hb
            cases hhd : h.dst with
            | none => simp only [St.put, noStale_cons, w1, hb, hhd]
            | some y => simp only [St.put, noStale_cons, w1, hb, hhd]; cases staleB v s <;> cases staleB vg s <;> rfl
        · cases h.dst <;> cases g.dst <;> exact w2.symm
        · cases h.dst <;> cases g.dst <;> exact w3.symm
        · cases h.dst <;> cases g.dst <;> exact w4.symm
        · cases h.dst <;> cases g.dst <;> exact w5.symm
      by_cases c2 : g.ins.cls ≤ 1
      · have hS := evVG_reads c2 hg
        subst hS
        refine ⟨({ Sh with env := Sg.env } : St).put h.dst vh, (({ Sh with env := Sg.env } : St).put h.dst vh).put g.dst vg, by rw [evG_evVG _ i4, hhg]; rfl, ?_, ?_⟩
        · rw [evG_evVG _ i3]
          have hx : evVG cl g ({ Sh with env := Sg.env }.put h.dst vh) = some (vg, { Sh with env := Sg.env }.put h.dst vh) := by
            by_cases c3 : h.ins.cls ≤ 1
            · have hU := evVG_reads c3 hhg
              have := evVG_env (cl := cl) (S := Sg) (e := ({ Sh with env := Sg.env }.put h.dst vh).env) (g := g) (agree { Sh with env := Sg.env } vh rfl)
              rw [hg] at this
              rw [hU] at this ⊢
              have hE : Sg.put h.dst vh = { Sg with env := (Sg.put h.dst vh).env } := by cases h.dst <;> rfl
              rw [hE]
              exact this
            · have c4 : g.ins.cls = 0 := by
                simp only [Bool.or_eq_true, beq_iff_eq, Bool.and_eq_true] at i5
                rcases i5 with (h5 | h5) | ⟨h5, h6⟩
                · exact h5
                · omega
                · omega
              have hz := evVG_zero (cl := cl) (S := Sg) (T := { Sh with env := Sg.env }) c4 rfl
              rw [hg] at hz
              have := evVG_env (cl := cl) (S := { Sh with env := Sg.env }) (e := ({ Sh with env := Sg.env }.put h.dst vh).env) (g := g) (agree { Sh with env := Sg.env } vh rfl)
              rw [hz] at this
              have hE : ({ Sh with env := Sg.env } : St).put h.dst vh = { ({ Sh with env := Sg.env } : St) with env := (({ Sh with env := Sg.env } : St).put h.dst vh).env } := by cases h.dst <;> rfl
              rw [hE]
              exact this
          rw [hx]; rfl
        · refine ends _ rfl vh rfl _ rfl ?_ ?_ ?_ ?_ <;> cases h.dst <;> rfl
      · have c4 : h.ins.cls = 0 := by
          simp only [Bool.or_eq_true, beq_iff_eq, Bool.and_eq_true] at i5
          rcases i5 with (h5 | h5) | ⟨h5, h6⟩
          · omega
          · exact h5
          · omega
        have hU := evVG_reads (by omega) hhg
        have hz := evVG_zero (cl := cl) (S := Sg) (T := S) c4 kg.symm
        rw [hhg] at hz
        have hz' : evVG cl h S = some (vh, S) := hz
        refine ⟨S.put h.dst vh, ({ Sg with env := (S.put h.dst vh).env } : St).put g.dst vg, by rw [evG_evVG _ i4, hz']; rfl, ?_, ?_⟩
        · rw [evG_evVG _ i3]
          have := evVG_env (cl := cl) (S := S) (e := (S.put h.dst vh).env) (g := g) (agree S vh rfl)
          rw [hg] at this
          have hE : S.put h.dst vh = { S with env := (S.put h.dst vh).env } := by cases h.dst <;> rfl
          rw [hE, this]; rfl
        · have hm : Sg.loc = Sh.loc ∧ Sg.hp = Sh.hp ∧ Sg.base = Sh.base ∧ Sg.dirty = Sh.dirty := by rw [← hU]; exact ⟨rfl, rfl, rfl, rfl⟩
          exact ends { Sh with env := S.env } rfl vh rfl _ (by cases h.dst <;> rfl) hm.1 hm.2.1 hm.2.2.1 hm.2.2.2

/-- What is seen without the new box's slot. -/
theorem noStale_no {e : List (Nat × V)} {t : Nat} (h : noStale e t = true) : ∀ n o, getE e n ≠ .lptr t o := fun _ _ he => (noStale_get h he) rfl

/-- An operation that has nothing to do with the local box: it goes through the same, whatever lies in it. -/
theorem evVG_W {cl : ClT} {h : GIns} {S : St} {k : Nat} {fr : Bool} (hk : (if fr = true then h.ins.okL else h.ins.noK k) = true) (hs : fr = true → noStale S.env k = true) (ht : (getL S.loc k).isSome = true) (cs : List V) :
    evVG cl h (S.withL k cs) = (evVG cl h S).map fun p => (p.1, p.2.withL k cs) := by
  have hw : wanted (S.withL k cs) h.guard = wanted S h.guard := by cases h.guard <;> rfl
  unfold evVG
  rw [hw]
  split
  · cases fr with
    | true => exact evV_withL (fun n _ => noStale_no (hs rfl) n) (by simpa using hk) ht
    | false => exact evV_withK (by simpa using hk) ht
  · rfl
  · rfl
theorem evVG_W' {cl : ClT} {h : GIns} {S : St} {k : Nat} {fr : Bool} (hk : (if fr = true then h.ins.okL else h.ins.noK k) = true) (hs : fr = true → noStale S.env k = true) {v : V} {T : St} (hv : evVG cl h S = some (v, T)) :
    (fr = true → ∀ o, v ≠ .lptr k o) ∧ (getL T.loc k).isSome = (getL S.loc k).isSome ∧ (fr = false → getL T.loc k = getL S.loc k) := by
  unfold evVG at hv
  split at hv
  · cases fr with
    | true => exact ⟨fun _ => evV_notL (fun n _ => noStale_no (hs rfl) n) (by simpa using hk) hv, evV_keys hv k, fun h => (by cases h)⟩
    | false =>
      have := evV_keepK (by simpa using hk) hv
      exact ⟨fun h => (by cases h), by rw [this], fun _ => this⟩
  · cases hv; exact ⟨fun _ o => by simp, rfl, fun _ => rfl⟩
  · cases hv
theorem stale_notL {v : V} {t : Nat} (h : ∀ o, v ≠ .lptr t o) : staleB v t = true := by
  cases v <;> simp only [staleB]
  rename_i s o
  have : s ≠ t := fun e => h o (by rw [e])
  simpa using this

/-- Two that are put one after the other, in either order. -/
theorem Eqv.puts {U : St} {x y : Nat} {v u : V} (hne : x ≠ y) : Eqv ((U.put (some x) v).put (some y) u) ((U.put (some y) u).put (some x) v) := by
  refine ⟨fun t => ?_, fun s => ?_, rfl, rfl, rfl, rfl⟩
  · simp only [St.put, getE_cons, beq_iff_eq]
    by_cases c1 : x = t
    · subst c1; simp [Ne.symm hne]
    · simp [c1]
  · simp only [St.put, noStale_cons]; cases staleB u s <;> cases staleB v s <;> rfl
theorem Eqv.putsO {U : St} {d : Option Nat} {y : Nat} {v u : V} (hne : ∀ x, d = some x → x ≠ y) : Eqv ((U.put d v).put (some y) u) ((U.put (some y) u).put d v) := by
  cases d with
  | none => exact .refl _
  | some x => exact .puts (hne x rfl)
theorem Eqv.symm' {S T : St} (h : Eqv S T) : Eqv T S := ⟨fun t => (h.env t).symm, fun s => (h.stale s).symm, h.loc.symm, h.hp.symm, h.base.symm, h.dirty.symm⟩
theorem put_withL (S : St) (d : Option Nat) (v : V) (t : Nat) (cs : List V) : (S.put d v).withL t cs = (S.withL t cs).put d v := by cases d <;> rfl
theorem put_loc (S : St) (d : Option Nat) (v : V) : (S.put d v).loc = S.loc := by cases d <;> rfl

theorem swap_hW {cl : ClT} {g h : GIns} {k : Nat} (n1 : ∀ t ∈ h.reads, ∀ x, g.dst = some x → x ≠ t) (n2 : ∀ t ∈ g.reads, ∀ x, h.dst = some x → x ≠ t) (n3 : ∀ x y, g.dst = some x → h.dst = some y → x ≠ y)
    (i3 : g.ins.heapy g.dst = true) (hw : h.wkey = some k) (hk : (if h.fresh = true then g.ins.okL else g.ins.noK k) = true) {S S1 S2 : St} (h1 : evG cl g S = some S1) (h2 : evG cl h S1 = some S2) :
    ∃ T1 T2, evG cl h S = some T1 ∧ evG cl g T1 = some T2 ∧ Eqv S2 T2 := by
  rw [evG_evVG S i3] at h1
  cases hg : evVG cl g S with
  | none => rw [hg] at h1; cases h1
  | some p =>
    obtain ⟨vg, Sg⟩ := p
    rw [hg] at h1
    have e1 : Sg.put g.dst vg = S1 := by simpa using h1
    have kg := evVG_keeps hg
    subst e1
    rw [evG_W hw] at h2
    cases hc : conW h k (Sg.put g.dst vg) with
    | none => rw [hc] at h2; cases h2
    | some q =>
      obtain ⟨cs, u⟩ := q
      rw [hc] at h2
      have e2 : ((Sg.put g.dst vg).withL k cs).put h.dst u = S2 := by simpa using h2
      obtain ⟨c1, c2, c3⟩ := conW_some hc
      have hst : h.fresh = true → noStale S.env k = true := fun hf => by
        have := c2 hf
        cases hgd : g.dst with
        | none => rw [hgd] at this; simpa [St.put, kg] using this
        | some x => rw [hgd] at this; simp only [St.put, noStale_cons, kg, Bool.and_eq_true] at this; exact this.2
      obtain ⟨w1, w2, w3⟩ := evVG_W' (k := k) hk hst hg
      have hks : (getL S.loc k).isSome = true := by rw [put_loc] at c1; rw [← w2]; exact c1
      have hcS : conW h k S = some (cs, u) := by
        rw [← hc]
        refine (conW_congr (fun n hn => ?_) (fun hf => ?_) (by rw [put_loc, w2]) (fun hf => by rw [put_loc, w3 hf])).symm
        · rw [put_env_ne (n1 n hn), kg]
        · rw [hst hf, c2 hf]
      have hx := evVG_W (cl := cl) hk hst hks cs
      rw [hg] at hx
      have hz := evVG_env (cl := cl) (S := S.withL k cs) (e := ((S.withL k cs).put h.dst u).env) (g := g) (fun n hn => (put_env_ne (S := S.withL k cs) (fun x hx' => n2 n hn x hx')).symm)
      have e8 : ({ S.withL k cs with env := ((S.withL k cs).put h.dst u).env } : St) = (S.withL k cs).put h.dst u := by cases h.dst <;> rfl
      rw [e8, hx] at hz
      have e9 : ({ Sg.withL k cs with env := ((S.withL k cs).put h.dst u).env } : St) = (Sg.withL k cs).put h.dst u := by
        cases h.dst <;> simp only [St.put, St.withL, kg]

      refine ⟨_, ((Sg.withL k cs).put h.dst u).put g.dst vg, by rw [evG_W hw, hcS]; rfl, ?_, ?_⟩
      · rw [evG_evVG _ i3, hz, ← e9]; rfl
      · subst e2
        rw [put_withL]
        cases hhd : h.dst with
        | none => exact .refl _
        | some y => exact .putsO fun x hx => n3 x y hx hhd

theorem swap_Wh {cl : ClT} {g h : GIns} {k : Nat} (n1 : ∀ t ∈ h.reads, ∀ x, g.dst = some x → x ≠ t) (n2 : ∀ t ∈ g.reads, ∀ x, h.dst = some x → x ≠ t) (n3 : ∀ x y, g.dst = some x → h.dst = some y → x ≠ y)
    (i4 : h.ins.heapy h.dst = true) (hw : g.wkey = some k) (hk : (if g.fresh = true then h.ins.okL else h.ins.noK k) = true) {S S1 S2 : St} (h1 : evG cl g S = some S1) (h2 : evG cl h S1 = some S2) :
    ∃ T1 T2, evG cl h S = some T1 ∧ evG cl g T1 = some T2 ∧ Eqv S2 T2 := by
  rw [evG_W hw] at h1
  cases hc : conW g k S with
  | none => rw [hc] at h1; cases h1
  | some q =>
    obtain ⟨cs, u⟩ := q
    rw [hc] at h1
    have e1 : (S.withL k cs).put g.dst u = S1 := by simpa using h1
    subst e1
    obtain ⟨c1, c2, c3⟩ := conW_some hc
    rw [evG_evVG _ i4] at h2
    have hy := evVG_W (cl := cl) hk c2 c1 cs
    have hz := evVG_env (cl := cl) (S := S.withL k cs) (e := ((S.withL k cs).put g.dst u).env) (g := h) (fun n hn => (put_env_ne (S := S.withL k cs) (fun x hx' => n1 n hn x hx')).symm)
    have e8 : ({ S.withL k cs with env := ((S.withL k cs).put g.dst u).env } : St) = (S.withL k cs).put g.dst u := by cases g.dst <;> rfl
    rw [e8, hy] at hz
    cases hh : evVG cl h S with
    | none => rw [hh] at hz; rw [hz] at h2; cases h2
    | some p =>
      obtain ⟨vh, Sh⟩ := p
      rw [hh] at hz
      rw [hz] at h2
      have kh := evVG_keeps hh
      obtain ⟨w1, w2, w3⟩ := evVG_W' (k := k) hk c2 hh
      have e2 : (({ Sh.withL k cs with env := ((S.withL k cs).put g.dst u).env } : St)).put h.dst vh = S2 := by simpa using h2
      have hcS : conW g k (Sh.put h.dst vh) = some (cs, u) := by
        rw [← hc]
        refine conW_congr (fun n hn => ?_) (fun hf => ?_) (by rw [put_loc, w2]) (fun hf => by rw [put_loc, w3 hf])
        · rw [put_env_ne (n2 n hn), kh]
        · have := stale_notL (w1 hf)
          cases h.dst with
          | none => simp [St.put, kh]
          | some x => simp only [St.put, noStale_cons, kh, this, Bool.true_and]
      have e9 : ({ Sh.withL k cs with env := ((S.withL k cs).put g.dst u).env } : St) = (Sh.withL k cs).put g.dst u := by
        cases g.dst <;> simp only [St.put, St.withL, kh]

      refine ⟨_, ((Sh.put h.dst vh).withL k cs).put g.dst u, by rw [evG_evVG _ i4, hh]; rfl, by rw [evG_W hw, hcS]; rfl, ?_⟩
      subst e2
      rw [e9, put_withL]
      cases hgd : g.dst with
      | none => exact .refl _
      | some x => exact (Eqv.putsO fun y hy => (n3 x y hgd hy).symm).symm'

theorem swap_WW {cl : ClT} {g h : GIns} {k k' : Nat} (n1 : ∀ t ∈ h.reads, ∀ x, g.dst = some x → x ≠ t) (n2 : ∀ t ∈ g.reads, ∀ x, h.dst = some x → x ≠ t) (n3 : ∀ x y, g.dst = some x → h.dst = some y → x ≠ y)
    (hG : g.wkey = some k) (hH : h.wkey = some k') (hne : k ≠ k') {S S1 S2 : St} (h1 : evG cl g S = some S1) (h2 : evG cl h S1 = some S2) :
    ∃ T1 T2, evG cl h S = some T1 ∧ evG cl g T1 = some T2 ∧ Eqv S2 T2 := by
  rw [evG_W hG] at h1
  cases hc : conW g k S with
  | none => rw [hc] at h1; cases h1
  | some q =>
    obtain ⟨cs, u⟩ := q
    rw [hc] at h1
    have e1 : (S.withL k cs).put g.dst u = S1 := by simpa using h1
    subst e1
    obtain ⟨c1, c2, c3⟩ := conW_some hc
    rw [evG_W hH] at h2
    cases hd : conW h k' ((S.withL k cs).put g.dst u) with
    | none => rw [hd] at h2; cases h2
    | some q' =>
      obtain ⟨ds, u'⟩ := q'
      rw [hd] at h2
      have e2 : (((S.withL k cs).put g.dst u).withL k' ds).put h.dst u' = S2 := by simpa using h2
      obtain ⟨b1, b2, b3⟩ := conW_some hd
      have hlu : staleB u k' = true := by
        rcases c3 with rfl | rfl
        · rfl
        · simpa [staleB] using hne
      have hlu' : staleB u' k = true := by
        rcases b3 with rfl | rfl
        · rfl
        · simpa [staleB] using Ne.symm hne
      have pst : ∀ (U : St) (d : Option Nat) (v : V) (s : Nat), staleB v s = true → noStale (U.put d v).env s = noStale U.env s := fun U d v s hv => by
        cases d with
        | none => rfl
        | some x => simp only [St.put, noStale_cons, hv, Bool.true_and]
      have hlS : getL (S.withL k cs).loc k' = getL S.loc k' := by simp only [St.withL, getL_setL', if_neg (Ne.symm hne)]
      have hlS' : getL (S.withL k' ds).loc k = getL S.loc k := by simp only [St.withL, getL_setL', if_neg hne]
      have hdS : conW h k' S = some (ds, u') := by
        rw [← hd]
        refine (conW_congr (fun n hn => ?_) (fun _ => ?_) (by rw [put_loc, hlS]) (fun _ => by rw [put_loc, hlS])).symm
        · rw [put_env_ne (n1 n hn)]; rfl
        · rw [pst _ _ _ _ hlu]; rfl
      have hcS : conW g k ((S.withL k' ds).put h.dst u') = some (cs, u) := by
        rw [← hc]
        refine conW_congr (fun n hn => ?_) (fun _ => ?_) (by rw [put_loc, hlS']) (fun _ => by rw [put_loc, hlS'])
        · rw [put_env_ne (n2 n hn)]; rfl
        · rw [pst _ _ _ _ hlu']; rfl
      have hks : (getL S.loc k').isSome = true := by rw [put_loc, hlS] at b1; exact b1
      refine ⟨_, (((S.withL k' ds).put h.dst u').withL k cs).put g.dst u, by rw [evG_W hH, hdS]; rfl, by rw [evG_W hG, hcS]; rfl, ?_⟩
      subst e2
      simp only [put_withL]
      have e9 : (S.withL k cs).withL k' ds = (S.withL k' ds).withL k cs := by
        simp only [St.withL]; rw [setL_comm hne c1 hks]
      rw [e9]
      cases hgd : g.dst with
      | none => exact .refl _
      | some x => exact (Eqv.putsO fun y hy => (n3 x y hgd hy).symm).symm'

theorem Eqv.puts2 {U : St} {d d' : Option Nat} {v u : V} (hne : ∀ x y, d = some x → d' = some y → x ≠ y) : Eqv ((U.put d v).put d' u) ((U.put d' u).put d v) := by
  cases d' with
  | none => exact .refl _
  | some y => exact .putsO fun x hx => hne x y hx rfl

theorem evVG_ldl {cl : ClT} {g : GIns} {S T : St} (hk : g.ins.isLdl = true) (hr : ∀ t ∈ g.reads, getE S.env t = getE T.env t) (hl : T.loc = S.loc) : evVG cl g T = (evVG cl g S).map fun p => (p.1, T) := by
  have hw : wanted T g.guard = wanted S g.guard := by
    cases hg : g.guard with
    | none => rfl
    | some p =>
      obtain ⟨t, b⟩ := p
      simp only [wanted]
      rw [hr t (List.mem_append_left _ (by simp [GIns.guardT, hg]))]
  unfold evVG
  rw [hw]
  split
  · exact evV_ldl hk (fun t ht => hr t (List.mem_append_right _ ht)) hl
  · rfl
  · rfl
theorem evVG_heapOnly {cl : ClT} {g : GIns} {S T : St} {v : V} (hk : g.ins.heapOnly = true) (h : evVG cl g S = some (v, T)) : T.loc = S.loc := by
  unfold evVG at h
  split at h
  · exact evV_heapOnly hk h
  · cases h; rfl
  · cases h
theorem isLdl_cls {i : Ins} (h : i.isLdl = true) : i.cls ≤ 1 := by cases i <;> simp_all [Ins.isLdl, Ins.cls]

theorem swap_LH {cl : ClT} {g h : GIns} (n1 : ∀ t ∈ h.reads, ∀ x, g.dst = some x → x ≠ t) (n2 : ∀ t ∈ g.reads, ∀ x, h.dst = some x → x ≠ t) (n3 : ∀ x y, g.dst = some x → h.dst = some y → x ≠ y)
    (i3 : g.ins.heapy g.dst = true) (i4 : h.ins.heapy h.dst = true) (hg : g.ins.isLdl = true) (hh : h.ins.heapOnly = true) {S S1 S2 : St} (h1 : evG cl g S = some S1) (h2 : evG cl h S1 = some S2) :
    ∃ T1 T2, evG cl h S = some T1 ∧ evG cl g T1 = some T2 ∧ Eqv S2 T2 := by
  rw [evG_evVG S i3] at h1
  cases e1 : evVG cl g S with
  | none => rw [e1] at h1; cases h1
  | some p =>
    obtain ⟨vg, Sg⟩ := p
    have hS := evVG_reads (isLdl_cls hg) e1
    subst hS
    rw [e1] at h1
    have f1 : Sg.put g.dst vg = S1 := by simpa using h1
    subst f1
    rw [evG_evVG _ i4] at h2
    have hz := evVG_env (cl := cl) (S := Sg) (e := (Sg.put g.dst vg).env) (g := h) (fun n hn => (put_env_ne (S := Sg) (fun x hx' => n1 n hn x hx')).symm)
    have e8 : ({ Sg with env := (Sg.put g.dst vg).env } : St) = Sg.put g.dst vg := by cases g.dst <;> rfl
    rw [e8] at hz
    cases e2 : evVG cl h Sg with
    | none => rw [e2] at hz; rw [hz] at h2; cases h2
    | some p =>
      obtain ⟨vh, Sh⟩ := p
      rw [e2] at hz
      rw [hz] at h2
      have kh := evVG_keeps e2
      have f2 : ({ Sh with env := (Sg.put g.dst vg).env } : St).put h.dst vh = S2 := by simpa using h2
      have hl := evVG_heapOnly hh e2
      have hx := evVG_ldl (cl := cl) (S := Sg) (T := Sh.put h.dst vh) hg (fun n hn => by rw [put_env_ne (fun x hx' => n2 n hn x hx'), kh]) (by rw [put_loc]; exact hl)
      rw [e1] at hx
      refine ⟨Sh.put h.dst vh, (Sh.put h.dst vh).put g.dst vg, by rw [evG_evVG _ i4, e2]; rfl, by rw [evG_evVG _ i3, hx]; rfl, ?_⟩
      have e9 : ({ Sh with env := (Sg.put g.dst vg).env } : St) = Sh.put g.dst vg := by
        cases g.dst <;> simp only [St.put, kh]
        rw [← kh]
      rw [← f2, e9]
      exact .puts2 n3

theorem swap_HL {cl : ClT} {g h : GIns} (n1 : ∀ t ∈ h.reads, ∀ x, g.dst = some x → x ≠ t) (n2 : ∀ t ∈ g.reads, ∀ x, h.dst = some x → x ≠ t) (n3 : ∀ x y, g.dst = some x → h.dst = some y → x ≠ y)
    (i3 : g.ins.heapy g.dst = true) (i4 : h.ins.heapy h.dst = true) (hg : g.ins.heapOnly = true) (hh : h.ins.isLdl = true) {S S1 S2 : St} (h1 : evG cl g S = some S1) (h2 : evG cl h S1 = some S2) :
    ∃ T1 T2, evG cl h S = some T1 ∧ evG cl g T1 = some T2 ∧ Eqv S2 T2 := by
  rw [evG_evVG S i3] at h1
  cases e1 : evVG cl g S with
  | none => rw [e1] at h1; cases h1
  | some p =>
    obtain ⟨vg, Sg⟩ := p
    have kg := evVG_keeps e1
    have hl := evVG_heapOnly hg e1
    rw [e1] at h1
    have f1 : Sg.put g.dst vg = S1 := by simpa using h1
    subst f1
    rw [evG_evVG _ i4] at h2
    have hx := evVG_ldl (cl := cl) (S := S) (T := Sg.put g.dst vg) hh (fun n hn => by rw [put_env_ne (fun x hx' => n1 n hn x hx'), kg]) (by rw [put_loc]; exact hl)
    cases e2 : evVG cl h S with
    | none => rw [e2] at hx; rw [hx] at h2; cases h2
    | some p =>
      obtain ⟨vh, Sh⟩ := p
      have hS := evVG_reads (isLdl_cls hh) e2
      subst hS
      rw [e2] at hx
      rw [hx] at h2
      have f2 : (Sg.put g.dst vg).put h.dst vh = S2 := by simpa using h2
      have hz := evVG_env (cl := cl) (S := Sh) (e := (Sh.put h.dst vh).env) (g := g) (fun n hn => (put_env_ne (S := Sh) (fun x hx' => n2 n hn x hx')).symm)
      have e8 : ({ Sh with env := (Sh.put h.dst vh).env } : St) = Sh.put h.dst vh := by cases h.dst <;> rfl
      rw [e8, e1] at hz
      have e9 : ({ Sg with env := (Sh.put h.dst vh).env } : St) = Sg.put h.dst vh := by
        cases h.dst <;> simp only [St.put, kg]
        rw [← kg]
      refine ⟨Sh.put h.dst vh, (Sg.put h.dst vh).put g.dst vg, by rw [evG_evVG _ i4, e2]; rfl, by rw [evG_evVG _ i3, hz, ← e9]; rfl, ?_⟩
      rw [← f2]
      exact .puts2 n3

theorem indep_swap {cl : ClT} {g h : GIns} (hi : indep g h = true) {S S1 S2 : St} (h1 : evG cl g S = some S1) (h2 : evG cl h S1 = some S2) :
    ∃ T1 T2, evG cl h S = some T1 ∧ evG cl g T1 = some T2 ∧ Eqv S2 T2 := by
  simp only [indep, Bool.and_eq_true] at hi
  obtain ⟨⟨i1, i2⟩, i3⟩ := hi
  have n1 : ∀ t ∈ h.reads, ∀ x, g.dst = some x → x ≠ t := fun t ht x hx e => by
    subst e; rw [hx] at i1; simp at i1; exact i1.1 ht
  have n2 : ∀ t ∈ g.reads, ∀ x, h.dst = some x → x ≠ t := fun t ht x hx e => by
    subst e; rw [hx] at i2; simp at i2; exact i2 ht
  have n3 : ∀ x y, g.dst = some x → h.dst = some y → x ≠ y := fun x y hx hy => by
    rw [hx, hy] at i1; simp at i1; exact i1.2
  split at i3
  · rename_i k k' hG hH; exact swap_WW n1 n2 n3 hG hH (by simpa using i3) h1 h2
  · rename_i k hG hH
    simp only [Bool.and_eq_true] at i3
    exact swap_Wh n1 n2 n3 i3.1 hG i3.2 h1 h2
  · rename_i k hG hH
    simp only [Bool.and_eq_true] at i3
    exact swap_hW n1 n2 n3 i3.1 hH i3.2 h1 h2
  · simp only [Bool.and_eq_true] at i3
    obtain ⟨⟨j1, j2⟩, j3⟩ := i3
    rcases Bool.or_eq_true_iff.1 j3 with j3 | j3
    · rcases Bool.or_eq_true_iff.1 j3 with j3 | j3
      · exact ord_swap n1 n2 n3 j1 j2 j3 h1 h2
      · simp only [Bool.and_eq_true] at j3
        exact swap_LH n1 n2 n3 j1 j2 j3.1 j3.2 h1 h2
    · simp only [Bool.and_eq_true] at j3
      exact swap_HL n1 n2 n3 j1 j2 j3.1 j3.2 h1 h2

/-! ### A list of operations -/

def evL (cl : ClT) : List (Nat × GIns) → St → Option St
  | [], S => some S
  | p :: r, S => (evG cl p.2 S).bind (evL cl r)

theorem evL_eqv {cl : ClT} : ∀ {R : List (Nat × GIns)} (_ : ∀ p ∈ R, p.2.okD = true) {S T S' : St}, Eqv S T → evL cl R S = some S' → ∃ T', evL cl R T = some T' ∧ Eqv S' T'
  | [], _, S, T, S', h, he => by cases he; exact ⟨T, rfl, h⟩
  | p :: r, hh, S, T, S', h, he => by
    simp only [evL] at he ⊢
    cases hg : evG cl p.2 S with
    | none => rw [hg] at he; cases he
    | some S1 =>
      rw [hg] at he
      obtain ⟨T1, t1, t2⟩ := h.evG (hh p List.mem_cons_self) hg
      rw [t1]
      exact evL_eqv (fun q hq => hh q (List.mem_cons_of_mem _ hq)) t2 he

theorem evL_front {cl : ClT} {p : Nat × GIns} {B : List (Nat × GIns)} : ∀ {A : List (Nat × GIns)} (_ : ∀ q ∈ A ++ p :: B, q.2.okD = true) (_ : ∀ q ∈ A, indep q.2 p.2 = true) {S S' : St}, evL cl (A ++ p :: B) S = some S' →
    ∃ S1 S'', evG cl p.2 S = some S1 ∧ evL cl (A ++ B) S1 = some S'' ∧ Eqv S' S''
  | [], _, _, S, S', he => by
    simp only [List.nil_append, evL] at he ⊢
    cases hg : evG cl p.2 S with
    | none => rw [hg] at he; cases he
    | some S1 => rw [hg] at he; exact ⟨S1, S', rfl, he, .refl _⟩
  | q :: A, hh, hi, S, S', he => by
    simp only [List.cons_append, evL] at he ⊢
    cases hg : evG cl q.2 S with
    | none => rw [hg] at he; cases he
    | some S1 =>
      rw [hg] at he
      obtain ⟨S2, S'', h1, h2, h3⟩ := evL_front (fun x hx => hh x (List.mem_cons_of_mem _ hx)) (fun x hx => hi x (List.mem_cons_of_mem _ hx)) he
      obtain ⟨T1, T2, t1, t2, t3⟩ := indep_swap (hi q List.mem_cons_self) hg h1
      obtain ⟨T', u1, u2⟩ := evL_eqv (fun x hx => hh x (by
        rcases List.mem_append.1 hx with hx | hx
        · exact List.mem_cons_of_mem _ (List.mem_append_left _ hx)
        · exact List.mem_cons_of_mem _ (List.mem_append_right _ (List.mem_cons_of_mem _ hx)))) t3 h2
      exact ⟨T1, T', t1, by rw [t2]; exact u1, h3.trans u2⟩
end Go.Eng
