/- The engine, part 22: it answers as the program does. -/
import Derived.Test.YtfjgcfloallohaaEng21
namespace Go.Eng
open Go

def exOf : Ex → Exit
  | .normal => .normal
  | .exit id => .exit id
  | .goto l => .goto l
  | .ret => .ret

def okC (P : Program) (M : Nat) : Code → IC → Bool
  | c, .prep _ x => okC P M c x
  | c, .esc _ x => okC P M c x
  | .skip, .skip => true
  | .label l, .label l' => l == l'
  | .region _ ops draw, .reg d gs _ _ => d == draw && okGs P ops M ops.toList gs && (!draw || ordOK ops gs)
  | .seq a b, .seq x y => okC P M a x && okC P M b y
  | .cond c a b, .cond c' x y => okArg c c' && okC P M a x && okC P M b y
  | .block i c, .block j x => i == j && okC P M c x
  | .loop c, .loop _ _ x => okC P M c x
  | .scope c, .scope x => okC P M c x
  | .goto l, .goto l' => l == l'
  | .exit i, .exit j => i == j
  | .ret, .ret => true
  | _, _ => false

def CodeOK (P : Program) (M : Nat) (ev : EvT) (c : Code) (ic : IC) : Prop := ∀ N, M ≤ N → ∀ S ex S', ev ic S = some (ex, S') → ∀ n ro w0 G0 own0 D a w, InF N w0 G0 own0 D S a w →
  ∀ Q : Exit → Act → World → Prop, (∀ a' w', InF N w0 G0 own0 D S' a' w' → Q (exOf ex) a' w') → c.wpIn (Fw ro) n P Q a w

theorem Eqv.symm {S T : St} (h : Eqv S T) : Eqv T S := h.symm'

theorem getE_keepE : ∀ (ks : List Nat) (e : List (Nat × V)) (t : Nat), getE (keepE e ks) t = if t ∈ ks then getE e t else .undef
  | [], e, t => by simp [keepE]
  | k :: r, e, t => by
    have ih := getE_keepE r e t
    simp only [keepE, List.map_cons, getE_cons, beq_iff_eq, List.mem_cons] at ih ⊢
    by_cases h : k = t
    · subst h; simp
    · simp only [h, if_false, ih, Ne.symm h, false_or]

theorem getL_keepL : ∀ (ks : List Nat) (l : List (Nat × List V)) (s : Nat) (cs : List V), getL (keepL l ks) s = some cs → getL l s = some cs
  | [], l, s, cs, h => by simp [keepL] at h
  | k :: r, l, s, cs, h => by
    simp only [keepL, List.filterMap_cons] at h
    cases hk : getL l k with
    | none => simp only [hk, Option.map_none] at h; exact getL_keepL r l s cs h
    | some c =>
      simp only [hk, Option.map_some, getL_cons] at h
      split at h
      · rename_i e; simp at e; subst e; rw [hk]; exact h
      · exact getL_keepL r l s cs h

section
variable {n : Nat} {P : Program} {a : Act} {w : World} {ro : Option Nat}
variable {N M : Nat} {S S' : St} {w0 : World} {G0 : Gh} {own0 : Own} {D : List Deferred} {cl : ClT}

theorem getL_app : ∀ (l : List (Nat × List V)) (t : Nat) (s : Nat), getL (l ++ [(t, [])]) s = match getL l s with | some c => some c | none => if t == s then some [] else none
  | [], t, s => by simp
  | (k, v) :: r, t, s => by
    simp only [List.cons_append, getL_cons]
    split
    · rfl
    · exact getL_app r t s
theorem getL_prepL : ∀ (ts : List Nat) (l : List (Nat × List V)) (s : Nat) (cs : List V), getL (prepL l ts) s = some cs → getL l s = some cs ∨ cs = []
  | [], _, _, _, h => .inl h
  | t :: r, l, s, cs, h => by
    simp only [prepL] at h
    rcases getL_prepL r _ s cs h with h | h
    · split at h
      · exact .inl h
      · rw [getL_app] at h
        split at h
        · rename_i c hc; cases h; exact .inl hc
        · split at h
          · cases h; exact .inr rfl
          · cases h
    · exact .inr h

theorem InF.prep (h : InF N w0 G0 own0 D S a w) (ts : List Nat) : InF N w0 G0 own0 D { S with loc := prepL S.loc ts } a w := by
  obtain ⟨G, own, L, h1, h2, h3, h4⟩ := h
  refine ⟨G, own, L, ⟨h1.size, h1.slot, ⟨h1.wok.imm, h1.wok.dom, h1.wok.domr, h1.wok.top, h1.wok.obj, fun s cs hs => ?_, h1.wok.noI, h1.wok.lt, h1.wok.ilt⟩⟩, h2, ⟨h3.sz, h3.own, h3.old, h3.same⟩, h4⟩
  rcases getL_prepL ts _ _ _ hs with hs | hs
  · exact h1.wok.locs s cs hs
  · exact .inl hs

theorem getE_escE : ∀ (e : List (Nat × V)) (t id n : Nat), getE (escE t id e) n = escV t id (getE e n)
  | [], _, _, _ => rfl
  | (k, v) :: r, t, id, n => by
    simp only [escE_cons, getE_cons]
    split
    · rfl
    · exact getE_escE r t id n

/-- A local box moves into the heap. -/
theorem InF.esc1 (h : InF N w0 G0 own0 D S a w) {t : Nat} {c : V} {cs : List V} (hg : getL S.loc t = some (c :: cs)) :
    InF N w0 G0 own0 D { S with env := escE t S.hp.length S.env, loc := setL S.loc t [], hp := S.hp ++ [DObj.box (c :: cs)] } a w := by
  obtain ⟨G, own, L, h1, h2, h3, h4⟩ := h
  rcases h1.wok.locs t _ hg with h5 | ⟨b, arr, l1, l2, l3, l4, l5⟩
  · cases h5
  have hn := h1.wok.blk_new
  have hle := Gh.le_withBox (b := b) hn
  have hkeep : ∀ b' k, own b' = some k → k ≠ .loc t → upd own b (.obj S.hp.length) b' = some k := fun b' k hk hne => by
    by_cases e : b' = b
    · subst e; rw [l2] at hk; cases hk; exact absurd rfl hne
    · rw [upd_ne _ _ e]; exact hk
  refine ⟨G.withBox S.hp.length b, upd own b (.obj S.hp.length), L, ⟨h1.size, fun n => ?_, ?_⟩, ?_, ?_, h4⟩
  · show SRep _ L _ (getE (escE t S.hp.length S.env) n)
    rw [getE_escE]
    have hs := h1.slot n
    cases hx : getE S.env n with
    | lptr s o =>
      rw [hx] at hs
      obtain ⟨b', k1, k2⟩ := hs
      simp only [escV]
      split
      · rename_i e
        subst e
        rw [l1] at k1; cases k1
        rw [k2]
        exact VRep.ptr _ _ _ (upd_same ..)
      · exact ⟨b', k1, k2⟩
    | _ => rw [hx] at hs; exact VRep.mono hle hs
  · refine ⟨h1.wok.imm, fun i b' hi => ?_, fun i n r hi => ?_, fun i s es hi n r hr => ?_, fun i o hi => ?_, fun s ds hs => ?_, fun b' o v hi => ?_, fun b' k hk => ?_, h1.wok.ilt⟩
    · simp only [Gh.withBox] at hi
      by_cases e : i = S.hp.length
      · simp; omega
      · rw [upd_ne _ _ e] at hi; have := h1.wok.dom _ _ hi; simp; omega
    · have := h1.wok.domr i n r hi; simp; omega
    · rcases get_snoc hi with hi | ⟨-, hi⟩
      · exact h1.wok.top i s es hi n r hr
      · cases hi
    · rcases get_snoc hi with hi | ⟨rfl, rfl⟩
      · exact (h1.wok.obj i o hi).frame hle (fun b' hb => hkeep b' _ hb (by simp)) (fun _ _ => rfl)
      · exact ⟨b, arr, upd_same .., upd_same .., l3, l4, l5.mono hle⟩
    · by_cases e : s = t
      · subst e
        have : getL (setL S.loc s []) s = some ds := hs
        rw [getL_setL_same] at this; cases this
        exact .inl rfl
      · have : getL (setL S.loc t []) s = some ds := hs
        rw [getL_setL_ne _ e] at this
        exact (h1.wok.locs s ds this).frame hle rfl (fun b' hb => hkeep b' _ hb (by simpa using e)) (fun _ _ => rfl)
    · have := h1.wok.noI b' o v hi
      by_cases e : b' = b
      · subst e; rw [l2] at this; cases this
      · rw [upd_ne _ _ e]; exact this
    · by_cases e : b' = b
      · subst e; exact h1.wok.lt _ _ l2
      · rw [upd_ne _ _ e] at hk; exact h1.wok.lt _ _ hk
  · have hnew : w0.heap.size ≤ b := by
      rcases Nat.lt_or_ge b w0.heap.size with hlt | hge
      · obtain ⟨id, e, _⟩ := h3.own b _ l2 hlt; cases e
      · exact hge
    refine ⟨h2.le.trans hle, h2.size, h2.same, fun b' k hk => ?_, h2.imms, h2.os, h2.tape, h2.output⟩
    by_cases e : b' = b
    · subst e; exact .inr hnew
    · rw [upd_ne _ _ e] at hk; exact h2.news b' k hk
  · have hnew : w0.heap.size ≤ b := by
      rcases Nat.lt_or_ge b w0.heap.size with hlt | hge
      · obtain ⟨id, e, _⟩ := h3.own b _ l2 hlt; cases e
      · exact hge
    refine ⟨h3.sz, fun b' k hk hb => ?_, fun b' k hk hb => ?_, h3.same⟩
    · rw [upd_ne _ _ (by omega)] at hk; exact h3.own b' k hk hb
    · rw [upd_ne _ _ (by omega)] at hk; exact h3.old b' k hk hb

theorem InF.esc : ∀ (ts : List Nat) {S T : St}, InF N w0 G0 own0 D S a w → escS S ts = some T → InF N w0 G0 own0 D T a w
  | [], S, T, h, he => by cases he; exact h
  | t :: r, S, T, h, he => by
    simp only [escS] at he
    split at he
    · rename_i c cs hg; exact InF.esc r (h.esc1 hg) he
    · cases he
theorem escS_up : ∀ (ts : List Nat) {S T : St}, escS S ts = some T → Up S T
  | [], S, T, he => by cases he; exact .refl S
  | t :: r, S, T, he => by
    simp only [escS] at he
    split at he
    · refine Up.trans ?_ (escS_up r he); exact ⟨rfl, fun _ h => h⟩
    · cases he

theorem InF.keep (h : InF N w0 G0 own0 D S a w) (ks kl : List Nat) : InF N w0 G0 own0 D (S.keep ks kl) a w := by
  obtain ⟨G, own, L, h1, h2, h3, h4⟩ := h
  refine ⟨G, own, L, ⟨h1.size, fun t => ?_, ⟨h1.wok.imm, h1.wok.dom, h1.wok.domr, h1.wok.top, h1.wok.obj, fun s cs hs => h1.wok.locs s cs (getL_keepL _ _ _ _ hs), h1.wok.noI, h1.wok.lt, h1.wok.ilt⟩⟩, h2, ⟨h3.sz, h3.own, h3.old, h3.same⟩, h4⟩
  show SRep G L _ (getE (keepE S.env ks) t)
  rw [getE_keepE]
  split
  · exact h1.slot t
  · exact VRep.undef _

theorem evL_zip (gs : List GIns) : ∀ (k : Nat) (S : St), evL cl ((gs.zipIdx k).map fun x => (x.2, x.1)) S = evOps cl gs S := by
  induction gs with
  | nil => intro k S; rfl
  | cons g r ih =>
    intro k S
    simp only [List.zipIdx_cons, List.map_cons, evL, evOps]
    cases evG cl g S with
    | none => rfl
    | some S1 => exact ih (k + 1) S1

theorem region_ok (hmix : P.follows .mixedOrders = true) (hcl : ClOK P cl) (hM : M ≤ N) {id : Nat} {ops : Array Oper} {draw : Bool} {gs : List GIns} (hgs : okGs P ops M ops.toList gs = true) (hord : (!draw || ordOK ops gs) = true)
    (hi : InF N w0 G0 own0 D S a w) (he : evOps cl gs S = some S') {Q : Exit → Act → World → Prop} (hq : ∀ a' w', InF N w0 G0 own0 D S' a' w' → Q .normal a' w') : (Code.region id ops draw).wpIn (Fw ro) n P Q a w := by
  obtain ⟨hlen, hget⟩ := okGs_get hgs
  simp only [Array.length_toList] at hlen
  cases draw with
  | false =>
    refine wpIn_region ?_
    rw [List.range_eq_range', hlen]
    refine ops_ok hcl hM gs 0 (fun i g hg => ?_) hi he hq
    have hlt : i < gs.length := (List.getElem?_eq_some_iff.1 hg).1
    have hlt' : i < ops.size := by omega
    exact ⟨ops[i], by simp [hlt'], hget i ops[i] g (by simp [hlt']) hg⟩
  | true =>
    refine wpIn_region_any hmix ?_
    have hord' : ordOK ops gs = true := by simpa using hord
    refine draw_ok hcl hM hgs hord' ops.size ((gs.zipIdx 0).map fun x => (x.2, x.1)) _ (by simp [hlen]) (by simp) ?_ ?_ ?_ hi.drew (by rw [evL_zip]; exact he) (fun S'' a' w' h1 h2 => hq a' w' (h2.eqv h1.symm))
    · unfold Left
      have e1 : (List.range ops.size).filter (fun i => !(Array.replicate ops.size false).getD i true) = List.range ops.size := by
        rw [List.filter_eq_self]
        intro i hi'
        have : i < ops.size := by simpa using hi'
        simp [Array.getD_eq_getD_getElem?, this]
      rw [e1, hlen]
      simp [List.map_map, Function.comp_def, List.zipIdx_map_snd, List.range_eq_range']
    · intro p hp
      obtain ⟨x, hx, rfl⟩ := List.mem_map.1 hp
      exact List.mk_mem_zipIdx_iff_getElem?.1 hx
    · intro j o _ hl
      exfalso
      by_cases h : j < ops.size <;> simp [Array.getD_eq_getD_getElem?, h] at hl

theorem least {p : Nat → Prop} : ∀ {j : Nat}, p j → ∃ i, p i ∧ ∀ k, p k → i ≤ k := by
  intro j
  induction j using Nat.strongRecOn with
  | _ j ih =>
    intro hj
    by_cases h : ∃ i, i < j ∧ p i
    · obtain ⟨i, h1, h2⟩ := h; exact ih i h1 h2
    · exact ⟨j, hj, fun k hk => Nat.le_of_not_lt fun hlt => h ⟨k, hlt, hk⟩⟩

theorem wpIn_loop_rel {F : Fence} {c : Code} {Q : Exit → Act → World → Prop} (R : Nat → Act → World → Prop) {j : Nat} (h₀ : R j a w)
    (round : ∀ j a w, R j a w → c.wpIn F n P (Exit.then (fun a' w' => ∃ i, i < j ∧ R i a' w') Q) a w) : (Code.loop c).wpIn F n P Q a w := by
  classical
  let μ : Act → World → Nat := fun a w => if h : ∃ j, R j a w then (least (p := fun j => R j a w) h.choose_spec).choose else 0
  have hμ : ∀ {a w j}, R j a w → R (μ a w) a w ∧ ∀ k, R k a w → μ a w ≤ k := fun {a w j} h => by
    have hh : ∃ j, R j a w := ⟨j, h⟩
    have := (least (p := fun j => R j a w) hh.choose_spec).choose_spec
    simp only [μ, dif_pos hh]
    exact this
  refine wpIn_loop (fun a w => ∃ j, R j a w) μ ⟨j, h₀⟩ fun a w ⟨j, hj⟩ => ?_
  refine wpIn_mono (round _ a w (hμ hj).1) fun e a' w' he => ?_
  cases e with
  | normal =>
    obtain ⟨i, h1, h2⟩ := he
    exact ⟨⟨i, h2⟩, Nat.lt_of_le_of_lt ((hμ h2).2 i h2) h1⟩
  | _ => exact he

theorem stepR_scope {b : Frame} {k : List Item} {cs : List Frame} {c : Code} :
    step P (lone (b.atR a (.code (.scope c) :: k)) cs w) = .next (lone (b.atR a (.code c :: .inScope c :: k)) cs w) :=
  step_lone_go (by simp [stepG, stepG.exec, Frame.atR])
theorem stepR_inScope {b : Frame} {k : List Item} {cs : List Frame} {c : Code} : step P (lone (b.atR a (.inScope c :: k)) cs w) = .next (lone (b.atR a k) cs w) :=
  step_lone_go (by simp [stepG, stepG.exec, Frame.atR])

/-- A scope: whatever jumps back into it. -/
theorem wpIn_scope_rel {F : Fence} {body : Code} {Q : Exit → Act → World → Prop} (R : Nat → Code → Act → World → Prop) {j : Nat} (h₀ : R j body a w)
    (round : ∀ j c a w, R j c a w → c.wpIn F n P (fun e a' w' => match e with
      | .goto l => (match findLabel body l with | some rest => ∃ i, i < j ∧ R i rest a' w' | none => Q (.goto l) a' w')
      | e => Q e a' w') a w) : (Code.scope body).wpIn F n P Q a w := by
  intro b k cs hro hb hr
  have key : ∀ j c a w, R j c a w → ∃ e a' w', Q e a' w' ∧ ArrivesIn (Machine.fenced P F) P (lone (b.atR a (.code c :: .inScope body :: k)) cs w) b k cs e a' w' := by
    intro j
    induction j using Nat.strongRecOn with
    | _ j ih =>
      intro c a w hR
      obtain ⟨e, a₁, w₁, hq, harr⟩ := round j c a w hR b (.inScope body :: k) cs hro hb hr
      cases e with
      | normal => exact ⟨.normal, a₁, w₁, hq, StepsIn.trans harr (.one (fenced_calm hb hr rfl) stepR_inScope)⟩
      | exit id =>
        have hx : exitTo id (.inScope body :: k) = exitTo id k := by simp [exitTo]
        exact ⟨.exit id, a₁, w₁, hq, fun k' hk => harr.1 k' (by rw [hx]; exact hk), fun hr' hk => let ⟨k₁, h1, h2⟩ := harr.2 hr' (by rw [hx]; exact hk); ⟨k₁, h1, h2⟩⟩
      | goto l =>
        simp only at hq
        cases hf : findLabel body l with
        | some rest =>
          rw [hf] at hq
          obtain ⟨i, h1, h2⟩ := hq
          obtain ⟨e₂, a₂, w₂, hq₂, harr₂⟩ := ih i h1 rest a₁ w₁ h2
          exact ⟨e₂, a₂, w₂, hq₂, .of_steps (harr.1 _ (by simp [gotoIn, hf])) harr₂⟩
        | none =>
          rw [hf] at hq
          have hx : gotoIn l (.inScope body :: k) = gotoIn l k := by simp [gotoIn, hf]
          exact ⟨.goto l, a₁, w₁, hq, fun k' hk => harr.1 k' (by rw [hx]; exact hk), fun hr' hk => let ⟨k₁, h1, h2⟩ := harr.2 hr' (by rw [hx]; exact hk); ⟨k₁, h1, h2⟩⟩
      | ret => exact ⟨_, a₁, w₁, hq, harr⟩
      | panic ch => exact ⟨_, a₁, w₁, hq, harr⟩
      | outgrown => exact ⟨_, a₁, w₁, hq, harr⟩
  obtain ⟨e, a', w', hq, harr⟩ := key j body a w h₀
  exact ⟨e, a', w', hq, .of_steps (.one (fenced_calm hb hr rfl) stepR_scope) harr⟩

theorem okC_label {M : Nat} : ∀ {x : IC} {c : Code} {l : Nat} {r : IC}, okC P M c x = true → findLI x l = some r → ∃ rest, findLabel c l = some rest ∧ okC P M rest r = true
  | .prep _ x, c, l, r, h, hf => okC_label (x := x) (by simpa only [okC] using h) (by simpa only [findLI] using hf)
  | .esc _ x, c, l, r, h, hf => okC_label (x := x) (by simpa only [okC] using h) (by simpa only [findLI] using hf)
  | .seq x y, c, l, r, h, hf => by
    cases c <;> simp only [okC, Bool.false_eq_true] at h
    rename_i a b
    simp only [Bool.and_eq_true] at h
    simp only [findLI] at hf
    cases hx : findLI x l with
    | some r1 =>
      rw [hx] at hf; cases hf
      obtain ⟨rest, k1, k2⟩ := okC_label h.1 hx
      exact ⟨.seq rest b, by simp [findLabel, k1], by simp [okC, k2, h.2]⟩
    | none =>
      rw [hx] at hf
      have hn : findLabel a l = none := by
        cases hfa : findLabel a l with
        | none => rfl
        | some z => obtain ⟨r', hr'⟩ := okC_nolabel h.1 hfa; rw [hx] at hr'; cases hr'
      obtain ⟨rest, k1, k2⟩ := okC_label h.2 hf
      exact ⟨rest, by simp [findLabel, hn, k1], k2⟩
  | .label l', c, l, r, h, hf => by
    cases c <;> simp only [okC, Bool.false_eq_true, beq_iff_eq] at h
    subst h
    simp only [findLI] at hf
    split at hf
    · rename_i e; subst e; cases hf; exact ⟨.skip, by simp [findLabel], rfl⟩
    · cases hf
  | .skip, _, _, _, _, hf | .reg .., _, _, _, _, hf | .cond .., _, _, _, _, hf | .block .., _, _, _, _, hf | .loop .., _, _, _, _, hf | .exit _, _, _, _, _, hf | .ret, _, _, _, _, hf | .scope _, _, _, _, _, hf | .scopeR .., _, _, _, _, hf | .goto _, _, _, _, _, hf | .rangeFunc .., _, _, _, _, hf => by simp [findLI] at hf
where
  okC_nolabel {M : Nat} : ∀ {x : IC} {c : Code} {l : Nat} {z : Code}, okC P M c x = true → findLabel c l = some z → ∃ r, findLI x l = some r
  | .prep _ x, c, l, z, h, hf => by
    obtain ⟨r, hr⟩ := okC_nolabel (x := x) (by simpa only [okC] using h) hf
    exact ⟨r, by simpa only [findLI] using hr⟩
  | .esc _ x, c, l, z, h, hf => by
    obtain ⟨r, hr⟩ := okC_nolabel (x := x) (by simpa only [okC] using h) hf
    exact ⟨r, by simpa only [findLI] using hr⟩
  | .seq x y, c, l, z, h, hf => by
    cases c <;> simp only [okC, Bool.false_eq_true] at h
    rename_i a b
    simp only [Bool.and_eq_true] at h
    simp only [findLabel] at hf
    simp only [findLI]
    cases hx : findLI x l with
    | some r1 => exact ⟨_, rfl⟩
    | none =>
      cases hfa : findLabel a l with
      | some q => obtain ⟨r', hr'⟩ := okC_nolabel h.1 hfa; rw [hx] at hr'; cases hr'
      | none => rw [hfa] at hf; exact okC_nolabel h.2 hf
  | .label l', c, l, z, h, hf => by
    cases c <;> simp only [okC, Bool.false_eq_true, beq_iff_eq] at h
    subst h
    simp only [findLabel, beq_iff_eq] at hf
    simp only [findLI]
    split at hf
    · rename_i e; rw [if_pos e]; exact ⟨_, rfl⟩
    · cases hf
  | .skip, c, _, _, h, hf | .reg .., c, _, _, h, hf | .cond .., c, _, _, h, hf | .block .., c, _, _, h, hf | .loop .., c, _, _, h, hf | .exit _, c, _, _, h, hf | .ret, c, _, _, h, hf | .scope _, c, _, _, h, hf | .scopeR .., c, _, _, h, hf | .goto _, c, _, _, h, hf | .rangeFunc .., c, _, _, h, hf => by
    cases c <;> simp only [okC, Bool.false_eq_true] at h <;> simp [findLabel] at hf

/-- The functions of the evaluator are the program's. -/
structure EnvOK (P : Program) (E : Env) : Prop where
  mix : P.follows .mixedOrders = true
  fns : ∀ f fn, E.fns f = some fn → ∃ func c, P.funcs[f]? = some func ∧ (func.name == "runtime.NumGoroutine") = false ∧ func.body = some c ∧ okC P func.ntmps c fn.body = true ∧ okRs P func.results.toList fn.results = true
  prims : ∀ f g, E.prims f = some g → ∀ vs H r, g vs H = some r → ∀ (G : Gh) (own : Own) (w : World) (args : Array Value), args.size = vs.length → (∀ j (hj : j < vs.length), VRep G (args.getD j undef) (vs[j])) →
    WOK G own H (fun _ => none) [] w → (∀ b k, own b = some k → ∃ id, k = .obj id ∧ id < H.length) → (∀ xs w1, (callFunc f xs).run P w1 = .ok (.enter f xs) w1) ∧ CallR P w G own H r f args

/-- One function of the table is the program's. -/
def FnOK (P : Program) (f : FuncId) (fn : IFn) : Prop := ∃ func c, P.funcs[f]? = some func ∧ (func.name == "runtime.NumGoroutine") = false ∧ func.body = some c ∧ okC P func.ntmps c fn.body = true ∧ okRs P func.results.toList fn.results = true
theorem all_nil {P : Program} : ∀ p ∈ ([] : List (Nat × IFn)), FnOK P p.1 p.2 := fun p hp => by cases hp
theorem all_cons {P : Program} {k : Nat} {fn : IFn} {r : List (Nat × IFn)} (h : FnOK P k fn) (hr : ∀ p ∈ r, FnOK P p.1 p.2) : ∀ p ∈ (k, fn) :: r, FnOK P p.1 p.2 := fun p hp => by
  rcases List.mem_cons.1 hp with rfl | hp
  · exact h
  · exact hr p hp
theorem fnOK_find {P : Program} {tab : List (Nat × IFn)} (h : ∀ p ∈ tab, FnOK P p.1 p.2) {f : FuncId} {fn : IFn} (hf : (tab.find? fun p => p.1 == f).map (·.2) = some fn) : FnOK P f fn := by
  cases hx : tab.find? fun p => p.1 == f with
  | none => rw [hx] at hf; cases hf
  | some p =>
    rw [hx] at hf
    cases hf
    have h1 := List.find?_some hx
    have h2 := List.mem_of_find?_eq_some hx
    have := h p h2
    have e : p.1 = f := by simpa using h1
    rw [e] at this
    exact this

theorem enum_get : ∀ (vs : List V) (k t : Nat), getE (enumFrom k vs) t = if h : k ≤ t ∧ t - k < vs.length then vs[t - k]'h.2 else .undef
  | [], k, t => by simp [enumFrom]
  | v :: r, k, t => by
    simp only [enumFrom, getE_cons, beq_iff_eq]
    by_cases h : k = t
    · subst h; simp
    · rw [if_neg h, enum_get r (k + 1) t]
      by_cases h1 : k + 1 ≤ t ∧ t - (k + 1) < r.length
      · have h2 : k ≤ t ∧ t - k < (v :: r).length := by simp; omega
        rw [dif_pos h1, dif_pos h2]
        have e : t - k = (t - (k + 1)) + 1 := by omega
        simp only [e, List.getElem_cons_succ]
      · have h2 : ¬ (k ≤ t ∧ t - k < (v :: r).length) := by simp; omega
        rw [dif_neg h1, dif_neg h2]

/-- How an activation ends. -/
theorem finish_ok {func : Func} {H : Heap} {th : Bool} {rs : List RV} {r : CR} (hrs : okRs P func.results.toList rs = true) (hf : finish th rs S = some r) (hi : InF N w0 G0 own0 [] S a w) (hbase : S.base = H.length)
    (h0 : WOK G0 own0 H (fun _ => none) [] w0) (ho0 : ∀ b k, own0 b = some k → ∃ id, k = .obj id ∧ id < H.length) :
    a.defers = [] ∧ ∃ v, (results func a.tmps).run P w = .ok v w ∧ (∀ b, b < w0.heap.size → (∀ k, own0 b = some k → ∃ id, k = .obj id ∧ id ∉ wrote r.2) → w.heap[b]? = w0.heap[b]?) ∧
      ∃ G' own', Foot G0 own0 w0 G' own' w ∧ VRep G' v r.1 ∧ WOK G' own' (heapOf H r.2) (fun _ => none) [] w := by
  obtain ⟨G, own, L, h1, h2, h3, h4⟩ := hi
  refine ⟨h4, ?_⟩
  cases hx : resVs th S rs with
  | none => simp [finish, hx] at hf
  | some xs =>
    obtain ⟨ids, hids0⟩ : ∃ ids, ids = if th = true then [] else rawIds S rs := ⟨_, rfl⟩
    have hr : outR { S with hp := bury S.hp ids } (oneOr xs) = r := by rw [hids0]; simpa [finish, hx, buried] using hf
    obtain ⟨us, u1, u2, u3⟩ := results_rep (ids := ids) h1 hrs hx (fun ht i hi => by rw [hids0, ht]; simpa using hi)
    refine ⟨_, run_results u1, ?_⟩
    have hids : ∀ i ∈ ids, S.base ≤ i := by
      have one : ∀ (d : Nat) (v : V), ∀ i ∈ rowIds S.base S.hp d v, S.base ≤ i := by
        intro d
        induction d with
        | zero => intro v i hi; cases v <;> simp [rowIds] at hi
        | succ d ih =>
          intro v i hi
          cases v with
          | row id tot off len =>
            simp only [rowIds] at hi
            split at hi
            · rename_i hb
              rcases List.mem_cons.1 hi with rfl | hi
              · exact hb
              · obtain ⟨e, -, he⟩ := List.mem_flatMap.1 hi
                obtain ⟨u, -, hu⟩ := List.mem_flatMap.1 he
                exact ih u i hu
            · cases hi
          | _ => simp [rowIds] at hi
      have two : ∀ (v : V), ∀ i ∈ rowIdsR S v, S.base ≤ i := fun v i hi => by
        cases v with
        | agg cs => obtain ⟨u, -, hu⟩ := List.mem_flatMap.1 hi; exact one _ u i hu
        | _ => simp only [rowIdsR] at hi; exact one _ _ i hi
      have all : ∀ (rs : List RV), ∀ i ∈ rawIds S rs, S.base ≤ i := by
        intro rs
        induction rs with
        | nil => intro i hi; simp [rawIds] at hi
        | cons q rest ih =>
          intro i hi
          cases q with
          | tmp t =>
            simp only [rawIds, List.mem_append] at hi
            rcases hi with hi | hi
            · exact two _ i hi
            · exact ih i hi
          | cell a' m agg =>
            simp only [rawIds, List.mem_append] at hi
            rcases hi with hi | hi
            · split at hi
              · exact two _ i hi
              · simp at hi
            · exact ih i hi
      intro i hi
      rw [hids0] at hi
      split at hi
      · cases hi
      · exact all rs i hi
    have hval : VRep (G.bury own w ids) (oneVal us) (oneOr xs) := by
      match us, xs, u2, u3 with
      | [], [], _, _ => exact .tup _ _ rfl fun j hj => absurd hj (Nat.not_lt_zero _)
      | [u], [x], _, u3 => exact u3 0 (by simp)
      | u :: v :: r, x :: y :: s, u2, u3 =>
        refine .tup _ _ (by simpa using u2) fun j hj => ?_
        have := u3 j hj
        simpa [Array.getD_eq_getD_getElem?, List.getD_eq_getElem?_getD] using this
      | [], _ :: _, u2, _ => simp at u2
      | _ :: _, [], u2, _ => simp at u2
      | [_], _ :: _ :: _, u2, _ => simp at u2
      | _ :: _ :: _, [_], u2, _ => simp at u2
    have hwok := h1.wok.bury ids
    have himms : ∀ b o v, (G.bury own w ids).I b o v → G0.I b o v ∨ w0.heap.size ≤ b := by
      intro b o v hb
      rcases hb with hb | ⟨⟨id, hid, ho⟩, _⟩
      · exact h2.imms b o v hb
      · by_cases hlt : b < w0.heap.size
        · obtain ⟨id', e1, e2⟩ := h3.own b _ ho hlt
          cases e1
          have := hids id hid
          omega
        · exact .inr (by omega)
    have hle : G0.Le (G.bury own w ids) := h2.le.trans (G.le_bury own w _)
    by_cases hc : (oneOr xs).plainR = true ∧ S.dirty = []
    · have hr' : r = (oneOr xs, none) := by rw [← hr]; simp [outR, hc]
      subst hr'
      have same : ∀ b, b < w0.heap.size → w.heap[b]? = w0.heap[b]? := fun b hb => h3.same b hb fun k hk => let ⟨id, h5, _⟩ := ho0 b k hk; ⟨id, h5, by rw [hc.2]; simp⟩
      refine ⟨fun b hb _ => same b hb, { G0 with I := (G.bury own w ids).I }, own0, ⟨⟨hle.I, fun _ _ h => h, fun _ _ _ h => h⟩, h3.sz, fun b hb _ => same b hb, fun _ _ h => .inl h, himms, h2.os, h2.tape, h2.output⟩, plain_rep hval hc.1 (fun _ _ _ h => h), ?_⟩
      exact (h0.frame h3.sz same).moreI hle.I hwok.imm (fun b o v hb => by
        rcases himms b o v hb with h5 | h5
        · exact h0.noI b o v h5
        · cases ho : own0 b with
          | none => rfl
          | some k => have := h0.lt b k ho; omega) hwok.ilt
    · have hr' : r = (oneOr xs, some (bury S.hp ids, S.dirty)) := by
        rw [← hr]
        unfold outR
        rw [if_neg hc]
      subst hr'
      exact ⟨h3.same, G.bury own w ids, buryOwn own ids, ⟨hle, h2.size, h2.same, fun b k hk => h2.news b k (buryOwn_some hk), himms, h2.os, h2.tape, h2.output⟩, hval, hwok⟩
end

theorem run_callFunc_fn {P : Program} {f : FuncId} {fn : Func} {c : Code} (hf : P.funcs[f]? = some fn) (hname : (fn.name == "runtime.NumGoroutine") = false) (hb : fn.body = some c) (args : Array Value) (w : World) :
    (callFunc f args).run P w = .ok (.enter f args) w := by
  have hn : ¬ fn.name = "runtime.NumGoroutine" := by simpa using hname
  simp [callFunc, hf, hn, hb]

theorem evOps_up {cl : ClT} : ∀ {gs : List GIns} {S S' : St}, evOps cl gs S = some S' → Up S S'
  | [], S, S', h => by cases h; exact .refl S
  | g :: r, S, S', h => by
    simp only [evOps] at h
    cases h1 : evG cl g S with
    | none => rw [h1] at h; cases h
    | some S1 => rw [h1] at h; exact (evG_up h1).trans (evOps_up h)

theorem sys_up {E : Env} : ∀ (k : Nat) (ic : IC) (S : St) (ex : Ex) (S' : St), (sys E k).1 ic S = some (ex, S') → Up S S'
  | 0, ic, S, ex, S', h => by simp [sys] at h
  | k + 1, ic, S, ex, S', h => by
    have ih := sys_up (E := E) k
    change evStep (sys E k).1 (sys E k).2 ic S = some (ex, S') at h
    cases ic with
    | skip => cases h; exact .refl S
    | label => cases h; exact .refl S
    | goto => cases h; exact .refl S
    | scope x => exact ih (.scopeR x x) _ _ _ h
    | scopeR x y =>
      simp only [evStep] at h
      cases he : (sys E k).1 x S with
      | none => rw [he] at h; cases h
      | some p =>
        obtain ⟨e1, S1⟩ := p
        rw [he] at h
        simp only [Option.bind_some] at h
        have h1 := ih _ _ _ _ he
        cases e1 with
        | goto l =>
          simp only at h
          split at h
          · exact h1.trans (ih _ _ _ _ h)
          · cases h; exact h1
        | _ => cases h; exact h1
    | exit => cases h; exact .refl S
    | ret => cases h; exact .refl S
    | rangeFunc => simp [evStep] at h
    | esc ts x =>
      simp only [evStep] at h
      cases he : escS S ts with
      | none => rw [he] at h; cases h
      | some T => rw [he] at h; exact (escS_up ts he).trans (ih _ _ _ _ h)
    | prep ts x =>
      have h' : (sys E k).1 x { S with loc := prepL S.loc ts } = some (ex, S') := h
      exact (show Up S { S with loc := prepL S.loc ts } from ⟨rfl, fun _ h => h⟩).trans (ih _ _ _ _ h')
    | reg d gs ks kl =>
      simp only [evStep] at h
      cases he : evOps (sys E k).2 gs S with
      | none => rw [he] at h; cases h
      | some S1 =>
        rw [he] at h
        cases h
        exact (evOps_up he).trans ⟨rfl, fun _ h => h⟩
    | seq x y =>
      simp only [evStep] at h
      cases he : (sys E k).1 x S with
      | none => rw [he] at h; cases h
      | some p =>
        obtain ⟨e1, S1⟩ := p
        rw [he] at h
        simp only [Option.bind_some] at h
        cases e1 with
        | normal => exact (ih _ _ _ _ he).trans (ih _ _ _ _ h)
        | _ => cases h; exact ih _ _ _ _ he
    | cond b x y =>
      simp only [evStep] at h
      split at h
      · split at h
        · exact ih _ _ _ _ h
        · exact ih _ _ _ _ h
      · cases h
    | block id x =>
      simp only [evStep] at h
      cases he : (sys E k).1 x S with
      | none => rw [he] at h; cases h
      | some p =>
        obtain ⟨e1, S1⟩ := p
        rw [he] at h
        simp only [Option.map_some, Option.some.injEq] at h
        have := ih _ _ _ _ he
        split at h <;> cases h <;> exact this
    | loop ks kl x =>
      simp only [evStep] at h
      cases he : (sys E k).1 x (S.keep ks kl) with
      | none => rw [he] at h; cases h
      | some p =>
        obtain ⟨e1, S1⟩ := p
        rw [he] at h
        simp only [Option.bind_some] at h
        have h1 : Up S S1 := by
          have hk : Up S (S.keep ks kl) := ⟨rfl, fun _ h => h⟩
          exact hk.trans (ih _ _ _ _ he)
        cases e1 with
        | normal => exact h1.trans (ih _ _ _ _ h)
        | _ => cases h; exact h1

theorem hollow_len {vs : List V} (h : hollow vs = true) : vs.length = 1 := by
  unfold hollow at h; split at h
  · rfl
  · rfl
  · cases h
theorem slice0_mt {G : Gh} (a : Option Addr) (cap : Nat) : ∃ b, VRep G (.slice a 0 cap) (.mt b) := by
  cases a with
  | none => exact ⟨true, .mtn cap⟩
  | some ad => exact ⟨false, .mts ad cap⟩
theorem hollow_rep {G : Gh} {vs : List V} {args : Array Value} (h : hollow vs = true) (ha1 : args.size = vs.length) (ha2 : ∀ j (hj : j < vs.length), VRep G (args.getD j undef) (vs[j])) : ∃ b, VRep G (args.getD 0 undef) (.mt b) := by
  unfold hollow at h; split at h
  · have := ha2 0 (by simp)
    generalize args.getD 0 undef = v at this ⊢
    cases this with | nils a => exact slice0_mt a 0
  · have := ha2 0 (by simp)
    generalize args.getD 0 undef = v at this ⊢
    cases this with
    | p hp => cases hp with
      | sl0 a cap => exact slice0_mt a cap
      | sl b off cap s _ c hn hc hs' hI hR => simp at hn
  · cases h

theorem sound {P : Program} {E : Env} (hE : EnvOK P E) : ∀ k, (∀ M c ic, okC P M c ic = true → CodeOK P M (sys E k).1 c ic) ∧ ClOK P (sys E k).2 := by
  intro k
  induction k using Nat.strongRecOn with
  | _ k ih =>
  cases k with
  | zero => exact ⟨fun M c ic _ N _ S ex S' h => by simp [sys] at h, fun _ _ _ _ => rfl, fun fv vs H r h => by simp [sys] at h⟩
  | succ k =>
    obtain ⟨ihc, ihl⟩ := ih k (Nat.lt_succ_self k)
    refine ⟨?_, ?_, ?_⟩
    · intro M c ic hok N hM S ex S' hev n ro w0 G0 own0 D a w hi Q hq
      change evStep (sys E k).1 (sys E k).2 ic S = some (ex, S') at hev
      cases ic with
      | esc ts x =>
        have hok' : okC P M c x = true := by simpa only [okC] using hok
        simp only [evStep] at hev
        cases he : escS S ts with
        | none => rw [he] at hev; cases hev
        | some T => rw [he] at hev; exact ihc M c x hok' N hM _ ex S' hev n ro w0 G0 own0 D a w (InF.esc ts hi he) Q hq
      | prep ts x =>
        have hok' : okC P M c x = true := by simpa only [okC] using hok
        exact ihc M c x hok' N hM _ ex S' hev n ro w0 G0 own0 D a w (hi.prep ts) Q hq
      | skip => cases c <;> simp only [okC, Bool.false_eq_true] at hok; cases hev; exact wpIn_skip (hq _ _ hi)
      | label l => cases c <;> simp only [okC, Bool.false_eq_true] at hok; cases hev; exact wpIn_label (hq _ _ hi)
      | goto l =>
        cases c <;> simp only [okC, Bool.false_eq_true, beq_iff_eq] at hok
        subst hok
        cases hev
        exact wpIn_goto (hq _ _ hi)
      | scopeR x y => cases c <;> simp only [okC, Bool.false_eq_true] at hok
      | scope x =>
        cases c with
        | scope body =>
          have hok' : okC P M body x = true := by simpa only [okC] using hok
          refine wpIn_scope_rel (fun j c a w => j ≤ k ∧ ∃ r S, okC P M c r = true ∧ InF N w0 G0 own0 D S a w ∧ (sys E j).1 (.scopeR r x) S = some (ex, S')) (j := k) ⟨Nat.le_refl _, x, S, hok', hi, hev⟩ fun j c a w hj => ?_
          obtain ⟨hjk, r, S, hr, hi, hev⟩ := hj
          cases j with
          | zero => simp [sys] at hev
          | succ j =>
            change evStep (sys E j).1 (sys E j).2 (.scopeR r x) S = some (ex, S') at hev
            simp only [evStep] at hev
            cases he : (sys E j).1 r S with
            | none => rw [he] at hev; cases hev
            | some p =>
              obtain ⟨e1, S1⟩ := p
              rw [he] at hev
              simp only [Option.bind_some] at hev
              refine (ih j (by omega)).1 M _ _ hr N hM _ e1 S1 he n ro w0 G0 own0 D a w hi _ fun a1 w1 hi1 => ?_
              cases e1 with
              | goto l =>
                simp only [exOf]
                simp only at hev
                split at hev
                · rename_i r' hr'
                  obtain ⟨rest, k1, k2⟩ := okC_label hok' hr'
                  rw [k1]
                  exact ⟨j, Nat.lt_succ_self j, by omega, r', S1, k2, hi1, hev⟩
                · rename_i hr'
                  have hn : findLabel body l = none := by
                    cases hfa : findLabel body l with
                    | none => rfl
                    | some z => obtain ⟨r', hr2⟩ := okC_label.okC_nolabel hok' hfa; rw [hr'] at hr2; cases hr2
                  rw [hn]
                  cases hev
                  exact hq _ _ hi1
              | _ => cases hev; exact hq _ _ hi1
        | _ => simp only [okC, Bool.false_eq_true] at hok
      | reg d gs ks kl =>
        cases c <;> simp only [okC, Bool.false_eq_true] at hok
        simp only [Bool.and_eq_true, beq_iff_eq] at hok
        obtain ⟨⟨rfl, h2⟩, h3⟩ := hok
        simp only [evStep] at hev
        cases he : evOps (sys E k).2 gs S with
        | none => rw [he] at hev; cases hev
        | some S1 =>
          rw [he] at hev
          cases hev
          exact region_ok hE.mix ihl hM h2 h3 hi he fun a' w' hi' => hq a' w' (hi'.keep ks kl)
      | seq x y =>
        cases c <;> simp only [okC, Bool.false_eq_true] at hok
        simp only [Bool.and_eq_true] at hok
        simp only [evStep] at hev
        cases he : (sys E k).1 x S with
        | none => rw [he] at hev; cases hev
        | some p =>
          obtain ⟨e1, S1⟩ := p
          rw [he] at hev
          simp only [Option.bind_some] at hev
          refine wpIn_seq (ihc M _ _ hok.1 N hM S e1 S1 he n ro w0 G0 own0 D a w hi _ fun a1 w1 hi1 => ?_)
          cases e1 with
          | normal => exact ihc M _ _ hok.2 N hM S1 ex S' hev n ro w0 G0 own0 D a1 w1 hi1 Q hq
          | _ => cases hev; exact hq _ _ hi1
      | cond b x y =>
        cases c <;> simp only [okC, Bool.false_eq_true] at hok
        simp only [Bool.and_eq_true] at hok
        obtain ⟨⟨h1, h2⟩, h3⟩ := hok
        simp only [evStep] at hev
        split at hev
        · rename_i t ht
          obtain ⟨G, own, L, k1, -⟩ := id hi
          have hb := okArg_rep k1 h1
          rw [ht] at hb
          refine wpIn_cond (rep_bool hb) ?_
          cases t with
          | true => exact ihc M _ _ h2 N hM S ex S' (by simpa using hev) n ro w0 G0 own0 D a w hi Q hq
          | false => exact ihc M _ _ h3 N hM S ex S' (by simpa using hev) n ro w0 G0 own0 D a w hi Q hq
        · cases hev
      | block id x =>
        cases c <;> simp only [okC, Bool.false_eq_true] at hok
        simp only [Bool.and_eq_true, beq_iff_eq] at hok
        obtain ⟨rfl, h2⟩ := hok
        simp only [evStep] at hev
        cases he : (sys E k).1 x S with
        | none => rw [he] at hev; cases hev
        | some p =>
          obtain ⟨e1, S1⟩ := p
          rw [he] at hev
          simp only [Option.map_some, Option.some.injEq] at hev
          refine wpIn_block (ihc M _ _ h2 N hM S e1 S1 he n ro w0 G0 own0 D a w hi _ fun a1 w1 hi1 => ?_)
          cases e1 with
          | exit i =>
            simp only [exOf, Exit.inBlock]
            split at hev
            · rename_i hh; cases hev; cases hh; simp only [if_true]; exact hq _ _ hi1
            · rename_i hh
              cases hev
              have : ¬ i = _ := fun e => hh (by rw [e])
              rw [if_neg this]; exact hq _ _ hi1
          | _ => cases hev; exact hq _ _ hi1
      | loop ks kl x =>
        cases c with
        | loop c =>
          simp only [okC] at hok
          refine wpIn_loop_rel (fun j a w => j ≤ k + 1 ∧ ∃ S, InF N w0 G0 own0 D S a w ∧ (sys E j).1 (.loop ks kl x) S = some (ex, S')) (j := k + 1) ⟨Nat.le_refl _, S, hi, hev⟩ fun j a w hj => ?_
          obtain ⟨hjk, S, hi, hev⟩ := hj
          cases j with
          | zero => simp [sys] at hev
          | succ j =>
            change evStep (sys E j).1 (sys E j).2 (.loop ks kl x) S = some (ex, S') at hev
            simp only [evStep] at hev
            cases he : (sys E j).1 x (S.keep ks kl) with
            | none => rw [he] at hev; cases hev
            | some p =>
              obtain ⟨e1, S1⟩ := p
              rw [he] at hev
              simp only [Option.bind_some] at hev
              refine (ih j (by omega)).1 M _ _ hok N hM _ e1 S1 he n ro w0 G0 own0 D a w (hi.keep ks kl) _ fun a1 w1 hi1 => ?_
              cases e1 with
              | normal => exact ⟨j, Nat.lt_succ_self j, by omega, S1, hi1, hev⟩
              | _ => cases hev; exact hq _ _ hi1
        | _ => simp only [okC, Bool.false_eq_true] at hok
      | exit id =>
        cases c <;> simp only [okC, Bool.false_eq_true, beq_iff_eq] at hok
        subst hok
        cases hev
        exact wpIn_exit (hq _ _ hi)
      | ret => cases c <;> simp only [okC, Bool.false_eq_true] at hok; cases hev; exact wpIn_ret (hq _ _ hi)
      | rangeFunc => simp [evStep] at hev
    · intro s o vs H; rfl
    · intro fv vs H r hev G own w fval args hfv ha1 ha2 hw ho
      change clStep E (sys E k).1 fv vs H = some r at hev
      have runs : ∀ f fn (vs : List V) (args : Array Value) (r : CR), E.fns f = some fn → args.size = vs.length → (∀ j (hj : j < vs.length), VRep G (args.getD j undef) (vs[j])) → runF (sys E k).1 fn vs H = some r →
          (∀ xs w1, (callFunc f xs).run P w1 = .ok (.enter f xs) w1) ∧ CallR P w G own H r f args := by
        intro f fn vs args r hfn ha1 ha2 hgo
        unfold runF at hgo
        obtain ⟨func, c, p1, p2, p3, p4, p5⟩ := hE.fns f fn hfn
        refine ⟨fun xs w1 => run_callFunc_fn p1 p2 p3 xs w1, fun m => callsIn_of_wp p1 p3 trivial ?_⟩
        cases he : (sys E k).1 fn.body (St.enter vs H) with
        | none => rw [he] at hgo; cases hgo
        | some p =>
          obtain ⟨e1, S1⟩ := p
          rw [he] at hgo
          simp only [Option.bind_some] at hgo
          have hin : InF (args ++ Array.replicate (func.ntmps - args.size) undef).size w G own [] (St.enter vs H) { tmps := args ++ Array.replicate (func.ntmps - args.size) undef, defers := [] } w := by
            refine ⟨G, own, fun _ => none, ⟨rfl, fun t => ?_, hw⟩, .refl .., ⟨Nat.le_refl _, fun b k hk _ => ho b k hk, fun _ _ h _ => h, fun _ _ _ => rfl⟩, rfl⟩
            show SRep G _ _ (getE (enumFrom 0 vs) t)
            rw [enum_get]
            split
            · rename_i h
              simp only [Nat.sub_zero] at h ⊢
              have hlt : t < args.size := by omega
              have := ha2 t h.2
              refine .of ?_
              simpa [Array.getD_eq_getD_getElem?, Array.getElem?_append_left hlt] using this
            · exact VRep.undef _
          refine ihc func.ntmps c fn.body p4 _ (by simp; omega) _ e1 S1 he m none w G own [] _ w hin _ fun a' w' hi' => ?_
          have hb : S1.base = H.length := (sys_up _ _ _ _ _ he).1
          have fin : ∀ {r'}, finish fn.thaw fn.results S1 = some r' → r' = r → bodyPost P func (fun e w' => ∃ val, e = .returned val ∧ (∀ b, b < w.heap.size → (∀ k, own b = some k → ∃ id, k = .obj id ∧ id ∉ wrote r.2) → w'.heap[b]? = w.heap[b]?) ∧
              ∃ G' own', Foot G own w G' own' w' ∧ VRep G' val r.1 ∧ WOK G' own' (heapOf H r.2) (fun _ => none) [] w') .normal a' w' := by
            rintro r' hfin rfl
            obtain ⟨f1, v, f2, f3, f4⟩ := finish_ok p5 hfin hi' hb hw ho
            exact ⟨f1, v, f2, v, rfl, f3, f4⟩
          cases e1 with
          | normal => exact fin hgo rfl
          | ret => exact fin hgo rfl
          | exit => cases hgo
          | goto => cases hgo
      have main : ∀ f (vs : List V) (args : Array Value), args.size = vs.length → (∀ j (hj : j < vs.length), VRep G (args.getD j undef) (vs[j])) → clStep.go E (sys E k).1 f vs H = some r →
          (∀ xs w1, (callFunc f xs).run P w1 = .ok (.enter f xs) w1) ∧ CallR P w G own H r f args := by
        intro f vs args ha1 ha2 hgo
        unfold clStep.go at hgo
        split at hgo
        · rename_i g hg; exact hE.prims f g hg vs H r hgo G own w args ha1 ha2 hw ho
        · split at hgo
          · rename_i fn hfn
            split at hgo
            · rename_i hc
              simp only [Bool.and_eq_true] at hc
              obtain ⟨h1, h2, rfl⟩ := bareR_some hgo
              obtain ⟨b, hb⟩ := hollow_rep hc.2 ha1 ha2
              cases b with
              | true => exact runs f fn [.mt true] args _ hfn (by rw [ha1, hollow_len hc.2]; rfl) (fun j hj => by
                  have : j = 0 := by simp at hj; exact hj
                  subst this; exact hb) h1
              | false => exact runs f fn [.mt false] args _ hfn (by rw [ha1, hollow_len hc.2]; rfl) (fun j hj => by
                  have : j = 0 := by simp at hj; exact hj
                  subst this; exact hb) h2
            · exact runs f fn vs args r hfn ha1 ha2 hgo
          · cases hgo
      unfold clStep at hev
      split at hev
      · rename_i f
        obtain ⟨h1, h2⟩ := main f vs args ha1 ha2 hev
        cases hfv with
        | p hp => cases hp; exact ⟨f, #[], #[], rfl, h1, by simpa using h2⟩
      · rename_i f first cap
        cases hfv with
        | fn _ fa ca _ _ q1 q2 q3 q4 =>
          obtain ⟨h1, h2⟩ := main f (first ++ vs ++ cap) (fa ++ args ++ ca) (by simp [q1, q2, ha1]) (fun j hj => by
            simp only [List.length_append] at hj
            rcases Nat.lt_or_ge j (first.length + vs.length) with hlt | hge
            · have e1 : (first ++ vs ++ cap)[j] = (first ++ vs)[j]'(by simpa using hlt) := List.getElem_append_left (by simpa using hlt)
              rcases Nat.lt_or_ge j first.length with hlt2 | hge2
              · have e2 : (first ++ vs)[j]'(by simpa using hlt) = first[j] := List.getElem_append_left hlt2
                rw [e1, e2]
                have := q3 j hlt2
                have h5 : j < fa.size := by omega
                simpa [Array.getD_eq_getD_getElem?, Array.getElem?_append, h5, show j < fa.size + args.size by omega] using this
              · have e2 : (first ++ vs)[j]'(by simpa using hlt) = vs[j - first.length] := List.getElem_append_right hge2
                rw [e1, e2]
                have := ha2 (j - first.length) (by omega)
                have h5 : ¬ j < fa.size := by omega
                simpa [Array.getD_eq_getD_getElem?, Array.getElem?_append, q1, show ¬ j < first.length by omega, show j - first.length < args.size by omega] using this
            · have e1 : (first ++ vs ++ cap)[j] = cap[j - (first.length + vs.length)] := by
                rw [List.getElem_append_right (by simpa using hge)]; simp
              rw [e1]
              have := q4 (j - (first.length + vs.length)) (by omega)
              simpa [Array.getD_eq_getD_getElem?, Array.getElem?_append, q1, ha1, show ¬ j < first.length by omega, show ¬ j - first.length < vs.length by omega, Nat.sub_sub] using this) hev
          exact ⟨f, fa, ca, rfl, h1, h2⟩
      · cases hev
end Go.Eng
