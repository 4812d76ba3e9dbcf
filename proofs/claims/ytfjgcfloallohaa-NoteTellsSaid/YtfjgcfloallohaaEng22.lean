/- The engine, part 22: it answers as the program does. -/
import Derived.Test.YtfjgcfloallohaaEng21
namespace Go.Eng
open Go

def exOf : Ex → Exit
  | .normal => .normal
  | .exit id => .exit id
  | .goto l => .goto l
  | .ret => .ret

def okC (P : Program) (M : Nat) : Code → IC → Bool
  | .skip, .skip => true
  | .label _, .label => true
  | .region _ ops draw, .reg d gs _ _ => d == draw && okGs P ops M ops.toList gs && (!draw || ordOK ops gs)
  | .seq a b, .seq x y => okC P M a x && okC P M b y
  | .cond c a b, .cond c' x y => okArg c c' && okC P M a x && okC P M b y
  | .block i c, .block j x => i == j && okC P M c x
  | .loop c, .loop _ _ x => okC P M c x
  | .exit i, .exit j => i == j
  | .ret, .ret => true
  | _, _ => false

def CodeOK (P : Program) (M : Nat) (ev : EvT) (c : Code) (ic : IC) : Prop := ∀ N, M ≤ N → ∀ S ex S', ev ic S = some (ex, S') → ∀ n ro w0 G0 own0 D a w, InF N w0 G0 own0 D S a w →
  ∀ Q : Exit → Act → World → Prop, (∀ a' w', InF N w0 G0 own0 D S' a' w' → Q (exOf ex) a' w') → c.wpIn (Fw ro) n P Q a w

theorem Eqv.symm {S T : St} (h : Eqv S T) : Eqv T S := ⟨fun t => (h.env t).symm, h.loc.symm, h.hp.symm, h.base.symm, h.dirty.symm⟩

theorem getE_keepE : ∀ (ks : List Nat) (e : List (Nat × V)) (t : Nat), getE (keepE e ks) t = if t ∈ ks then getE e t else .undef
  | [], e, t => by simp [keepE]
  | k :: r, e, t => by
    have ih := getE_keepE r e t
    simp only [keepE, List.map_cons, getE_cons, beq_iff_eq, List.mem_cons] at ih ⊢
    by_cases h : k = t
    · subst h; simp
    · simp only [h, if_false, ih, Ne.symm h, false_or]

theorem getL_keepL : ∀ (ks : List Nat) (l : List (Nat × List V)) (s : Nat) (cs : List V), getL (keepL l ks) s = some cs → getL l s = some cs
  | [], l, s, cs, h => by simp [keepL] at h
  | k :: r, l, s, cs, h => by
    simp only [keepL, List.filterMap_cons] at h
    cases hk : getL l k with
    | none => simp only [hk, Option.map_none] at h; exact getL_keepL r l s cs h
    | some c =>
      simp only [hk, Option.map_some, getL_cons] at h
      split at h
      · rename_i e; simp at e; subst e; rw [hk]; exact h
      · exact getL_keepL r l s cs h

section
variable {n : Nat} {P : Program} {a : Act} {w : World} {ro : Option Nat}
variable {N M : Nat} {S S' : St} {w0 : World} {G0 : Gh} {own0 : Own} {D : List Deferred} {cl : ClT}

theorem InF.keep (h : InF N w0 G0 own0 D S a w) (ks kl : List Nat) : InF N w0 G0 own0 D (S.keep ks kl) a w := by
  obtain ⟨G, own, L, h1, h2, h3, h4⟩ := h
  refine ⟨G, own, L, ⟨h1.size, fun t => ?_, ⟨h1.wok.imm, h1.wok.dom, h1.wok.domr, h1.wok.top, h1.wok.obj, fun s cs hs => h1.wok.locs s cs (getL_keepL _ _ _ _ hs), h1.wok.noI, h1.wok.lt, h1.wok.ilt⟩⟩, h2, ⟨h3.sz, h3.own, h3.same⟩, h4⟩
  show SRep G L _ (getE (keepE S.env ks) t)
  rw [getE_keepE]
  split
  · exact h1.slot t
  · exact VRep.undef _

theorem evL_zip (gs : List GIns) : ∀ (k : Nat) (S : St), evL cl ((gs.zipIdx k).map fun x => (x.2, x.1)) S = evOps cl gs S := by
  induction gs with
  | nil => intro k S; rfl
  | cons g r ih =>
    intro k S
    simp only [List.zipIdx_cons, List.map_cons, evL, evOps]
    cases evG cl g S with
    | none => rfl
    | some S1 => exact ih (k + 1) S1

theorem region_ok (hmix : P.follows .mixedOrders = true) (hcl : ClOK P cl) (hM : M ≤ N) {id : Nat} {ops : Array Oper} {draw : Bool} {gs : List GIns} (hgs : okGs P ops M ops.toList gs = true) (hord : (!draw || ordOK ops gs) = true)
    (hi : InF N w0 G0 own0 D S a w) (he : evOps cl gs S = some S') {Q : Exit → Act → World → Prop} (hq : ∀ a' w', InF N w0 G0 own0 D S' a' w' → Q .normal a' w') : (Code.region id ops draw).wpIn (Fw ro) n P Q a w := by
  obtain ⟨hlen, hget⟩ := okGs_get hgs
  simp only [Array.length_toList] at hlen
  cases draw with
  | false =>
    refine wpIn_region ?_
    rw [List.range_eq_range', hlen]
    refine ops_ok hcl hM gs 0 (fun i g hg => ?_) hi he hq
    have hlt : i < gs.length := (List.getElem?_eq_some_iff.1 hg).1
    have hlt' : i < ops.size := by omega
    exact ⟨ops[i], by simp [hlt'], hget i ops[i] g (by simp [hlt']) hg⟩
  | true =>
    refine wpIn_region_any hmix ?_
    have hord' : ordOK ops gs = true := by simpa using hord
    refine draw_ok hcl hM hgs hord' ops.size ((gs.zipIdx 0).map fun x => (x.2, x.1)) _ (by simp [hlen]) (by simp) ?_ ?_ ?_ hi.drew (by rw [evL_zip]; exact he) (fun S'' a' w' h1 h2 => hq a' w' (h2.eqv h1.symm))
    · unfold Left
      have e1 : (List.range ops.size).filter (fun i => !(Array.replicate ops.size false).getD i true) = List.range ops.size := by
        rw [List.filter_eq_self]
        intro i hi'
        have : i < ops.size := by simpa using hi'
        simp [Array.getD_eq_getD_getElem?, this]
      rw [e1, hlen]
      simp [List.map_map, Function.comp_def, List.zipIdx_map_snd, List.range_eq_range']
    · intro p hp
      obtain ⟨x, hx, rfl⟩ := List.mem_map.1 hp
      exact List.mk_mem_zipIdx_iff_getElem?.1 hx
    · intro j o _ hl
      exfalso
      by_cases h : j < ops.size <;> simp [Array.getD_eq_getD_getElem?, h] at hl

theorem least {p : Nat → Prop} : ∀ {j : Nat}, p j → ∃ i, p i ∧ ∀ k, p k → i ≤ k := by
  intro j
  induction j using Nat.strongRecOn with
  | _ j ih =>
    intro hj
    by_cases h : ∃ i, i < j ∧ p i
    · obtain ⟨i, h1, h2⟩ := h; exact ih i h1 h2
    · exact ⟨j, hj, fun k hk => Nat.le_of_not_lt fun hlt => h ⟨k, hlt, hk⟩⟩

theorem wpIn_loop_rel {F : Fence} {c : Code} {Q : Exit → Act → World → Prop} (R : Nat → Act → World → Prop) {j : Nat} (h₀ : R j a w)
    (round : ∀ j a w, R j a w → c.wpIn F n P (Exit.then (fun a' w' => ∃ i, i < j ∧ R i a' w') Q) a w) : (Code.loop c).wpIn F n P Q a w := by
  classical
  let μ : Act → World → Nat := fun a w => if h : ∃ j, R j a w then (least (p := fun j => R j a w) h.choose_spec).choose else 0
  have hμ : ∀ {a w j}, R j a w → R (μ a w) a w ∧ ∀ k, R k a w → μ a w ≤ k := fun {a w j} h => by
    have hh : ∃ j, R j a w := ⟨j, h⟩
    have := (least (p := fun j => R j a w) hh.choose_spec).choose_spec
    simp only [μ, dif_pos hh]
    exact this
  refine wpIn_loop (fun a w => ∃ j, R j a w) μ ⟨j, h₀⟩ fun a w ⟨j, hj⟩ => ?_
  refine wpIn_mono (round _ a w (hμ hj).1) fun e a' w' he => ?_
  cases e with
  | normal =>
    obtain ⟨i, h1, h2⟩ := he
    exact ⟨⟨i, h2⟩, Nat.lt_of_le_of_lt ((hμ h2).2 i h2) h1⟩
  | _ => exact he

/-- The functions of the evaluator are the program's. -/
structure EnvOK (P : Program) (E : Env) : Prop where
  mix : P.follows .mixedOrders = true
  fns : ∀ f fn, E.fns f = some fn → ∃ func c, P.funcs[f]? = some func ∧ (func.name == "runtime.NumGoroutine") = false ∧ func.body = some c ∧ okC P func.ntmps c fn.body = true ∧ okRs P func.results.toList fn.results = true
  prims : ∀ f g, E.prims f = some g → ∀ vs H r, g vs H = some r → ∀ (G : Gh) (own : Own) (w : World) (args : Array Value), args.size = vs.length → (∀ j (hj : j < vs.length), VRep G (args.getD j undef) (vs[j])) →
    WOK G own H (fun _ => none) [] w → (∀ b k, own b = some k → ∃ id, k = .obj id ∧ id < H.length) → (∀ xs w1, (callFunc f xs).run P w1 = .ok (.enter f xs) w1) ∧ CallR P w G own H r f args

/-- One function of the table is the program's. -/
def FnOK (P : Program) (f : FuncId) (fn : IFn) : Prop := ∃ func c, P.funcs[f]? = some func ∧ (func.name == "runtime.NumGoroutine") = false ∧ func.body = some c ∧ okC P func.ntmps c fn.body = true ∧ okRs P func.results.toList fn.results = true
theorem all_nil {P : Program} : ∀ p ∈ ([] : List (Nat × IFn)), FnOK P p.1 p.2 := fun p hp => by cases hp
theorem all_cons {P : Program} {k : Nat} {fn : IFn} {r : List (Nat × IFn)} (h : FnOK P k fn) (hr : ∀ p ∈ r, FnOK P p.1 p.2) : ∀ p ∈ (k, fn) :: r, FnOK P p.1 p.2 := fun p hp => by
  rcases List.mem_cons.1 hp with rfl | hp
  · exact h
  · exact hr p hp
theorem fnOK_find {P : Program} {tab : List (Nat × IFn)} (h : ∀ p ∈ tab, FnOK P p.1 p.2) {f : FuncId} {fn : IFn} (hf : (tab.find? fun p => p.1 == f).map (·.2) = some fn) : FnOK P f fn := by
  cases hx : tab.find? fun p => p.1 == f with
  | none => rw [hx] at hf; cases hf
  | some p =>
    rw [hx] at hf
    cases hf
    have h1 := List.find?_some hx
    have h2 := List.mem_of_find?_eq_some hx
    have := h p h2
    have e : p.1 = f := by simpa using h1
    rw [e] at this
    exact this

theorem enum_get : ∀ (vs : List V) (k t : Nat), getE (enumFrom k vs) t = if h : k ≤ t ∧ t - k < vs.length then vs[t - k]'h.2 else .undef
  | [], k, t => by simp [enumFrom]
  | v :: r, k, t => by
    simp only [enumFrom, getE_cons, beq_iff_eq]
    by_cases h : k = t
    · subst h; simp
    · rw [if_neg h, enum_get r (k + 1) t]
      by_cases h1 : k + 1 ≤ t ∧ t - (k + 1) < r.length
      · have h2 : k ≤ t ∧ t - k < (v :: r).length := by simp; omega
        rw [dif_pos h1, dif_pos h2]
        have e : t - k = (t - (k + 1)) + 1 := by omega
        simp only [e, List.getElem_cons_succ]
      · have h2 : ¬ (k ≤ t ∧ t - k < (v :: r).length) := by simp; omega
        rw [dif_neg h1, dif_neg h2]

/-- How an activation ends. -/
theorem finish_ok {func : Func} {H : Heap} {rs : List RV} {r : CR} (hrs : okRs P func.results.toList rs = true) (hf : finish rs S = some r) (hi : InF N w0 G0 own0 [] S a w) (hbase : S.base = H.length)
    (h0 : WOK G0 own0 H (fun _ => none) [] w0) :
    a.defers = [] ∧ ∃ v, (results func a.tmps).run P w = .ok v w ∧ (r.2 = none → ∀ b, b < w0.heap.size → w.heap[b]? = w0.heap[b]?) ∧
      ∃ G' own', Foot G0 own0 w0 G' own' w ∧ VRep G' v r.1 ∧ WOK G' own' (r.2.getD H) (fun _ => none) [] w := by
  obtain ⟨G, own, L, h1, h2, h3, h4⟩ := hi
  refine ⟨h4, ?_⟩
  cases hx : resVs S rs with
  | none => simp [finish, hx] at hf
  | some xs =>
    have hr : outR (buried rs S) (oneOr xs) = r := by simpa [finish, hx] using hf
    obtain ⟨us, u1, u2, u3⟩ := results_rep (ids := rawIds S rs) h1 hrs hx (fun _ h => h)
    refine ⟨_, run_results u1, ?_⟩
    have hids : ∀ i ∈ rawIds S rs, S.base ≤ i := by
      have one : ∀ (v : V), ∀ i ∈ rowIds S.base v, S.base ≤ i := fun v i hi => by
        cases v <;> simp [rowIds] at hi
        exact hi.2 ▸ hi.1
      have two : ∀ (v : V), ∀ i ∈ rowIdsR S.base v, S.base ≤ i := fun v i hi => by
        cases v with
        | agg cs => obtain ⟨u, -, hu⟩ := List.mem_flatMap.1 hi; exact one u i hu
        | _ => simp only [rowIdsR] at hi; exact one _ i hi
      clear hf hx hr u3 hrs
      induction rs with
      | nil => intro i hi; simp [rawIds] at hi
      | cons q rest ih =>
        intro i hi
        cases q with
        | tmp t =>
          simp only [rawIds, List.mem_append] at hi
          rcases hi with hi | hi
          · exact two _ i hi
          · exact ih i hi
        | cell a' m agg =>
          simp only [rawIds, List.mem_append] at hi
          rcases hi with hi | hi
          · split at hi
            · exact two _ i hi
            · simp at hi
          · exact ih i hi
    have hval : VRep (G.bury own w (rawIds S rs)) (oneVal us) (oneOr xs) := by
      match us, xs, u2, u3 with
      | [], [], _, _ => exact .tup _ _ rfl fun j hj => absurd hj (Nat.not_lt_zero _)
      | [u], [x], _, u3 => exact u3 0 (by simp)
      | u :: v :: r, x :: y :: s, u2, u3 =>
        refine .tup _ _ (by simpa using u2) fun j hj => ?_
        have := u3 j hj
        simpa [Array.getD_eq_getD_getElem?, List.getD_eq_getElem?_getD] using this
      | [], _ :: _, u2, _ => simp at u2
      | _ :: _, [], u2, _ => simp at u2
      | [_], _ :: _ :: _, u2, _ => simp at u2
      | _ :: _ :: _, [_], u2, _ => simp at u2
    have hwok := h1.wok.bury (rawIds S rs)
    have himms : ∀ b o v, (G.bury own w (rawIds S rs)).I b o v → G0.I b o v ∨ w0.heap.size ≤ b := by
      intro b o v hb
      rcases hb with hb | ⟨⟨id, hid, ho⟩, _⟩
      · exact h2.imms b o v hb
      · by_cases hlt : b < w0.heap.size
        · obtain ⟨id', e1, e2⟩ := h3.own b _ ho hlt
          cases e1
          have := hids id hid
          omega
        · exact .inr (by omega)
    have hle : G0.Le (G.bury own w (rawIds S rs)) := h2.le.trans (G.le_bury own w _)
    by_cases hc : (oneOr xs).plainR = true ∧ S.dirty = false
    · have hr' : r = (oneOr xs, none) := by rw [← hr]; simp [outR, buried, hc]
      subst hr'
      have same := h3.same hc.2
      refine ⟨fun _ => same, { G0 with I := (G.bury own w (rawIds S rs)).I }, own0, ⟨⟨hle.I, fun _ _ h => h, fun _ _ _ h => h⟩, h3.sz, fun b hb _ => same b hb, fun _ _ h => .inl h, himms, h2.os, h2.tape, h2.output⟩, plain_rep hval hc.1 (fun _ _ _ h => h), ?_⟩
      exact (h0.frame h3.sz same).moreI hle.I hwok.imm (fun b o v hb => by
        rcases himms b o v hb with h5 | h5
        · exact h0.noI b o v h5
        · cases ho : own0 b with
          | none => rfl
          | some k => have := h0.lt b k ho; omega) hwok.ilt
    · have hr' : r = (oneOr xs, some (bury S.hp (rawIds S rs))) := by
        rw [← hr]
        have hc' : ¬ ((oneOr xs).plainR = true ∧ (buried rs S).dirty = false) := hc
        unfold outR
        rw [if_neg hc']; rfl
      subst hr'
      refine ⟨fun hh => (by cases hh), G.bury own w (rawIds S rs), buryOwn own (rawIds S rs), ⟨hle, h2.size, h2.same, fun b k hk => h2.news b k (buryOwn_some hk), himms, h2.os, h2.tape, h2.output⟩, hval, hwok⟩
end

theorem run_callFunc_fn {P : Program} {f : FuncId} {fn : Func} {c : Code} (hf : P.funcs[f]? = some fn) (hname : (fn.name == "runtime.NumGoroutine") = false) (hb : fn.body = some c) (args : Array Value) (w : World) :
    (callFunc f args).run P w = .ok (.enter f args) w := by
  have hn : ¬ fn.name = "runtime.NumGoroutine" := by simpa using hname
  simp [callFunc, hf, hn, hb]

theorem evOps_up {cl : ClT} : ∀ {gs : List GIns} {S S' : St}, evOps cl gs S = some S' → Up S S'
  | [], S, S', h => by cases h; exact .refl S
  | g :: r, S, S', h => by
    simp only [evOps] at h
    cases h1 : evG cl g S with
    | none => rw [h1] at h; cases h
    | some S1 => rw [h1] at h; exact (evG_up h1).trans (evOps_up h)

theorem sys_up {E : Env} : ∀ (k : Nat) (ic : IC) (S : St) (ex : Ex) (S' : St), (sys E k).1 ic S = some (ex, S') → Up S S'
  | 0, ic, S, ex, S', h => by simp [sys] at h
  | k + 1, ic, S, ex, S', h => by
    have ih := sys_up (E := E) k
    change evStep (sys E k).1 (sys E k).2 ic S = some (ex, S') at h
    cases ic with
    | skip => cases h; exact .refl S
    | label => cases h; exact .refl S
    | exit => cases h; exact .refl S
    | ret => cases h; exact .refl S
    | rangeFunc => simp [evStep] at h
    | reg d gs ks kl =>
      simp only [evStep] at h
      cases he : evOps (sys E k).2 gs S with
      | none => rw [he] at h; cases h
      | some S1 =>
        rw [he] at h
        cases h
        exact (evOps_up he).trans ⟨rfl, fun h => h⟩
    | seq x y =>
      simp only [evStep] at h
      cases he : (sys E k).1 x S with
      | none => rw [he] at h; cases h
      | some p =>
        obtain ⟨e1, S1⟩ := p
        rw [he] at h
        simp only [Option.bind_some] at h
        cases e1 with
        | normal => exact (ih _ _ _ _ he).trans (ih _ _ _ _ h)
        | _ => cases h; exact ih _ _ _ _ he
    | cond b x y =>
      simp only [evStep] at h
      split at h
      · split at h
        · exact ih _ _ _ _ h
        · exact ih _ _ _ _ h
      · cases h
    | block id x =>
      simp only [evStep] at h
      cases he : (sys E k).1 x S with
      | none => rw [he] at h; cases h
      | some p =>
        obtain ⟨e1, S1⟩ := p
        rw [he] at h
        simp only [Option.map_some, Option.some.injEq] at h
        have := ih _ _ _ _ he
        split at h <;> cases h <;> exact this
    | loop ks kl x =>
      simp only [evStep] at h
      cases he : (sys E k).1 x (S.keep ks kl) with
      | none => rw [he] at h; cases h
      | some p =>
        obtain ⟨e1, S1⟩ := p
        rw [he] at h
        simp only [Option.bind_some] at h
        have h1 : Up S S1 := by
          have hk : Up S (S.keep ks kl) := ⟨rfl, fun h => h⟩
          exact hk.trans (ih _ _ _ _ he)
        cases e1 with
        | normal => exact h1.trans (ih _ _ _ _ h)
        | _ => cases h; exact h1

theorem sound {P : Program} {E : Env} (hE : EnvOK P E) : ∀ k, (∀ M c ic, okC P M c ic = true → CodeOK P M (sys E k).1 c ic) ∧ ClOK P (sys E k).2 := by
  intro k
  induction k using Nat.strongRecOn with
  | _ k ih =>
  cases k with
  | zero => exact ⟨fun M c ic _ N _ S ex S' h => by simp [sys] at h, fun _ _ _ _ => rfl, fun fv vs H r h => by simp [sys] at h⟩
  | succ k =>
    obtain ⟨ihc, ihl⟩ := ih k (Nat.lt_succ_self k)
    refine ⟨?_, ?_, ?_⟩
    · intro M c ic hok N hM S ex S' hev n ro w0 G0 own0 D a w hi Q hq
      change evStep (sys E k).1 (sys E k).2 ic S = some (ex, S') at hev
      cases ic with
      | skip => cases c <;> simp only [okC, Bool.false_eq_true] at hok; cases hev; exact wpIn_skip (hq _ _ hi)
      | label => cases c <;> simp only [okC, Bool.false_eq_true] at hok; cases hev; exact wpIn_label (hq _ _ hi)
      | reg d gs ks kl =>
        cases c <;> simp only [okC, Bool.false_eq_true] at hok
        simp only [Bool.and_eq_true, beq_iff_eq] at hok
        obtain ⟨⟨rfl, h2⟩, h3⟩ := hok
        simp only [evStep] at hev
        cases he : evOps (sys E k).2 gs S with
        | none => rw [he] at hev; cases hev
        | some S1 =>
          rw [he] at hev
          cases hev
          exact region_ok hE.mix ihl hM h2 h3 hi he fun a' w' hi' => hq a' w' (hi'.keep ks kl)
      | seq x y =>
        cases c <;> simp only [okC, Bool.false_eq_true] at hok
        simp only [Bool.and_eq_true] at hok
        simp only [evStep] at hev
        cases he : (sys E k).1 x S with
        | none => rw [he] at hev; cases hev
        | some p =>
          obtain ⟨e1, S1⟩ := p
          rw [he] at hev
          simp only [Option.bind_some] at hev
          refine wpIn_seq (ihc M _ _ hok.1 N hM S e1 S1 he n ro w0 G0 own0 D a w hi _ fun a1 w1 hi1 => ?_)
          cases e1 with
          | normal => exact ihc M _ _ hok.2 N hM S1 ex S' hev n ro w0 G0 own0 D a1 w1 hi1 Q hq
          | _ => cases hev; exact hq _ _ hi1
      | cond b x y =>
        cases c <;> simp only [okC, Bool.false_eq_true] at hok
        simp only [Bool.and_eq_true] at hok
        obtain ⟨⟨h1, h2⟩, h3⟩ := hok
        simp only [evStep] at hev
        split at hev
        · rename_i t ht
          obtain ⟨G, own, L, k1, -⟩ := id hi
          have hb := okArg_rep k1 h1
          rw [ht] at hb
          refine wpIn_cond (rep_bool hb) ?_
          cases t with
          | true => exact ihc M _ _ h2 N hM S ex S' (by simpa using hev) n ro w0 G0 own0 D a w hi Q hq
          | false => exact ihc M _ _ h3 N hM S ex S' (by simpa using hev) n ro w0 G0 own0 D a w hi Q hq
        · cases hev
      | block id x =>
        cases c <;> simp only [okC, Bool.false_eq_true] at hok
        simp only [Bool.and_eq_true, beq_iff_eq] at hok
        obtain ⟨rfl, h2⟩ := hok
        simp only [evStep] at hev
        cases he : (sys E k).1 x S with
        | none => rw [he] at hev; cases hev
        | some p =>
          obtain ⟨e1, S1⟩ := p
          rw [he] at hev
          simp only [Option.map_some, Option.some.injEq] at hev
          refine wpIn_block (ihc M _ _ h2 N hM S e1 S1 he n ro w0 G0 own0 D a w hi _ fun a1 w1 hi1 => ?_)
          cases e1 with
          | exit i =>
            simp only [exOf, Exit.inBlock]
            split at hev
            · rename_i hh; cases hev; cases hh; simp only [if_true]; exact hq _ _ hi1
            · rename_i hh
              cases hev
              have : ¬ i = _ := fun e => hh (by rw [e])
              rw [if_neg this]; exact hq _ _ hi1
          | _ => cases hev; exact hq _ _ hi1
      | loop ks kl x =>
        cases c with
        | loop c =>
          simp only [okC] at hok
          refine wpIn_loop_rel (fun j a w => j ≤ k + 1 ∧ ∃ S, InF N w0 G0 own0 D S a w ∧ (sys E j).1 (.loop ks kl x) S = some (ex, S')) (j := k + 1) ⟨Nat.le_refl _, S, hi, hev⟩ fun j a w hj => ?_
          obtain ⟨hjk, S, hi, hev⟩ := hj
          cases j with
          | zero => simp [sys] at hev
          | succ j =>
            change evStep (sys E j).1 (sys E j).2 (.loop ks kl x) S = some (ex, S') at hev
            simp only [evStep] at hev
            cases he : (sys E j).1 x (S.keep ks kl) with
            | none => rw [he] at hev; cases hev
            | some p =>
              obtain ⟨e1, S1⟩ := p
              rw [he] at hev
              simp only [Option.bind_some] at hev
              refine (ih j (by omega)).1 M _ _ hok N hM _ e1 S1 he n ro w0 G0 own0 D a w (hi.keep ks kl) _ fun a1 w1 hi1 => ?_
              cases e1 with
              | normal => exact ⟨j, Nat.lt_succ_self j, by omega, S1, hi1, hev⟩
              | _ => cases hev; exact hq _ _ hi1
        | _ => simp only [okC, Bool.false_eq_true] at hok
      | exit id =>
        cases c <;> simp only [okC, Bool.false_eq_true, beq_iff_eq] at hok
        subst hok
        cases hev
        exact wpIn_exit (hq _ _ hi)
      | ret => cases c <;> simp only [okC, Bool.false_eq_true] at hok; cases hev; exact wpIn_ret (hq _ _ hi)
      | rangeFunc => simp [evStep] at hev
    · intro s o vs H; rfl
    · intro fv vs H r hev G own w fval args hfv ha1 ha2 hw ho
      change clStep E (sys E k).1 fv vs H = some r at hev
      have main : ∀ f (vs : List V) (args : Array Value), args.size = vs.length → (∀ j (hj : j < vs.length), VRep G (args.getD j undef) (vs[j])) → clStep.go E (sys E k).1 f vs H = some r →
          (∀ xs w1, (callFunc f xs).run P w1 = .ok (.enter f xs) w1) ∧ CallR P w G own H r f args := by
        intro f vs args ha1 ha2 hgo
        unfold clStep.go at hgo
        split at hgo
        · rename_i g hg; exact hE.prims f g hg vs H r hgo G own w args ha1 ha2 hw ho
        · split at hgo
          · rename_i fn hfn
            obtain ⟨func, c, p1, p2, p3, p4, p5⟩ := hE.fns f fn hfn
            refine ⟨fun xs w1 => run_callFunc_fn p1 p2 p3 xs w1, fun m => callsIn_of_wp p1 p3 trivial ?_⟩
            cases he : (sys E k).1 fn.body (St.enter vs H) with
            | none => rw [he] at hgo; cases hgo
            | some p =>
              obtain ⟨e1, S1⟩ := p
              rw [he] at hgo
              simp only [Option.bind_some] at hgo
              have hin : InF (args ++ Array.replicate (func.ntmps - args.size) undef).size w G own [] (St.enter vs H) { tmps := args ++ Array.replicate (func.ntmps - args.size) undef, defers := [] } w := by
                refine ⟨G, own, fun _ => none, ⟨rfl, fun t => ?_, hw⟩, .refl .., ⟨Nat.le_refl _, fun b k hk _ => ho b k hk, fun _ _ _ => rfl⟩, rfl⟩
                show SRep G _ _ (getE (enumFrom 0 vs) t)
                rw [enum_get]
                split
                · rename_i h
                  simp only [Nat.sub_zero] at h ⊢
                  have hlt : t < args.size := by omega
                  have := ha2 t h.2
                  refine .of ?_
                  simpa [Array.getD_eq_getD_getElem?, Array.getElem?_append_left hlt] using this
                · exact VRep.undef _
              refine ihc func.ntmps c fn.body p4 _ (by simp; omega) _ e1 S1 he m none w G own [] _ w hin _ fun a' w' hi' => ?_
              have hb : S1.base = H.length := (sys_up _ _ _ _ _ he).1
              have fin : ∀ {r'}, finish fn.results S1 = some r' → r' = r → bodyPost P func (fun e w' => ∃ val, e = .returned val ∧ (r.2 = none → ∀ b, b < w.heap.size → w'.heap[b]? = w.heap[b]?) ∧
                  ∃ G' own', Foot G own w G' own' w' ∧ VRep G' val r.1 ∧ WOK G' own' (r.2.getD H) (fun _ => none) [] w') .normal a' w' := by
                rintro r' hfin rfl
                obtain ⟨f1, v, f2, f3, f4⟩ := finish_ok p5 hfin hi' hb hw
                exact ⟨f1, v, f2, v, rfl, f3, f4⟩
              cases e1 with
              | normal => exact fin hgo rfl
              | ret => exact fin hgo rfl
              | exit => cases hgo
              | goto => cases hgo
          · cases hgo
      unfold clStep at hev
      split at hev
      · rename_i f
        obtain ⟨h1, h2⟩ := main f vs args ha1 ha2 hev
        cases hfv with
        | p hp => cases hp; exact ⟨f, #[], #[], rfl, h1, by simpa using h2⟩
      · rename_i f first cap
        cases hfv with
        | fn _ fa ca _ _ q1 q2 q3 q4 =>
          obtain ⟨h1, h2⟩ := main f (first ++ vs ++ cap) (fa ++ args ++ ca) (by simp [q1, q2, ha1]) (fun j hj => by
            simp only [List.length_append] at hj
            rcases Nat.lt_or_ge j (first.length + vs.length) with hlt | hge
            · have e1 : (first ++ vs ++ cap)[j] = (first ++ vs)[j]'(by simpa using hlt) := List.getElem_append_left (by simpa using hlt)
              rcases Nat.lt_or_ge j first.length with hlt2 | hge2
              · have e2 : (first ++ vs)[j]'(by simpa using hlt) = first[j] := List.getElem_append_left hlt2
                rw [e1, e2]
                have := q3 j hlt2
                have h5 : j < fa.size := by omega
                simpa [Array.getD_eq_getD_getElem?, Array.getElem?_append, h5, show j < fa.size + args.size by omega] using this
              · have e2 : (first ++ vs)[j]'(by simpa using hlt) = vs[j - first.length] := List.getElem_append_right hge2
                rw [e1, e2]
                have := ha2 (j - first.length) (by omega)
                have h5 : ¬ j < fa.size := by omega
                simpa [Array.getD_eq_getD_getElem?, Array.getElem?_append, q1, show ¬ j < first.length by omega, show j - first.length < args.size by omega] using this
            · have e1 : (first ++ vs ++ cap)[j] = cap[j - (first.length + vs.length)] := by
                rw [List.getElem_append_right (by simpa using hge)]; simp
              rw [e1]
              have := q4 (j - (first.length + vs.length)) (by omega)
              simpa [Array.getD_eq_getD_getElem?, Array.getElem?_append, q1, ha1, show ¬ j < first.length by omega, show ¬ j - first.length < vs.length by omega, Nat.sub_sub] using this) hev
          exact ⟨f, fa, ca, rfl, h1, h2⟩
      · cases hev
end Go.Eng
