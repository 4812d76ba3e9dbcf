/- The engine, part 20: regions. -/
import Derived.Test.YtfjgcfloallohaaEng19
namespace Go.Eng
open Go

/-! ### What comes before what -/

def rowB (acc : Array Nat) : List Edge → Nat
  | [] => 0
  | e :: r => if Region.binds .any e = true then rowB acc r ||| 2 ^ e.on ||| acc.getD e.on 0 else rowB acc r
def predB : List Oper → Array Nat → Array Nat
  | [], acc => acc
  | o :: r, acc => predB r (acc.push (rowB acc o.after.toList))

theorem rowB_spec {acc : Array Nat} {i : Nat} : ∀ {es : List Edge}, (rowB acc es).testBit i = true → ∃ e ∈ es, Region.binds .any e = true ∧ (e.on = i ∨ (acc.getD e.on 0).testBit i = true)
  | [], h => by simp [rowB] at h
  | e :: r, h => by
    simp only [rowB] at h
    split at h
    · rename_i hb
      simp only [Nat.testBit_or, Bool.or_eq_true] at h
      rcases h with (h | h) | h
      · obtain ⟨e', h1, h2⟩ := rowB_spec h
        exact ⟨e', List.mem_cons_of_mem _ h1, h2⟩
      · rw [Nat.testBit_two_pow] at h
        exact ⟨e, List.mem_cons_self, hb, .inl (by simpa using h)⟩
      · exact ⟨e, List.mem_cons_self, hb, .inr h⟩
    · obtain ⟨e', h1, h2⟩ := rowB_spec h
      exact ⟨e', List.mem_cons_of_mem _ h1, h2⟩

theorem predB_spec {Lp : Nat → Prop} {all : List Oper} (hc : ∀ j o, all[j]? = some o → Lp j → ∀ e ∈ o.after, Region.binds .any e = true → Lp e.on) : ∀ (r : List Oper) (pre : List Oper) (acc : Array Nat), all = pre ++ r → acc.size = pre.length →
    (∀ j o, pre[j]? = some o → (∀ e ∈ o.after, Region.binds .any e = true → Lp e.on) → ∀ i, (acc.getD j 0).testBit i = true → Lp i) →
    ∀ j o, all[j]? = some o → (∀ e ∈ o.after, Region.binds .any e = true → Lp e.on) → ∀ i, ((predB r acc).getD j 0).testBit i = true → Lp i
  | [], pre, acc, he, _, ha => by
    simp only [List.append_nil] at he
    subst he
    exact ha
  | o :: r, pre, acc, he, hs, ha => by
    refine predB_spec hc r (pre ++ [o]) _ (by rw [he]; simp) (by simp [hs]) ?_
    intro j o' hj hall i hb
    rcases Nat.lt_trichotomy j pre.length with hlt | heq | hgt
    · rw [List.getElem?_append_left hlt] at hj
      have : (acc.push (rowB acc o.after.toList)).getD j 0 = acc.getD j 0 := by
        have h1 : j < acc.size := by omega
        have h2 : j ≠ acc.size := by omega
        simp [Array.getD_eq_getD_getElem?, Array.getElem?_push, h2]
      rw [this] at hb
      exact ha j o' hj hall i hb
    · subst heq
      simp at hj
      subst hj
      have : (acc.push (rowB acc o.after.toList)).getD pre.length 0 = rowB acc o.after.toList := by simp [Array.getD_eq_getD_getElem?, ← hs]
      rw [this] at hb
      obtain ⟨e, h1, h2, h3⟩ := rowB_spec hb
      have hL := hall e (by simpa using h1) h2
      rcases h3 with h3 | h3
      · rw [← h3]; exact hL
      · by_cases hlt : e.on < pre.length
        · have hx : pre[e.on]? = some pre[e.on] := List.getElem?_eq_getElem hlt
          refine ha e.on _ hx (fun e' he' hb' => hc e.on pre[e.on] ?_ hL e' he' hb') i h3
          rw [he, List.getElem?_append_left hlt]; exact hx
        · have : acc.getD e.on 0 = 0 := by
            have : acc.size ≤ e.on := by omega
            simp [Array.getD_eq_getD_getElem?, this]
          rw [this] at h3; simp at h3
    · rw [List.getElem?_eq_none (by simp; omega)] at hj; cases hj

/-- Operations that are not ordered do not touch one another. -/
def ordOK (ops : Array Oper) (gs : List GIns) : Bool :=
  let b := predB ops.toList #[]
  (ops.toList.zipIdx.all fun (o, i) => o.after.all fun e => !Region.binds .any e || decide (e.on < i)) &&
  gs.all GIns.okD &&
  gs.zipIdx.all fun (g, i) => gs.zipIdx.all fun (h, j) => !decide (j < i) || indep h g || (b.getD i 0).testBit j

def okGs (P : Program) (ops : Array Oper) (N : Nat) : List Oper → List GIns → Bool
  | [], [] => true
  | o :: r, g :: s => okG P ops N o g && okGs P ops N r s
  | _, _ => false

theorem okGs_get {P : Program} {ops : Array Oper} {N : Nat} : ∀ {os : List Oper} {gs : List GIns}, okGs P ops N os gs = true → os.length = gs.length ∧ ∀ (i : Nat) (o : Oper) (g : GIns), os[i]? = some o → gs[i]? = some g → okG P ops N o g = true
  | [], [], _ => ⟨rfl, fun i o g h => by simp at h⟩
  | o :: r, g :: s, h => by
    simp only [okGs, Bool.and_eq_true] at h
    obtain ⟨h1, h2⟩ := okGs_get h.2
    refine ⟨by simp [h1], fun i o' g' ho hg => ?_⟩
    cases i with
    | zero => simp at ho hg; subst ho; subst hg; exact h.1
    | succ i => exact h2 i o' g' (by simpa using ho) (by simpa using hg)
  | [], _ :: _, h => by simp [okGs] at h
  | _ :: _, [], h => by simp [okGs] at h

section
variable {n : Nat} {P : Program} {a : Act} {w : World} {Q : Exit → Act → World → Prop} {ro : Option Nat}
variable {N : Nat} {S S' : St} {w0 : World} {G0 : Gh} {own0 : Own} {D : List Deferred} {ops : Array Oper} {cl : ClT}

theorem InF.eqv (h : InF N w0 G0 own0 D S a w) {T : St} (he : Eqv S T) : InF N w0 G0 own0 D T a w := by
  obtain ⟨G, own, L, h1, h2, h3, h4⟩ := h
  refine ⟨G, own, L, ⟨h1.size, fun t => by rw [← he.env]; exact h1.slot t, by rw [← he.loc, ← he.hp]; exact h1.wok⟩, h2, ⟨h3.sz, by rw [← he.base]; exact h3.own, h3.old, by rw [← he.dirty]; exact h3.same⟩, h4⟩

theorem InF.drew (h : InF N w0 G0 own0 D S a w) : InF N w0 G0 own0 D S a w.drew := by
  obtain ⟨G, own, L, h1, h2, h3, h4⟩ := h
  exact ⟨G, own, L, ⟨h1.size, h1.slot, h1.wok.drew⟩, h2.trans .drew, ⟨h3.sz, h3.own, h3.old, h3.same⟩, h4⟩

/-- In the order of their numbers. -/
theorem ops_ok (hcl : ClOK P cl) {M : Nat} (hM : M ≤ N) : ∀ (gs : List GIns) (k : Nat), (∀ i g, gs[i]? = some g → ∃ o, ops[k + i]? = some o ∧ okG P ops M o g = true) → ∀ {S S' : St} {a : Act} {w : World}, InF N w0 G0 own0 D S a w → evOps cl gs S = some S' →
    (∀ a' w', InF N w0 G0 own0 D S' a' w' → Q .normal a' w') → wpOpsIn (Fw ro) n P ops Q (List.range' k gs.length) a w
  | [], k, _, S, S', a, w, hi, he, hq => by cases he; exact hq _ _ hi
  | g :: r, k, hg, S, S', a, w, hi, he, hq => by
    simp only [List.length_cons, List.range'_succ]
    rw [wpOpsIn_cons]
    simp only [evOps] at he
    cases h1 : evG cl g S with
    | none => rw [h1] at he; cases he
    | some S1 =>
      rw [h1] at he
      obtain ⟨o, ho, hok⟩ := hg 0 g rfl
      refine op_ok hM (by simpa using ho) hok hcl hi h1 fun a' w' hi' => ?_
      exact ops_ok hcl hM r (k + 1) (fun i g' hg' => by
        obtain ⟨o', ho', hok'⟩ := hg (i + 1) g' (by simpa using hg')
        exact ⟨o', by rw [← ho']; congr 1; omega, hok'⟩) hi' he hq

def Left (ops : Array Oper) (listed : Array Bool) (R : List (Nat × GIns)) : Prop := R.map (·.1) = (List.range ops.size).filter fun i => !listed.getD i true

theorem Left.front {listed : Array Bool} {A B : List (Nat × GIns)} {p : Nat × GIns} (h : Left ops listed (A ++ p :: B)) (hs : listed.size = ops.size) :
    (∀ q ∈ A, q.1 < p.1) ∧ Left ops (listed.setIfInBounds p.1 true) (A ++ B) := by
  have hp : ((List.range ops.size).filter fun i => !listed.getD i true).Pairwise (· < ·) := List.Pairwise.filter _ List.pairwise_lt_range
  unfold Left at h
  rw [← h] at hp
  simp only [List.map_append, List.map_cons] at hp h
  have hpa := (List.pairwise_append.1 hp)
  have hA : ∀ q ∈ A, q.1 < p.1 := fun q hq => hpa.2.2 q.1 (List.mem_map.2 ⟨q, hq, rfl⟩) p.1 List.mem_cons_self
  have hB : ∀ q ∈ B, p.1 < q.1 := fun q hq => (List.pairwise_cons.1 hpa.2.1).1 q.1 (List.mem_map.2 ⟨q, hq, rfl⟩)
  refine ⟨hA, ?_⟩
  unfold Left
  have hlt : p.1 < ops.size := by
    have : p.1 ∈ (List.range ops.size).filter fun i => !listed.getD i true := by rw [← h]; simp
    simpa using (List.mem_filter.1 this).1
  have e1 : ((List.range ops.size).filter fun i => !(listed.setIfInBounds p.1 true).getD i true) = ((List.range ops.size).filter fun i => !listed.getD i true).filter fun i => i != p.1 := by
    rw [List.filter_filter]
    apply List.filter_congr
    intro i hi
    have hi' : i < listed.size := by rw [hs]; simpa using hi
    by_cases e : p.1 = i
    · subst e; simp [Array.getD_eq_getD_getElem?, hi']
    · simp [Array.getD_eq_getD_getElem?, e, Ne.symm e]
  rw [e1, ← h]
  simp only [List.map_append, List.filter_append, List.filter_cons, bne_self_eq_false, Bool.false_eq_true, if_false]
  congr 1
  · symm; rw [List.filter_eq_self]
    intro x hx
    obtain ⟨q, hq, rfl⟩ := List.mem_map.1 hx
    simpa using Nat.ne_of_lt (hA q hq)
  · symm; rw [List.filter_eq_self]
    intro x hx
    obtain ⟨q, hq, rfl⟩ := List.mem_map.1 hx
    simpa using Nat.ne_of_gt (hB q hq)

/-- In whatever order the region draws. -/
theorem draw_ok (hcl : ClOK P cl) {M : Nat} (hM : M ≤ N) {gs : List GIns} (hgs : okGs P ops M ops.toList gs = true) (hord : ordOK ops gs = true) : ∀ (fuel : Nat) (R : List (Nat × GIns)) (listed : Array Bool) {S S' : St} {a : Act} {w : World},
    R.length = fuel → listed.size = ops.size → Left ops listed R → (∀ p ∈ R, gs[p.1]? = some p.2) →
    (∀ j o, ops[j]? = some o → listed.getD j false = true → ∀ e ∈ o.after, Region.binds .any e = true → listed.getD e.on false = true) →
    InF N w0 G0 own0 D S a w → evL cl R S = some S' → (∀ S'' a' w', Eqv S' S'' → InF N w0 G0 own0 D S'' a' w' → Q .normal a' w') → wpAnyIn (Fw ro) n P .any ops Q fuel listed a w := by
  obtain ⟨hlen, hget⟩ := okGs_get hgs
  simp only [ordOK, Bool.and_eq_true] at hord
  obtain ⟨⟨o1, o2⟩, o3⟩ := hord
  have back : ∀ i o, ops[i]? = some o → ∀ e ∈ o.after, Region.binds .any e = true → e.on < i := by
    intro i o ho e he hb
    have hm : (o, i) ∈ ops.toList.zipIdx := by
      rw [List.mk_mem_zipIdx_iff_getElem?]; simpa using ho
    have := List.all_eq_true.1 o1 _ hm
    simp only [Array.all_eq_true_iff_forall_mem] at this
    have := this e he
    simpa [hb] using this
  have heapy : ∀ {i : Nat} {g : GIns}, gs[i]? = some g → g.okD = true := fun {i g} hg => List.all_eq_true.1 o2 _ (List.mem_of_getElem? hg)
  intro fuel
  induction fuel with
  | zero =>
    intro R listed S S' a w hf hs hl hR hc hi he hq
    have hR0 : R = [] := List.length_eq_zero_iff.1 hf
    subst hR0
    cases he
    refine ⟨?_, hq _ _ _ (.refl _) hi⟩
    cases hr : Region.ready .any ops listed with
    | nil => rfl
    | cons i r =>
      have hm : i ∈ Region.ready .any ops listed := by rw [hr]; exact List.mem_cons_self
      obtain ⟨hu, o, ho, -⟩ := mem_ready.1 hm
      have : i ∈ (List.range ops.size).filter fun i => !listed.getD i true := List.mem_filter.2 ⟨by simpa using (Array.getElem?_eq_some_iff.1 ho).1, by simpa using hu⟩
      rw [← hl] at this; simp at this
  | succ fuel ih =>
    intro R listed S S' a w hf hs hl hR hc hi he hq
    have lead : ∀ {i j : Nat}, i < listed.size → (listed.getD i true = false ↔ ¬ listed.getD i false = true) := fun {i j} h => by simp [Array.getD_eq_getD_getElem?, h]
    refine ⟨fun h0 => ?_, fun i hir => ?_⟩
    · -- the least that is left may always come
      exfalso
      cases R with
      | nil => simp at hf
      | cons p R' =>
        have hl' := hl
        unfold Left at hl'
        have hmem : p.1 ∈ (List.range ops.size).filter fun i => !listed.getD i true := by rw [← hl']; simp
        obtain ⟨hm1, hm2⟩ := List.mem_filter.1 hmem
        have hp1 : p.1 < ops.size := by simpa using hm1
        have : p.1 ∈ Region.ready .any ops listed := by
          refine mem_ready.2 ⟨by simpa using hm2, ops[p.1], by simp [hp1], fun e he' hb => ?_⟩
          have hlt := back p.1 _ (by simp [hp1]) e he' hb
          have hlt2 : e.on < listed.size := by omega
          cases hx : listed.getD e.on false with
          | true => rfl
          | false =>
            exfalso
            have hu : listed.getD e.on true = false := (lead (j := 0) hlt2).2 (by simp [hx])
            have hin : e.on ∈ (p :: R').map (·.1) := by
              rw [hl']; exact List.mem_filter.2 ⟨by simp; omega, by simp [hu]⟩
            have hpw : ((List.range ops.size).filter fun i => !listed.getD i true).Pairwise (· < ·) := List.Pairwise.filter _ List.pairwise_lt_range
            rw [← hl'] at hpw
            simp only [List.map_cons, List.pairwise_cons] at hpw
            simp only [List.map_cons, List.mem_cons] at hin
            rcases hin with hin | hin
            · omega
            · have := hpw.1 _ hin; omega
        rw [h0] at this; cases this
    · obtain ⟨hu, o, ho, hall⟩ := mem_ready.1 hir
      have hi1 : i < ops.size := (Array.getElem?_eq_some_iff.1 ho).1
      have hin : i ∈ R.map (·.1) := by
        rw [hl]; exact List.mem_filter.2 ⟨by simpa using hi1, by simp [hu]⟩
      obtain ⟨⟨i', g⟩, hp, hpi⟩ := List.mem_map.1 hin
      simp only at hpi
      subst hpi
      obtain ⟨A, B, rfl⟩ := List.append_of_mem hp
      have hg : gs[i']? = some g := hR _ hp
      obtain ⟨hA, hl2⟩ := hl.front hs
      have hind : ∀ q ∈ A, indep q.2 g = true := by
        intro q hq'
        have hqg : gs[q.1]? = some q.2 := hR q (List.mem_append_left _ hq')
        have hm1 : (g, i') ∈ gs.zipIdx := by rw [List.mk_mem_zipIdx_iff_getElem?]; exact hg
        have hm2 : (q.2, q.1) ∈ gs.zipIdx := by rw [List.mk_mem_zipIdx_iff_getElem?]; exact hqg
        have := List.all_eq_true.1 (List.all_eq_true.1 o3 _ hm1) _ hm2
        simp only [Bool.or_eq_true, Bool.not_eq_true', decide_eq_false_iff_not] at this
        rcases this with (h1 | h1) | h1
        · exact absurd (hA q hq') h1
        · exact h1
        · exfalso
          have hL := predB_spec (Lp := fun j => listed.getD j false = true) (all := ops.toList) (fun j o' hj hLj e he' hb => hc j o' (by simpa using hj) hLj e he' hb) ops.toList [] #[] rfl rfl
            (fun j o' hj => by simp at hj) i' o (by simpa using ho) hall q.1 h1
          have hq1 : q.1 ∈ (List.range ops.size).filter fun i => !listed.getD i true := by
            rw [← hl]; exact List.mem_map.2 ⟨q, List.mem_append_left _ hq', rfl⟩
          have hq2 := (List.mem_filter.1 hq1)
          have : q.1 < listed.size := by rw [hs]; simpa using hq2.1
          have h3 : listed.getD q.1 true = false := by simpa using hq2.2
          exact (lead (j := 0) this).1 h3 hL
      obtain ⟨S1, S'', e1, e2, e3⟩ := evL_front (p := (i', g)) (fun q hq' => heapy (hR q hq')) hind he
      refine op_ok hM ho (hget i' o g (by simpa using ho) hg) hcl hi e1 fun a' w' hi' => ?_
      refine ih (A ++ B) _ (by simp at hf ⊢; omega) (by simpa using hs) hl2 (fun q hq' => hR q (by
        rcases List.mem_append.1 hq' with h | h
        · exact List.mem_append_left _ h
        · exact List.mem_append_right _ (List.mem_cons_of_mem _ h))) ?_ hi' e2 (fun S3 a3 w3 h3 h4 => hq S3 a3 w3 (e3.trans h3) h4)
      intro j oj hj hjl e he' hb
      have keep : ∀ k, listed.getD k false = true → (listed.setIfInBounds i' true).getD k false = true := fun k hk => by
        by_cases e : i' = k
        · subst e; have : i' < listed.size := by omega
          simp [Array.getD_eq_getD_getElem?, this]
        · simpa [Array.getD_eq_getD_getElem?, Array.getElem?_setIfInBounds, e] using hk
      by_cases e : i' = j
      · subst e
        rw [ho] at hj; cases hj
        exact keep _ (hall _ he' hb)
      · refine keep _ (hc j oj hj ?_ _ he' hb)
        simpa [Array.getD_eq_getD_getElem?, Array.getElem?_setIfInBounds, e] using hjl
end
end Go.Eng
