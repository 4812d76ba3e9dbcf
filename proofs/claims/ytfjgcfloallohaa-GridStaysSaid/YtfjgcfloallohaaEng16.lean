/- The engine, part 16: calls. -/
import Derived.Test.YtfjgcfloallohaaEng15
namespace Go.Eng
open Go

/-- The fence: none at all; in a round of a range over a function, or not. -/
abbrev Fw (ro : Option Nat) : Fence := { Fence.wide with round := ro }
theorem Fw.fn (ro : Option Nat) (f : FuncId) : (Fw ro).fn f := trivial

def calleeOwn (own : Own) (n : Nat) : Own := fun b => match own b with
  | some (.obj id) => if id < n then some (.obj id) else none
  | _ => none
def mergeOwn (own own' : Own) : Own := fun b => match own b with
  | some (.loc s) => some (.loc s)
  | _ => match own' b with
    | some (.obj id) => some (.obj id)
    | _ => none

theorem calleeOwn_some {own : Own} {n b : Nat} {k : Key} (h : calleeOwn own n b = some k) : ∃ id, k = .obj id ∧ id < n ∧ own b = some k := by
  unfold calleeOwn at h
  split at h
  · rename_i id ho
    split at h
    · cases h; exact ⟨id, rfl, by assumption, ho⟩
    · cases h
  · cases h
theorem calleeOwn_obj {own : Own} {n b id : Nat} (h : own b = some (.obj id)) (hi : id < n) : calleeOwn own n b = some (.obj id) := by simp [calleeOwn, h, hi]
theorem calleeOwn_loc {own : Own} {n b s : Nat} (h : own b = some (.loc s)) : calleeOwn own n b = none := by simp [calleeOwn, h]
theorem calleeOwn_none {own : Own} {n b : Nat} (h : own b = none) : calleeOwn own n b = none := by simp [calleeOwn, h]
theorem mergeOwn_loc {own own' : Own} {b s : Nat} (h : own b = some (.loc s)) : mergeOwn own own' b = some (.loc s) := by simp [mergeOwn, h]
theorem mergeOwn_some {own own' : Own} {b : Nat} {k : Key} (h : mergeOwn own own' b = some k) : (∃ s, k = .loc s ∧ own b = some k) ∨ (∃ id, k = .obj id ∧ own' b = some k ∧ ∀ s, own b ≠ some (.loc s)) := by
  unfold mergeOwn at h
  split at h
  · rename_i s ho; cases h; exact .inl ⟨s, rfl, ho⟩
  · rename_i ho
    split at h
    · rename_i id ho'; cases h; exact .inr ⟨id, rfl, ho', fun s => ho s⟩
    · cases h
theorem mergeOwn_obj {own own' : Own} {b id : Nat} (h : own' b = some (.obj id)) (hn : ∀ s, own b ≠ some (.loc s)) : mergeOwn own own' b = some (.obj id) := by
  unfold mergeOwn
  split
  · rename_i s ho; exact absurd ho (hn s)
  · rw [h]

section
variable {P : Program} {w w' : World} {N : Nat} {G G' : Gh} {own own' : Own} {L : Nat → Option Nat} {S : St} {a : Act} {H : Heap} {loc : List (Nat × List V)}

theorem WOK.forCall (h : WOK G own H L loc w) : WOK G (calleeOwn own H.length) H (fun _ => none) [] w where
  imm := h.imm
  dom := h.dom
  domr := h.domr
  top := h.top
  obj i o hi := (h.obj i o hi).frame (.refl G) (fun b hb => calleeOwn_obj hb (List.getElem?_eq_some_iff.1 hi).1) (fun _ _ => rfl)
  locs s cs hs := by simp at hs
  noI b o v hi := calleeOwn_none (h.noI b o v hi)
  lt b k hk := let ⟨_, _, _, ho⟩ := calleeOwn_some hk; h.lt b k ho
  ilt := h.ilt

theorem WOK.fromCall (h : WOK G own H L loc w) {H' : Heap} (hf : Foot G (calleeOwn own H.length) w G' own' w') (h' : WOK G' own' H' (fun _ => none) [] w') :
    WOK G' (mergeOwn own own') H' L loc w' where
  imm := h'.imm
  dom := h'.dom
  domr := h'.domr
  top := h'.top
  obj i o hi := (h'.obj i o hi).frame (.refl G') (fun b hb => mergeOwn_obj hb fun s hs => by
    rcases hf.news b _ hb with h1 | h1
    · rw [calleeOwn_loc hs] at h1; cases h1
    · have := h.lt b _ hs; omega) (fun _ _ => rfl)
  locs s cs hs := (h.locs s cs hs).frame hf.le rfl (fun b hb => mergeOwn_loc hb) (fun b hb => hf.same b (h.lt b _ hb) (calleeOwn_loc hb))
  noI b o v hi := by
    have h1 := h'.noI b o v hi
    cases hm : mergeOwn own own' b with
    | none => rfl
    | some k =>
      rcases mergeOwn_some hm with ⟨s, -, h2⟩ | ⟨id, -, h2, -⟩
      · rcases hf.imms b o v hi with h3 | h3
        · rw [h.noI b o v h3] at h2; cases h2
        · have := h.lt b _ h2; omega
      · rw [h1] at h2; cases h2
  lt b k hk := by
    rcases mergeOwn_some hk with ⟨s, -, h2⟩ | ⟨id, -, h2, -⟩
    · exact Nat.lt_of_lt_of_le (h.lt b _ h2) hf.size
    · exact h'.lt b _ h2
  ilt := h'.ilt

theorem Foot.fromCall {n : Nat} (hf : Foot G (calleeOwn own n) w G' own' w') : Foot G own w G' (mergeOwn own own') w' :=
  ⟨hf.le, hf.size, fun b hb ho => hf.same b hb (calleeOwn_none ho), fun b k hk => by
    rcases mergeOwn_some hk with ⟨s, -, h2⟩ | ⟨id, -, h2, -⟩
    · exact .inl h2
    · rcases hf.news b k h2 with h3 | h3
      · obtain ⟨_, _, _, h4⟩ := calleeOwn_some h3; exact .inl h4
      · exact .inr h3, hf.imms, hf.os, hf.tape, hf.output⟩

/-- What a call has written of what was there before. -/
def wrote : Option (Heap × List Nat) → List Nat
  | none => []
  | some (_, ds) => ds
def heapOf (H : Heap) : Option (Heap × List Nat) → Heap
  | none => H
  | some (H', _) => H'

/-- What a call comes to. -/
def CallR (P : Program) (w : World) (G : Gh) (own : Own) (H : Heap) (r : CR) (f : FuncId) (args : Array Value) : Prop :=
  ∀ m, CallsIn Fence.wide m P f args w fun e w' => ∃ val, e = .returned val ∧ (∀ b, b < w.heap.size → (∀ k, own b = some k → ∃ id, k = .obj id ∧ id ∉ wrote r.2) → w'.heap[b]? = w.heap[b]?) ∧
    ∃ G' own', Foot G own w G' own' w' ∧ VRep G' val r.1 ∧ WOK G' own' (heapOf H r.2) (fun _ => none) [] w'

/-- The calls that the evaluator answers are such as the program's are. -/
def ClOK (P : Program) (cl : ClT) : Prop := (∀ s o vs H, cl (.lptr s o) vs H = none) ∧ ∀ fv vs H r, cl fv vs H = some r → ∀ (G : Gh) (own : Own) (w : World) (fval : Value) (args : Array Value), VRep G fval fv → args.size = vs.length →
  (∀ j (hj : j < vs.length), VRep G (args.getD j undef) (vs[j])) → WOK G own H (fun _ => none) [] w → (∀ b k, own b = some k → ∃ id, k = .obj id ∧ id < H.length) →
  ∃ f first cap, fval = .func (.func f) first cap ∧ (∀ xs w1, (callFunc f xs).run P w1 = .ok (.enter f xs) w1) ∧ CallR P w G own H r f (first ++ args ++ cap)

end

section
variable {n : Nat} {P : Program} {o : Oper} {a : Act} {w : World} {Q : Exit → Act → World → Prop} {ro : Option Nat}
variable {N : Nat} {G : Gh} {own : Own} {L : Nat → Option Nat} {S S' : St} {next : Act → World → Prop}

theorem wpIn_call (hnd : ∀ c, o.op ≠ .defer c) {f : FuncId} {args : Array Value} (hr : (execOp a.eval o).run P w = .ok (.enter f args) w)
    (h : CallsIn Fence.wide (n - 1) P f args w fun e w' => ∃ val, e = .returned val ∧ next (a.put o.dst val) w') : o.wpIn (Fw ro) n P a w next Q := by
  refine ⟨fun f _ => trivial, ?_⟩
  rw [Oper.semAt_eq _ a.eval o hnd, hr]
  rw [Oper.uponIn_enter]
  refine ⟨fun hh => (by cases hh), ?_⟩
  have h' : CallsIn (Fw ro) (n - 1) P f args w fun e w' => ∃ val, e = .returned val ∧ next (a.put o.dst val) w' := h
  refine CallsIn.mono h' fun e w' he => ?_
  obtain ⟨val, rfl, hv⟩ := he
  exact hv

theorem call_core (h : Sim N G own L S a w) (hd : ∀ t, o.dst = some t → t < N) (hnd : ∀ c, o.op ≠ .defer c) {cl : ClT} (hcl : ClOK P cl) {pure : Bool} {fv : V} {vs : List V} {fval : Value} {args : Array Value}
    (hres : ∀ f first cap, fval = .func (.func f) first cap → (∀ xs w1, (callFunc f xs).run P w1 = .ok (.enter f xs) w1) → (execOp a.eval o).run P w = .ok (.enter f (first ++ args ++ cap)) w)
    (hfv : VRep G fval fv) (ha1 : args.size = vs.length) (ha2 : ∀ j (hj : j < vs.length), VRep G (args.getD j undef) (vs[j]))
    (hev : callR S pure o.dst (cl fv vs S.hp) = some S') (hn : ∀ a' w', Res N G own w a.defers S' a' w' → next a' w') : o.wpIn (Fw ro) n P a w next Q := by
  cases hc : cl fv vs S.hp with
  | none => rw [hc] at hev; cases hev
  | some r =>
    rw [hc] at hev
    obtain ⟨f, first, cap, hf, hcf, hcr⟩ := hcl.2 fv vs S.hp r hc G (calleeOwn own S.hp.length) w fval args hfv ha1 ha2 h.wok.forCall (fun b k hk => let ⟨id, h1, h2, _⟩ := calleeOwn_some hk; ⟨id, h1, h2⟩)
    refine wpIn_call hnd (hres f first cap hf hcf) (CallsIn.mono (hcr (n - 1)) ?_)
    rintro e w' ⟨val, rfl, hsame, G', own', hfoot, hval, hwok⟩
    refine ⟨val, rfl, hn _ _ ?_⟩
    obtain ⟨v, Hr⟩ := r
    cases Hr with
    | none =>
      have hev' : S.put o.dst v = S' := by
        simp only [callR] at hev
        split at hev
        · simpa using hev
        · cases hev
      subst hev'
      have hsim : Sim N G' (mergeOwn own own') L S a w' := h.change hfoot.le rfl (fun _ _ _ _ => rfl) (h.wok.fromCall hfoot hwok)
      exact ⟨G', _, L, hsim.put hd (.of hval), hfoot.fromCall, put_defers .., .of_same fun b hb => hsame b hb fun k hk => let ⟨id, h1, _⟩ := calleeOwn_some hk; ⟨id, h1, by simp [wrote]⟩⟩
    | some p =>
      obtain ⟨H', ds⟩ := p
      have hev' : pure = false ∧ { S with hp := H', dirty := ds.foldr (addD S.base) S.dirty }.put o.dst v = S' := by
        simp only [callR] at hev
        split at hev
        · cases hev
        · rename_i hp; exact ⟨by cases pure <;> simp_all, by simpa using hev⟩
      obtain ⟨-, rfl⟩ := hev'
      have hsim : Sim N G' (mergeOwn own own') L { S with hp := H', dirty := ds.foldr (addD S.base) S.dirty } a w' := h.change hfoot.le rfl (fun _ _ _ _ => rfl) (h.wok.fromCall hfoot hwok)
      have hkp : Kp S.base (ds.foldr (addD S.base) S.dirty) own w w' := fun b hb hb' => hsame b hb fun k hk => by
        obtain ⟨id, rfl, h2, h3⟩ := calleeOwn_some hk
        obtain ⟨id', e1, h4, h5⟩ := hb' _ h3
        cases e1
        exact ⟨id, rfl, fun hm => h5 (mem_addDs.2 (.inl ⟨hm, h4⟩))⟩
      refine ⟨G', _, L, hsim.put hd (.of hval), hfoot.fromCall, put_defers .., ?_⟩
      cases o.dst <;> exact hkp

theorem outB_noL {v : V} (h : (normA v).outB = true) : ∀ s o, v ≠ .lptr s o := by rintro s o rfl; simp [normA, V.outB] at h

theorem ins_call (h : Sim N G own L S a w) (hd : ∀ t, o.dst = some t → t < N) {f : FuncId} {as : List Arg} {pure : Bool} (hok : okIns P o.op (.call f as pure) = true)
    {cl : ClT} (hcl : ClOK P cl) (hev : evIns cl o.dst (.call f as pure) S = some S') (hn : ∀ a' w', Res N G own w a.defers S' a' w' → next a' w') : o.wpIn (Fw ro) n P a w next Q := by
  have hev' : callI cl S o.dst pure (.p (.fn f)) (as.map fun b => normA (S.arg b)) = some S' := hev
  simp only [okIns] at hok
  split at hok
  · rename_i c hop
    split at hok
    · rename_i g hcal
      simp only [Bool.and_eq_true, beq_iff_eq] at hok
      obtain ⟨rfl, h2⟩ := hok
      unfold callI at hev'
      split at hev'
      · rename_i ho
        obtain ⟨a1, a2⟩ := args_rep h h2 ho
        simp only [Array.toArray_toList] at a1 a2
        refine call_core h hd (by rw [hop]; intro c hc; cases hc) hcl (fval := .func (.func f) #[] #[]) (args := c.args.map a.eval) (fun f' first cap hh hcf => ?_) (.p (.fn f)) a1 a2 hev' hn
        cases hh
        simp [execOp, hop, resolve, hcal, Act.eval, Deferred.ofValue, invoke, hcf]
      · cases hev'
    · cases hok
  · cases hok

theorem ins_callv (h : Sim N G own L S a w) (hd : ∀ t, o.dst = some t → t < N) {x : Arg} {as : List Arg} {pure : Bool} (hok : okIns P o.op (.callv x as pure) = true)
    {cl : ClT} (hcl : ClOK P cl) (hev : evIns cl o.dst (.callv x as pure) S = some S') (hn : ∀ a' w', Res N G own w a.defers S' a' w' → next a' w') : o.wpIn (Fw ro) n P a w next Q := by
  have hev' : callI cl S o.dst pure (S.arg x) (as.map fun b => normA (S.arg b)) = some S' := hev
  simp only [okIns] at hok
  split at hok
  · rename_i c hop
    split at hok
    · rename_i y hcal
      simp only [Bool.and_eq_true] at hok
      obtain ⟨h1, h2⟩ := hok
      unfold callI at hev'
      split at hev'
      · rename_i ho
        obtain ⟨a1, a2⟩ := args_rep h h2 ho
        simp only [Array.toArray_toList] at a1 a2
        have r1 := okArg_rep h h1
        have hfv : VRep G (a.eval y) (S.arg x) ∨ ∃ s o, S.arg x = .lptr s o := by
          cases hx : S.arg x with
          | lptr s o => exact .inr ⟨s, o, rfl⟩
          | _ => rw [hx] at r1; exact .inl r1
        rcases hfv with hfv | ⟨s, o', hx⟩
        · refine call_core h hd (by rw [hop]; intro c hc; cases hc) hcl (args := c.args.map a.eval) (fun f' first cap hh hcf => ?_) hfv a1 a2 hev' hn
          simp [execOp, hop, resolve, hcal, hh, Deferred.ofValue, invoke, hcf]
        · rw [hx] at hev'
          rw [hcl.1] at hev'; cases hev'
      · cases hev'
    · cases hok
  · cases hok
end
end Go.Eng
