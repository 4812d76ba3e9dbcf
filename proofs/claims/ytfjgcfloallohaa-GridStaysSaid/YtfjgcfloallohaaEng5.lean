/- The engine, part 5: how the standing of memory is kept by each change. -/
import Derived.Test.YtfjgcfloallohaaEng4
namespace Go.Eng
open Go

theorem ObjOK.frame {G G' : Gh} {own own' : Own} {w w' : World} {id : Nat} {o : DObj} (h : ObjOK G own w id o) (hle : G.Le G')
    (hown : ∀ b, own b = some (.obj id) → own' b = some (.obj id)) (hb : ∀ b, own b = some (.obj id) → w'.heap[b]? = w.heap[b]?) : ObjOK G' own' w' id o := by
  cases o with
  | dead => trivial
  | box cs =>
    obtain ⟨b, c, h1, h2, ⟨e, h3⟩, h4, h5⟩ := h
    exact ⟨b, c, hle.blk _ _ h1, hown b h2, ⟨e, by rw [hb b h2]; exact h3⟩, h4, h5.mono hle⟩
  | row s es =>
    rcases h with ⟨h1, h2⟩ | ⟨b, cap, c, h1, h2, ⟨e, h3⟩, h4, h5, h6, h7, h8⟩
    · exact .inl ⟨h1, hle.rows _ _ _ h2⟩
    · exact .inr ⟨b, cap, c, hle.rows _ _ _ h1, hown b h2, ⟨e, by rw [hb b h2]; exact h3⟩, h4, h5, h6, fun i j hi hj => (h7 i j hi hj).mono hle, h8⟩

theorem LocOK.frame {G G' : Gh} {own own' : Own} {L L' : Nat → Option Nat} {w w' : World} {s : Nat} {cs : List V} (h : LocOK G own L w s cs) (hle : G.Le G')
    (hL : L' s = L s) (hown : ∀ b, own b = some (.loc s) → own' b = some (.loc s)) (hb : ∀ b, own b = some (.loc s) → w'.heap[b]? = w.heap[b]?) : LocOK G' own' L' w' s cs := by
  rcases h with h | ⟨b, c, h1, h2, ⟨e, h3⟩, h4, h5⟩
  · exact .inl h
  · exact .inr ⟨b, c, hL.trans h1, hown b h2, ⟨e, by rw [hb b h2]; exact h3⟩, h4, h5.mono hle⟩

theorem cell_of_block {w w' : World} {b : Nat} (h : w'.heap[b]? = w.heap[b]?) (o : Nat) : w'.cell? ⟨b, o, none⟩ = w.cell? ⟨b, o, none⟩ := World.cell?_of_block (a := ⟨b, o, none⟩) h

theorem BlockIs.lt {w : World} {b : Nat} {c : Array Value} (h : BlockIs w b c) : b < w.heap.size := let ⟨_, h⟩ := h; (Array.getElem?_eq_some_iff.1 h).1

section
variable {G : Gh} {own : Own} {H : Heap} {L : Nat → Option Nat} {loc : List (Nat × List V)} {w : World}

/-- Nothing that counts has turned. -/
theorem WOK.frame (h : WOK G own H L loc w) {w' : World} (hs : w.heap.size ≤ w'.heap.size) (hb : ∀ b, b < w.heap.size → w'.heap[b]? = w.heap[b]?) : WOK G own H L loc w' where
  imm b o v hi := by rw [cell_of_block (hb b (h.ilt b o v hi))]; exact h.imm b o v hi
  dom := h.dom
  domr := h.domr
  top := h.top
  obj i o hi := (h.obj i o hi).frame (.refl G) (fun _ x => x) (fun b x => hb b (h.lt b _ x))
  locs s cs hc := (h.locs s cs hc).frame (.refl G) rfl (fun _ x => x) (fun b x => hb b (h.lt b _ x))
  noI := h.noI
  lt b k x := Nat.lt_of_lt_of_le (h.lt b k x) hs
  ilt b o v x := Nat.lt_of_lt_of_le (h.ilt b o v x) hs

theorem Foot.frame {w' : World} (hs : w.heap.size ≤ w'.heap.size) (hb : ∀ b, b < w.heap.size → w'.heap[b]? = w.heap[b]?) (h1 : w'.os = w.os) (h2 : w'.tape = w.tape) (h3 : w'.output = w.output) :
    Foot G own w G own w' := ⟨.refl G, hs, fun b hb' _ => hb b hb', fun _ _ x => .inl x, fun _ _ _ x => .inl x, h1, h2, h3⟩

theorem heap_push_lt (w : World) (o : Obj) (b : Nat) (h : b < w.heap.size) : (w.alloc o).heap[b]? = w.heap[b]? := Go.RowKit.Below.heap_alloc w o b h

theorem WOK.alloc (h : WOK G own H L loc w) (o : Obj) : WOK G own H L loc (w.alloc o) := h.frame (by simp) (fun b hb => heap_push_lt w o b hb)
theorem Foot.alloc (o : Obj) : Foot G own w G own (w.alloc o) := .frame (by simp) (fun b hb => heap_push_lt w o b hb) rfl rfl rfl
theorem WOK.drew (h : WOK G own H L loc w) : WOK G own H L loc w.drew := h.frame (Nat.le_refl _) (fun _ _ => rfl)
theorem Foot.drew : Foot G own w G own w.drew := .frame (Nat.le_refl _) (fun _ _ => rfl) rfl rfl rfl

def upd {α : Type} (f : Nat → Option α) (n : Nat) (v : α) : Nat → Option α := fun i => if i = n then some v else f i
theorem upd_same {α : Type} (f : Nat → Option α) (n : Nat) (v : α) : upd f n v n = some v := by simp [upd]
theorem upd_ne {α : Type} (f : Nat → Option α) {n i : Nat} (v : α) (h : i ≠ n) : upd f n v i = f i := by simp [upd, h]

/-- New cells that hold for good. -/
def Gh.withI (G : Gh) (b : Nat) (c : Array Value) : Gh := { G with I := fun b' o v => G.I b' o v ∨ (b' = b ∧ c[o]? = some v) }
theorem Gh.le_withI (G : Gh) (b : Nat) (c : Array Value) : G.Le (G.withI b c) := ⟨fun _ _ _ h => .inl h, fun _ _ h => h, fun _ _ _ h => h⟩

theorem BlockIs.cell {w : World} {b : Nat} {c : Array Value} (h : BlockIs w b c) (o : Nat) : w.cell? ⟨b, o, none⟩ = c[o]? := by
  obtain ⟨e, h⟩ := h; exact cell_of_row w b o c e (0, 0) h

theorem blockIs_alloc (w : World) (c : Array Value) (e : TypeId) : BlockIs (w.alloc (.cells c e)) w.heap.size c := ⟨e, heap_alloc_new w _⟩

/-- A block that nobody owns becomes one whose cells hold for good. -/
theorem WOK.withI (h : WOK G own H L loc w) {b : Nat} {c : Array Value} (hb : BlockIs w b c) (ho : own b = none) : WOK (G.withI b c) own H L loc w where
  imm b' o v hi := by
    rcases hi with hi | ⟨rfl, hi⟩
    · exact h.imm b' o v hi
    · rw [hb.cell]; exact hi
  dom := h.dom
  domr := h.domr
  top := h.top
  obj i o hi := (h.obj i o hi).frame (G.le_withI b c) (fun _ x => x) (fun _ _ => rfl)
  locs s cs hc := (h.locs s cs hc).frame (G.le_withI b c) rfl (fun _ x => x) (fun _ _ => rfl)
  noI b' o v hi := by
    rcases hi with hi | ⟨rfl, _⟩
    · exact h.noI b' o v hi
    · exact ho
  lt := h.lt
  ilt b' o v hi := by
    rcases hi with hi | ⟨rfl, _⟩
    · exact h.ilt b' o v hi
    · exact hb.lt

/-- A new block whose cells hold for good (a literal of a slice). -/
theorem WOK.allocI (h : WOK G own H L loc w) (c : Array Value) (e : TypeId) : WOK (G.withI w.heap.size c) own H L loc (w.alloc (.cells c e)) :=
  (h.alloc _).withI (blockIs_alloc w c e) (by
    cases hx : own w.heap.size with
    | none => rfl
    | some k => exact absurd (h.lt _ _ hx) (Nat.lt_irrefl _))
theorem Foot.allocI (c : Array Value) (e : TypeId) : Foot G own w (G.withI w.heap.size c) own (w.alloc (.cells c e)) :=
  ⟨G.le_withI _ _, by simp, fun b hb _ => heap_push_lt w _ b hb, fun _ _ x => .inl x, fun b o v hi => by
    rcases hi with hi | ⟨rfl, _⟩
    · exact .inl hi
    · exact .inr (Nat.le_refl _), rfl, rfl, rfl⟩

def Gh.withBox (G : Gh) (id b : Nat) : Gh := { G with blk := upd G.blk id b }
def Gh.withRow (G : Gh) (id t : Nat) (r : RI) : Gh := { G with rows := fun i n => if i = id ∧ n = t then some r else G.rows i n }

theorem Gh.le_withBox {G : Gh} {id b : Nat} (h : G.blk id = none) : G.Le (G.withBox id b) :=
  ⟨fun _ _ _ h => h, fun i x hx => by
    have : i ≠ id := fun e => by subst e; rw [h] at hx; cases hx
    simp only [Gh.withBox]; rw [upd_ne _ _ this]; exact hx, fun _ _ _ h => h⟩
theorem Gh.le_withRow {G : Gh} {id t : Nat} {r : RI} (h : G.rows id t = none) : G.Le (G.withRow id t r) :=
  ⟨fun _ _ _ h => h, fun _ _ h => h, fun i n x hx => by
    simp only [Gh.withRow]
    rw [if_neg]
    · exact hx
    · rintro ⟨rfl, rfl⟩; rw [h] at hx; cases hx⟩

theorem WOK.blk_new (h : WOK G own H L loc w) : G.blk H.length = none := by
  cases hx : G.blk H.length with
  | none => rfl
  | some b => exact absurd (h.dom _ _ hx) (Nat.lt_irrefl _)
theorem WOK.row_new (h : WOK G own H L loc w) (t : Nat) : G.rows H.length t = none := by
  cases hx : G.rows H.length t with
  | none => rfl
  | some b => exact absurd (h.domr _ _ _ hx) (Nat.lt_irrefl _)
theorem WOK.own_new (h : WOK G own H L loc w) (b : Nat) (hb : w.heap.size ≤ b) : own b = none := by
  cases hx : own b with
  | none => rfl
  | some k => exact absurd (h.lt _ _ hx) (by omega)

theorem get_snoc {α : Type} {l : List α} {x : α} {i : Nat} {y : α} (h : (l ++ [x])[i]? = some y) : l[i]? = some y ∨ (i = l.length ∧ y = x) := by
  rcases Nat.lt_trichotomy i l.length with hi | hi | hi
  · rw [List.getElem?_append_left hi] at h; exact .inl h
  · subst hi; simp at h; exact .inr ⟨rfl, h.symm⟩
  · rw [List.getElem?_eq_none (by simp; omega)] at h; cases h

/-- Ownership of one more block. -/
theorem own_upd_keep (h : WOK G own H L loc w) (k : Key) (b : Nat) (hb : w.heap.size ≤ b) (b' : Nat) (k' : Key) (hk : own b' = some k') : upd own b k b' = some k' := by
  have : b' ≠ b := fun e => by subst e; have := h.lt _ _ hk; omega
  rw [upd_ne _ _ this]; exact hk

/-- A new block for an object, new or not. -/
theorem WOK.newOwn (h : WOK G own H L loc w) (id : Nat) (H' : Heap) (G' : Gh) (c : Array Value) (e : TypeId) (hle : G.Le G') (hI : G'.I = G.I)
    (hdom : ∀ i b, G'.blk i = some b → i < H'.length) (hdomr : ∀ i t r, G'.rows i t = some r → i < H'.length)
    (htop : ∀ i s es, H'[i]? = some (.row s es) → ∀ t r, G'.rows i t = some r → t ≤ es.length)
    (ho : ∀ i o, H'[i]? = some o → H[i]? = some o ∨ ObjOK G' (upd own w.heap.size (.obj id)) (w.alloc (.cells c e)) i o) :
    WOK G' (upd own w.heap.size (.obj id)) H' L loc (w.alloc (.cells c e)) where
  imm b o' v hi := by
    rw [hI] at hi
    rw [cell_of_block (heap_push_lt w _ b (h.ilt b o' v hi))]; exact h.imm b o' v hi
  dom := hdom
  domr := hdomr
  top := htop
  obj i o' hi := by
    rcases ho i o' hi with hi | hi
    · exact (h.obj i o' hi).frame hle (fun b hb => own_upd_keep h _ _ (Nat.le_refl _) _ _ hb) (fun b hb => heap_push_lt w _ b (h.lt b _ hb))
    · exact hi
  locs s cs hc := (h.locs s cs hc).frame hle rfl (fun b hb => own_upd_keep h _ _ (Nat.le_refl _) _ _ hb) (fun b hb => heap_push_lt w _ b (h.lt b _ hb))
  noI b o' v hi := by
    rw [hI] at hi
    rw [upd_ne _ _ (Nat.ne_of_lt (h.ilt b o' v hi))]; exact h.noI b o' v hi
  lt b k hb := by
    by_cases e' : b = w.heap.size
    · subst e'; simp
    · rw [upd_ne _ _ e'] at hb; have := h.lt b k hb; simp; omega
  ilt b o' v hi := by rw [hI] at hi; have := h.ilt b o' v hi; simp; omega

/-- A new object, in a new block. -/
theorem WOK.newObj (h : WOK G own H L loc w) (o : DObj) (G' : Gh) (c : Array Value) (e : TypeId) (hle : G.Le G') (hI : G'.I = G.I)
    (hdom : ∀ i b, G'.blk i = some b → i < H.length + 1) (hdomr : ∀ i t r, G'.rows i t = some r → i < H.length + 1)
    (htop : ∀ i t r, i < H.length → G'.rows i t = some r → G.rows i t = some r) (htop' : ∀ s es, o = .row s es → ∀ t r, G'.rows H.length t = some r → t ≤ es.length)
    (ho : ObjOK G' (upd own w.heap.size (.obj H.length)) (w.alloc (.cells c e)) H.length o) :
    WOK G' (upd own w.heap.size (.obj H.length)) (H ++ [o]) L loc (w.alloc (.cells c e)) := by
  refine h.newOwn _ _ G' c e hle hI (by simpa using hdom) (by simpa using hdomr) ?_ ?_
  · intro i s es hi t r hr
    rcases get_snoc hi with hi2 | ⟨rfl, hi2⟩
    · exact h.top i s es hi2 t r (htop i t r (List.getElem?_eq_some_iff.1 hi2).1 hr)
    · exact htop' s es hi2.symm t r hr
  · intro i o' hi
    rcases get_snoc hi with hi | ⟨rfl, rfl⟩
    · exact .inl hi
    · exact .inr ho

theorem Foot.newOwn (k : Key) (G' : Gh) (c : Array Value) (e : TypeId) (hle : G.Le G') (hI : G'.I = G.I) :
    Foot G own w G' (upd own w.heap.size k) (w.alloc (.cells c e)) :=
  ⟨hle, by simp, fun b hb _ => heap_push_lt w _ b hb, fun b k' hb => by
    by_cases e' : b = w.heap.size
    · exact .inr (by omega)
    · rw [upd_ne _ _ e'] at hb; exact .inl hb, fun b o v hi => by rw [hI] at hi; exact .inl hi, rfl, rfl, rfl⟩

/-- A new local box. -/
theorem WOK.newLoc (h : WOK G own H L loc w) (s : Nat) (cs : List V) (c : Array Value) (e : TypeId) (hc : c.size = cs.length) (hr : CRep G (fun j => c.getD j undef) cs) :
    WOK G (upd own w.heap.size (.loc s)) H (upd L s w.heap.size) (setL loc s cs) (w.alloc (.cells c e)) where
  imm b o' v hi := by
    rw [cell_of_block (heap_push_lt w _ b (h.ilt b o' v hi))]; exact h.imm b o' v hi
  dom := h.dom
  domr := h.domr
  top := h.top
  obj i o' hi := (h.obj i o' hi).frame (.refl G) (fun b hb => own_upd_keep h _ _ (Nat.le_refl _) _ _ hb) (fun b hb => heap_push_lt w _ b (h.lt b _ hb))
  locs s' cs' hs' := by
    by_cases e' : s' = s
    · subst e'
      have : getL (setL loc s' cs) s' = some cs := by
        clear h hr hs' hc
        induction loc with
        | nil => simp
        | cons x r ih => obtain ⟨k, u⟩ := x; simp only [setL_cons]; split <;> simp_all
      rw [this] at hs'; cases hs'
      exact .inr ⟨w.heap.size, c, upd_same .., upd_same .., blockIs_alloc w c e, hc, hr⟩
    · have : getL (setL loc s cs) s' = getL loc s' := by
        clear h hr hs' hc
        induction loc with
        | nil => simp [Ne.symm e']
        | cons x r ih => obtain ⟨k, u⟩ := x; simp only [setL_cons]; split <;> simp_all [Ne.symm e']
      rw [this] at hs'
      exact (h.locs s' cs' hs').frame (.refl G) (upd_ne _ _ e') (fun b hb => own_upd_keep h _ _ (Nat.le_refl _) _ _ hb) (fun b hb => heap_push_lt w _ b (h.lt b _ hb))
  noI b o' v hi := by rw [upd_ne _ _ (Nat.ne_of_lt (h.ilt b o' v hi))]; exact h.noI b o' v hi
  lt b k hb := by
    by_cases e' : b = w.heap.size
    · subst e'; simp
    · rw [upd_ne _ _ e'] at hb; have := h.lt b k hb; simp; omega
  ilt b o' v hi := by have := h.ilt b o' v hi; simp; omega

theorem getL_setL_same (loc : List (Nat × List V)) (s : Nat) (cs : List V) : getL (setL loc s cs) s = some cs := by
  induction loc with
  | nil => simp
  | cons x r ih => obtain ⟨k, u⟩ := x; simp only [setL_cons]; split <;> simp_all
theorem getL_setL_ne (loc : List (Nat × List V)) {s s' : Nat} (h : s' ≠ s) (cs : List V) : getL (setL loc s cs) s' = getL loc s' := by
  induction loc with
  | nil => simp [Ne.symm h]
  | cons x r ih => obtain ⟨k, u⟩ := x; simp only [setL_cons]; split <;> simp_all [Ne.symm h]

theorem setRow_size (w : World) (g : Nat) (cs : Array Value) : (w.setRow g cs).heap.size = w.heap.size := size_setRow w g cs
theorem blockIs_setRow {w : World} {b : Nat} {c : Array Value} (h : BlockIs w b c) (c' : Array Value) : BlockIs (w.setRow b c') b c' := by
  obtain ⟨e, h⟩ := h; exact ⟨e, setRow_heap w b c c' e (0, 0) h⟩

/-- An owned block is written. -/
theorem WOK.write (h : WOK G own H L loc w) {b : Nat} {k : Key} (hk : own b = some k) (c' : Array Value) (G' : Gh) (hle : G.Le G') (hI : G'.I = G.I)
    (H' : Heap) (loc' : List (Nat × List V)) (hlen : H'.length = H.length)
    (hdom : ∀ i b, G'.blk i = some b → i < H.length) (hdomr : ∀ i t r, G'.rows i t = some r → i < H.length)
    (htop : ∀ i s es, H'[i]? = some (.row s es) → ∀ t r, G'.rows i t = some r → t ≤ es.length)
    (hobj : ∀ i o, H'[i]? = some o → (H[i]? = some o ∧ k ≠ .obj i) ∨ ObjOK G' own (w.setRow b c') i o)
    (hloc : ∀ s cs, getL loc' s = some cs → (getL loc s = some cs ∧ k ≠ .loc s) ∨ LocOK G' own L (w.setRow b c') s cs) :
    WOK G' own H' L loc' (w.setRow b c') where
  imm b' o v hi := by
    rw [hI] at hi
    have hne : b' ≠ b := fun e => by subst e; have := h.noI _ _ _ hi; rw [hk] at this; cases this
    rw [cell_of_block (setRow_other w b b' c' hne)]; exact h.imm b' o v hi
  dom i b hb := by rw [hlen]; exact hdom i b hb
  domr i t r hr := by rw [hlen]; exact hdomr i t r hr
  top := htop
  obj i o hi := by
    rcases hobj i o hi with ⟨h1, h2⟩ | h1
    · refine (h.obj i o h1).frame hle (fun _ x => x) (fun b' hb' => setRow_other w b b' c' ?_)
      rintro rfl; rw [hk] at hb'; exact h2 (by injection hb')
    · exact h1
  locs s cs hs := by
    rcases hloc s cs hs with ⟨h1, h2⟩ | h1
    · refine (h.locs s cs h1).frame hle rfl (fun _ x => x) (fun b' hb' => setRow_other w b b' c' ?_)
      rintro rfl; rw [hk] at hb'; exact h2 (by injection hb')
    · exact h1
  noI b' o v hi := by rw [hI] at hi; exact h.noI b' o v hi
  lt b' k' hb := by rw [setRow_size]; exact h.lt b' k' hb
  ilt b' o v hi := by rw [hI] at hi; rw [setRow_size]; exact h.ilt b' o v hi

theorem Foot.write {b : Nat} {k : Key} (hk : own b = some k) (c' : Array Value) (G' : Gh) (hle : G.Le G') (hI : G'.I = G.I) : Foot G own w G' own (w.setRow b c') :=
  ⟨hle, by rw [setRow_size]; exact Nat.le_refl _, fun b' _ ho => setRow_other w b b' c' (fun e => by subst e; rw [hk] at ho; cases ho), fun _ _ x => .inl x, fun _ _ _ hi => by rw [hI] at hi; exact .inl hi, rfl, rfl, rfl⟩

theorem Kp.alloc {base : Nat} {d : List Nat} {w1 : World} (hw : w1.heap = w.heap) (o : Obj) : Kp base d own w (w1.alloc o) := .of_same fun b hb => by
  rw [heap_push_lt w1 o b (by rw [hw]; exact hb), hw]
theorem Kp.write {base : Nat} {d : List Nat} {b : Nat} {k : Key} (hk : own b = some k) (hn : ∀ id, k = .obj id → id < base → id ∈ d) (c : Array Value) : Kp base d own w (w.setRow b c) := fun b' _ ho => by
  by_cases e : b' = b
  · subst e
    obtain ⟨id, h1, h2, h3⟩ := ho k hk
    exact absurd (hn id h1 h2) h3
  · exact setRow_other w b b' c e
end

end Go.Eng
