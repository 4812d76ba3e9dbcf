/- The engine, part 4: what a value of the engine stands for in the model's memory. -/
import Derived.Test.YtfjgcfloallohaaEng3
namespace Go.Eng
open Go

/-- Where a row lies: nowhere as yet (nil), or at the head of a block. -/
inductive RI where
  | nil
  | at (b s cap : Nat)

/-- What is known of memory, and does not turn any more: cells that hold a value for good; the blocks of boxes; where rows have lain at each of their lengths. -/
structure Gh where
  I : Nat → Nat → Value → Prop
  blk : Nat → Option Nat
  rows : Nat → Nat → Option RI

structure Gh.Le (G G' : Gh) : Prop where
  I : ∀ b o v, G.I b o v → G'.I b o v
  blk : ∀ i b, G.blk i = some b → G'.blk i = some b
  rows : ∀ i t r, G.rows i t = some r → G'.rows i t = some r

theorem Gh.Le.refl (G : Gh) : G.Le G := ⟨fun _ _ _ h => h, fun _ _ h => h, fun _ _ _ h => h⟩
theorem Gh.Le.trans {A B C : Gh} (h : A.Le B) (k : B.Le C) : A.Le C := ⟨fun _ _ _ x => k.I _ _ _ (h.I _ _ _ x), fun _ _ x => k.blk _ _ (h.blk _ _ x), fun _ _ _ x => k.rows _ _ _ (h.rows _ _ _ x)⟩

inductive PRep (I : Nat → Nat → Value → Prop) : Value → PV → Prop where
  | int (k : IntKind) (n : Int) : PRep I (.int k n) (.int k n)
  | bool (b : Bool) : PRep I (.bool b) (.bool b)
  | str (s : ByteArray) : PRep I (.string s) (.str s)
  | nilp : PRep I (.pointer none) .nilp
  | nilf : PRep I .nilFunc .nilf
  | fn (f : FuncId) : PRep I (.func (.func f) #[] #[]) (.fn f)
  | sl0 (a : Option Addr) (cap : Nat) : PRep I (.slice a 0 cap) (.sl [])
  | sl (b off cap s : Nat) (es : List (List PV)) (c : Nat → Nat → Value) (hn : 0 < es.length) (hc : es.length ≤ cap)
      (hs : ∀ i (h : i < es.length), (es[i]).length = s)
      (hI : ∀ i j, i < es.length → j < s → I b (off + i * s + j) (c i j))
      (hR : ∀ i j (hi : i < es.length) (hj : j < (es[i]).length), PRep I (c i j) ((es[i])[j])) :
      PRep I (.slice (some ⟨b, off, none⟩) es.length cap) (.sl es)

theorem PRep.mono {I I' : Nat → Nat → Value → Prop} (h : ∀ b o v, I b o v → I' b o v) {v : Value} {x : PV} (r : PRep I v x) : PRep I' v x := by
  induction r with
  | int k n => exact .int k n
  | bool b => exact .bool b
  | str s => exact .str s
  | nilp => exact .nilp
  | nilf => exact .nilf
  | fn f => exact .fn f
  | sl0 a c => exact .sl0 a c
  | sl b off cap s es c hn hc hs hI _ ih => exact .sl b off cap s es c hn hc hs (fun i j hi hj => h _ _ _ (hI i j hi hj)) ih

inductive VRep (G : Gh) : Value → V → Prop where
  | p {v : Value} {x : PV} (h : PRep G.I v x) : VRep G v (.p x)
  | agg (cs : Array Value) (xs : List V) (hs : cs.size = xs.length) (h : ∀ j (hj : j < xs.length), VRep G (cs.getD j undef) (xs[j])) : VRep G (.agg cs) (.agg xs)
  | tup (cs : Array Value) (xs : List V) (hs : cs.size = xs.length) (h : ∀ j (hj : j < xs.length), VRep G (cs.getD j undef) (xs[j])) : VRep G (.tuple cs) (.tup xs)
  | nils (a : Option Addr) : VRep G (.slice a 0 0) .nils
  | rown (id : Nat) (h : G.rows id 0 = some .nil) : VRep G (.slice none 0 0) (.row id 0 0 0)
  | row (id tot off len b s cap : Nat) (h : G.rows id tot = some (.at b s cap)) (h1 : off + len ≤ tot) (h2 : tot ≤ cap) : VRep G (.slice (some ⟨b, off * s, none⟩) len (cap - off)) (.row id tot off len)
  | rowz (id tot off : Nat) (h : 0 < off) (a : Option Addr) (cap : Nat) : VRep G (.slice a 0 cap) (.row id tot off 0)
  | bvs (id off len s b cap : Nat) (h : G.blk id = some b) (hc : len ≤ cap) (hl : 0 < len) : VRep G (.slice (some ⟨b, off, none⟩) len cap) (.bvs id off len s)
  | vsl0 (a : Option Addr) (cap : Nat) : VRep G (.slice a 0 cap) (.vsl [])
  | vsl (b off cap s : Nat) (es : List (List V)) (c : Nat → Nat → Value) (hn : 0 < es.length) (hc : es.length ≤ cap)
      (hs : ∀ i (h : i < es.length), (es[i]).length = s)
      (hI : ∀ i j, i < es.length → j < s → G.I b (off + i * s + j) (c i j))
      (hR : ∀ i j (hi : i < es.length) (hj : j < (es[i]).length), VRep G (c i j) ((es[i])[j])) :
      VRep G (.slice (some ⟨b, off, none⟩) es.length cap) (.vsl es)
  | ptr (id off b : Nat) (h : G.blk id = some b) : VRep G (.pointer (some ⟨b, off, none⟩)) (.ptr id off)
  | rptr (id tot i j b s cap : Nat) (h : G.rows id tot = some (.at b s cap)) : VRep G (.pointer (some ⟨b, i * s + j, none⟩)) (.rptr id tot i j)
  | eptr (b base off : Nat) (cs : List V) (c : Nat → Value) (hI : ∀ j, j < cs.length → G.I b (base + j) (c j)) (hR : ∀ j (hj : j < cs.length), VRep G (c j) (cs[j])) :
      VRep G (.pointer (some ⟨b, base + off, none⟩)) (.eptr cs off)
  | fn (f : Fn) (fa ca : Array Value) (xs ys : List V) (h1 : fa.size = xs.length) (h2 : ca.size = ys.length)
      (h3 : ∀ j (hj : j < xs.length), VRep G (fa.getD j undef) (xs[j])) (h4 : ∀ j (hj : j < ys.length), VRep G (ca.getD j undef) (ys[j])) : VRep G (.func f fa ca) (.fn f xs ys)
  | mtn (cap : Nat) : VRep G (.slice none 0 cap) (.mt true)
  | mts (ad : Addr) (cap : Nat) : VRep G (.slice (some ad) 0 cap) (.mt false)
  | undef (v : Value) : VRep G v .undef

theorem VRep.mono {G G' : Gh} (h : G.Le G') {v : Value} {x : V} (r : VRep G v x) : VRep G' v x := by
  induction r with
  | p h' => exact .p (h'.mono h.I)
  | agg cs xs hs _ ih => exact .agg cs xs hs ih
  | tup cs xs hs _ ih => exact .tup cs xs hs ih
  | nils a => exact .nils a
  | rown id h' => exact .rown id (h.rows _ _ _ h')
  | row id tot off len b s cap h' h1 h2 => exact .row id tot off len b s cap (h.rows _ _ _ h') h1 h2
  | rowz id tot off h' a cap => exact .rowz id tot off h' a cap
  | bvs id off len s b cap h' hc hl => exact .bvs id off len s b cap (h.blk _ _ h') hc hl
  | vsl0 a cap => exact .vsl0 a cap
  | vsl b off cap s es c hn hc hs hI _ ih => exact .vsl b off cap s es c hn hc hs (fun i j hi hj => h.I _ _ _ (hI i j hi hj)) ih
  | ptr id off b h' => exact .ptr id off b (h.blk _ _ h')
  | rptr id tot i j b s cap h' => exact .rptr id tot i j b s cap (h.rows _ _ _ h')
  | eptr b base off cs c hI _ ih => exact .eptr b base off cs c (fun j hj => h.I _ _ _ (hI j hj)) ih
  | fn f fa ca xs ys h1 h2 _ _ ih3 ih4 => exact .fn f fa ca xs ys h1 h2 ih3 ih4
  | mtn c => exact .mtn c
  | mts ad c => exact .mts ad c
  | undef v => exact .undef v

/-- A list of cells, by place. -/
def CRep (G : Gh) (c : Nat → Value) (xs : List V) : Prop := ∀ j (hj : j < xs.length), VRep G (c j) (xs[j])
theorem CRep.mono {G G' : Gh} (h : G.Le G') {c : Nat → Value} {xs : List V} (r : CRep G c xs) : CRep G' c xs := fun j hj => (r j hj).mono h

inductive Key where
  | obj (id : Nat)
  | loc (s : Nat)

abbrev Own := Nat → Option Key

/-- A block of cells that nothing is frozen in. -/
def BlockIs (w : World) (b : Nat) (c : Array Value) : Prop := ∃ e, w.heap[b]? = some (.cells c e (0, 0))

def ObjOK (G : Gh) (own : Own) (w : World) (id : Nat) : DObj → Prop
  | .box cs => ∃ b c, G.blk id = some b ∧ own b = some (.obj id) ∧ BlockIs w b c ∧ c.size = cs.length ∧ CRep G (fun j => c.getD j undef) cs
  | .row s es => (es = [] ∧ G.rows id 0 = some .nil) ∨
      ∃ b cap c, G.rows id es.length = some (.at b s cap) ∧ own b = some (.obj id) ∧ BlockIs w b c ∧ c.size = cap * s ∧ es.length ≤ cap ∧
        (∀ i (hi : i < es.length), (es[i]).length = s) ∧ (∀ i j (hi : i < es.length) (hj : j < (es[i]).length), VRep G (c.getD (i * s + j) undef) ((es[i])[j])) ∧ ∀ e ∈ es, e.all V.oneB = true
  | .dead => True

def LocOK (G : Gh) (own : Own) (L : Nat → Option Nat) (w : World) (s : Nat) (cs : List V) : Prop := cs = [] ∨
  ∃ b c, L s = some b ∧ own b = some (.loc s) ∧ BlockIs w b c ∧ c.size = cs.length ∧ CRep G (fun j => c.getD j undef) cs

structure WOK (G : Gh) (own : Own) (H : Heap) (L : Nat → Option Nat) (loc : List (Nat × List V)) (w : World) : Prop where
  imm : ∀ b o v, G.I b o v → w.cell? ⟨b, o, none⟩ = some v
  dom : ∀ i b, G.blk i = some b → i < H.length
  domr : ∀ i t r, G.rows i t = some r → i < H.length
  top : ∀ i s es, H[i]? = some (.row s es) → ∀ t r, G.rows i t = some r → t ≤ es.length
  obj : ∀ i o, H[i]? = some o → ObjOK G own w i o
  locs : ∀ s cs, getL loc s = some cs → LocOK G own L w s cs
  noI : ∀ b o v, G.I b o v → own b = none
  lt : ∀ b k, own b = some k → b < w.heap.size
  ilt : ∀ b o v, G.I b o v → b < w.heap.size

/-- What has come of a world, as far as whoever does not own a block can see. -/
structure Foot (G : Gh) (own : Own) (w : World) (G' : Gh) (own' : Own) (w' : World) : Prop where
  le : G.Le G'
  size : w.heap.size ≤ w'.heap.size
  same : ∀ b, b < w.heap.size → own b = none → w'.heap[b]? = w.heap[b]?
  news : ∀ b k, own' b = some k → own b = some k ∨ w.heap.size ≤ b
  imms : ∀ b o v, G'.I b o v → G.I b o v ∨ w.heap.size ≤ b
  os : w'.os = w.os
  tape : w'.tape = w.tape
  output : w'.output = w.output

theorem Foot.refl (G : Gh) (own : Own) (w : World) : Foot G own w G own w := ⟨.refl G, Nat.le_refl _, fun _ _ _ => rfl, fun _ _ h => .inl h, fun _ _ _ h => .inl h, rfl, rfl, rfl⟩

theorem Foot.trans {G G' G'' : Gh} {o o' o'' : Own} {w w' w'' : World} (h : Foot G o w G' o' w') (k : Foot G' o' w' G'' o'' w'') : Foot G o w G'' o'' w'' := by
  refine ⟨h.le.trans k.le, Nat.le_trans h.size k.size, fun b hb ho => ?_, fun b x hb => ?_, fun b o v hi => ?_, k.os.trans h.os, k.tape.trans h.tape, k.output.trans h.output⟩
  · have ho' : o' b = none := by
      cases hx : o' b with
      | none => rfl
      | some x => rcases h.news b x hx with h1 | h1
                  · rw [ho] at h1; cases h1
                  · omega
    rw [k.same b (Nat.lt_of_lt_of_le hb h.size) ho', h.same b hb ho]
  · rcases k.news b x hb with h1 | h1
    · exact h.news b x h1
    · exact .inr (Nat.le_trans h.size h1)
  · rcases k.imms b o v hi with h1 | h1
    · exact h.imms b o v h1
    · exact .inr (Nat.le_trans h.size h1)

/-- Whatever block was there from before the activation, and is of nothing that has been written, stands as it did. -/
def Kp (base : Nat) (d : List Nat) (own : Own) (w w' : World) : Prop :=
  ∀ b, b < w.heap.size → (∀ k, own b = some k → ∃ id, k = .obj id ∧ id < base ∧ id ∉ d) → w'.heap[b]? = w.heap[b]?

theorem Kp.of_same {base : Nat} {d : List Nat} {own : Own} {w w' : World} (h : ∀ b, b < w.heap.size → w'.heap[b]? = w.heap[b]?) : Kp base d own w w' := fun b hb _ => h b hb
theorem Kp.refl (base : Nat) (d : List Nat) (own : Own) (w : World) : Kp base d own w w := .of_same fun _ _ => rfl

theorem mem_addD {base id x : Nat} {d : List Nat} : x ∈ addD base id d ↔ (x = id ∧ id < base) ∨ x ∈ d := by
  unfold addD; split
  · rename_i h; simp [h]
  · rename_i h; simp [h]
theorem mem_addDs {base x : Nat} {d : List Nat} : ∀ {ds : List Nat}, x ∈ ds.foldr (addD base) d ↔ (x ∈ ds ∧ x < base) ∨ x ∈ d
  | [] => by simp
  | y :: r => by
    simp only [List.foldr_cons, mem_addD, mem_addDs (ds := r), List.mem_cons]
    constructor
    · rintro (⟨rfl, h⟩ | ⟨h1, h2⟩ | h)
      · exact .inl ⟨.inl rfl, h⟩
      · exact .inl ⟨.inr h1, h2⟩
      · exact .inr h
    · rintro (⟨rfl | h1, h2⟩ | h)
      · exact .inl ⟨rfl, h2⟩
      · exact .inr (.inl ⟨h1, h2⟩)
      · exact .inr (.inr h)

end Go.Eng
