/- The engine, part 6: which instruction stands for which operation; operands. -/
import Derived.Test.YtfjgcfloallohaaEng5
namespace Go.Eng
open Go

def okCell : Value → V → Bool
  | .int k n, .p (.int k' n') => k == k' && n == n'
  | .bool b, .p (.bool b') => b == b'
  | .string s, .p (.str s') => s.data.toList == s'.data.toList
  | .pointer none, .p .nilp => true
  | .nilFunc, .p .nilf => true
  | .slice _ 0 0, .nils => true
  | _, _ => false

def okCells : List Value → List V → Bool
  | [], [] => true
  | v :: r, x :: s => okCell v x && okCells r s
  | _, _ => false

def okConst : Value → V → Bool
  | .agg cs, .agg xs => okCells cs.toList xs
  | v, x => okCell v x

def okArg : Operand → Arg → Bool
  | .tmp t, .t n => t == n
  | .const v, .c x => okConst v x
  | .func f, .c (.p (.fn g)) => f == g
  | _, _ => false

def okArgs : List Operand → List Arg → Bool
  | [], [] => true
  | x :: r, a :: s => okArg x a && okArgs r s
  | _, _ => false

def sizeB (P : Program) (t : TypeId) (n : Nat) : Bool := match P.info? t with | some i => i.size == n | none => false
def aggB (P : Program) (t : TypeId) (b : Bool) : Bool :=
  match P.underlying t with
  | some (.struct _) | some (.array _ _) => b
  | some _ => !b
  | none => false
def zeroB (P : Program) (t : TypeId) (zero : List V) : Bool :=
  match P.info? t with
  | some i => match i.zero with | some z => okCells z.cells.toList zero | none => false
  | none => false
def pzeroB (P : Program) (t : TypeId) (zero : List PV) : Bool :=
  match P.info? t with
  | some i => (match i.zero with | some z => okCells z.cells.toList (zero.map fun x => match x with | .sl [] => V.nils | x => .p x) | none => false)
  | none => false
def sliceB (P : Program) (t : TypeId) (s : Nat) : Bool := match P.underlying t with | some (.slice e) => sizeB P e s && (s != 0) | _ => false
def bytesB (P : Program) (e : TypeId) : Bool := match P.info? e with | some i => decide (i.bytes ≤ 32768) | none => false
def hasType (P : Program) (t : TypeId) : Bool := (P.underlying t).isSome

def okParts (places : Nat → Option (Nat × Nat)) : List (Nat × Operand) → List (Nat × Nat × Arg) → Bool
  | [], [] => true
  | (i, x) :: r, (o, n, a) :: s => (places i == some (o, n)) && okArg x a && okParts places r s
  | _, _ => false
def okElems : List (Nat × Operand) → List (Nat × Arg) → Bool
  | [], [] => true
  | (i, x) :: r, (j, a) :: s => i == j && okArg x a && okElems r s
  | _, _ => false

def fieldsPlaces (P : Program) (fs : Array Field) (i : Nat) : Option (Nat × Nat) :=
  match fs[i]? with
  | some f => some (f.offset, P.cellsOf f.type)
  | none => none

/-- Types whose values are compared cell by cell: which cells are integers, which are bools. -/
def flatFs (P : Program) (rec : TypeId → Option (List Bool)) : Nat → List Field → Option (List Bool)
  | _, [] => some []
  | e, f :: r => if (f.name != "_" && f.offset == e && (P.info? f.type).isSome) = true then
      match rec f.type with
      | some sh => if sh.length = P.cellsOf f.type then (flatFs P rec (e + P.cellsOf f.type) r).map (sh ++ ·) else none
      | none => none
    else none
def flatSh (P : Program) : Nat → TypeId → Option (List Bool)
  | 0, _ => none
  | d + 1, t =>
    match P.underlying t with
    | some (.int _) => if sizeB P t 1 = true then some [true] else none
    | some .bool => if sizeB P t 1 = true then some [false] else none
    | some (.struct fs) => if P.stoodInHeld t = false then flatFs P (flatSh P d) 0 fs.toList else none
    | some (.array n e) => match flatSh P d e with | some sh => if sh.length = P.cellsOf e then some (List.replicate n sh).flatten else none | none => none
    | _ => none
def flatT (P : Program) (t : TypeId) (sh : List Bool) : Bool := flatSh P 50 t == some sh && sh.length == P.cellsOf t && aggB P t true && !P.eqGuardType P.depth t

def okIns (P : Program) (op : Op) (i : Ins) : Bool :=
  match i with
  | .mov a => match op with | .move x | .assign x => okArg x a | _ => false
  | .nrow _ => match op with | .move (.const (.slice none 0 0)) | .assign (.const (.slice none 0 0)) => true | _ => false
  | .bin b a c => match op with
    | .binOp b' _ x y _ => b == b' && okArg x a && okArg y c
    | _ => false
  | .eqb ng a c => match op with
    | .binOp b' t x y _ => (if ng then b' == .neq else b' == .eql) && okArg x a && okArg y c && (match P.underlying t with | some .bool => true | _ => false)
    | _ => false
  | .eqn k ng a => match op with
    | .binOp b' t x (.const v) _ => (if ng then b' == .neq else b' == .eql) && okArg x a &&
        (match k, P.underlying t, v with | .ptr, some (.pointer _), .pointer none => true | .fn, some (.func ..), .nilFunc => true | .sl, some (.slice _), .slice none 0 0 => true | _, _, _ => false)
    | _ => false
  | .eqa ng sh a c => match op with
    | .binOp b' t x y _ => (if ng then b' == .neq else b' == .eql) && okArg x a && okArg y c && flatT P t sh
    | _ => false
  | .eqs ng a c => match op with
    | .binOp b' t x y _ => (if ng then b' == .neq else b' == .eql) && okArg x a && okArg y c && (match P.underlying t with | some .string => true | _ => false)
    | _ => false
  | .slca a lo s n => match op with
    | .slice t x l h m => okArg x a && h.isNone && m.isNone && (match P.underlying t with | some (.array n' e) => n == n' && sizeB P e s | _ => false) && (match l, lo with | none, none => true | some y, some b => okArg y b | _, _ => false)
    | _ => false
  | .clr a s zero => match op with
    | .call c => match c.callee, c.args.toList, c.argTypes.toList with
      | .builtin .clear, [x], [t] => okArg x a && (match P.underlying t with | some (.slice e) => sizeB P e s && (s != 0) && zeroB P e zero && zero.length == s && zero.all V.oneB | _ => false)
      | _, _, _ => false
    | _ => false
  | .un b a => match op with | .unOp b' _ x => b == b' && okArg x a | _ => false
  | .conv k a => match op with
    | .convert s d x => okArg x a && (match P.underlying s, P.underlying d with | some (.int _), some (.int k') => k == k' | _, _ => false)
    | _ => false
  | .len a => match op with
    | .call c => match c.callee, c.args.toList, c.argTypes.toList with
      | .builtin .len, [x], [t] => okArg x a && (match P.underlying t with | some (.slice _) => true | _ => false)
      | _, _, _ => false
    | _ => false
  | .mnmx mx a b => match op with
    | .call c => match c.callee, c.args.toList with
      | .builtin .max, [x, y] => mx && okArg x a && okArg y b
      | .builtin .min, [x, y] => !mx && okArg x a && okArg y b
      | _, _ => false
    | _ => false
  | .pick c a b => match op with | .pick c' a' b' => okArg c' c && okArg a' a && okArg b' b | _ => false
  | .off a k => match op with
    | .fieldAddr t x f => okArg x a && (match P.underlying t with | some (.struct fs) => (match fs[f]? with | some fd => fd.offset == k && !sizeB P fd.type 0 && (P.info? fd.type).isSome | none => false) | _ => false)
    | _ => false
  | .ixa a b s n => match op with
    | .indexAddr t x y => okArg x a && okArg y b && (match P.underlying t with | some (.array n' e) => n == n' && sizeB P e s | _ => false)
    | _ => false
  | .ixs a b s => match op with
    | .indexAddr t x y => okArg x a && okArg y b && sliceB P t s
    | _ => false
  | .ixv a b s n agg => match op with
    | .index t x y => okArg x a && okArg y b && (match P.underlying t with | some (.array n' e) => n == n' && sizeB P e s && aggB P e agg && (agg || s == 1) | _ => false)
    | _ => false
  | .ixc a b => match op with
    | .index t x y => okArg x a && okArg y b && (match P.underlying t with | some .string => true | _ => false)
    | _ => false
  | .fldv a o n agg => match op with
    | .field t x f => okArg x a && (match P.underlying t with | some (.struct fs) => (match fs[f]? with | some fd => fd.offset == o && sizeB P fd.type n && aggB P fd.type agg && (agg || n == 1) | none => false) | _ => false)
    | _ => false
  | .ld a n agg => match op with | .load t x => okArg x a && sizeB P t n && aggB P t agg && (agg || n == 1) | _ => false
  | .st a b n => match op with | .store t x y => okArg x a && okArg y b && sizeB P t n | _ => false
  | .ldl _ a n agg => match op with | .load t x => okArg x a && sizeB P t n && aggB P t agg && (agg || n == 1) | _ => false
  | .stl _ a b n => match op with | .store t x y => okArg x a && okArg y b && sizeB P t n | _ => false
  | .mkz s zero a => match op with
    | .makeSlice t l c => okArg l a && okArg c a && (match P.underlying t with | some (.slice e) => sizeB P e s && (s != 0) && bytesB P e && pzeroB P e zero && zero.length == s | _ => false)
    | _ => false
  | .al zero _ => match op with | .alloc t => zeroB P t zero | _ => false
  | .bx a _ _ => match op with | .box _ x => okArg x a | _ => false
  | .alp zero => match op with | .alloc t => zeroB P t zero | _ => false
  | .bxp a _ => match op with | .box _ x => okArg x a | _ => false
  | .bld zero ps => match op with
    | .build t parts => zeroB P t zero && (match P.underlying t with
      | some (.struct fs) => okParts (fieldsPlaces P fs) parts.toList ps && fs.toList.all (fun f => (P.info? f.type).isSome)
      | some (.array _ e) => (match P.info? e with | some ie => okParts (fun i => some (i * ie.size, ie.size)) parts.toList ps | none => false)
      | _ => false)
    | _ => false
  | .bsl s len zero ps => match op with
    | .buildSlice t len' parts => len == len' && decide (len * s ≤ 16777216) && (match P.underlying t with | some (.slice e) => sizeB P e s && (s != 0) && zeroB P e zero && zero.length == s && okElems parts.toList ps | _ => false)
    | _ => false
  | .bsr s len zero ps => match op with
    | .buildSlice t len' parts => len == len' && decide (len * s ≤ 16777216) && (match P.underlying t with | some (.slice e) => sizeB P e s && (s != 0) && zeroB P e zero && zero.length == s && okElems parts.toList ps | _ => false)
    | _ => false
  | .app a b s => match op with
    | .call c => match c.callee, c.args.toList, c.argTypes.toList with
      | .builtin .append, [x, y], [t, u] => okArg x a && okArg y b && t == u && (match P.underlying t with | some (.slice e) => sizeB P e s && (s != 0) && bytesB P e && (match P.info? e with | some i => (match i.zero with | some z => z.cells.size == s | none => false) | none => false) | _ => false)
      | _, _, _ => false
    | _ => false
  | .slc a lo hi s => match op with
    | .slice t x l h m => okArg x a && m.isNone && sliceB P t s && (match l, lo with | none, none => true | some y, some b => okArg y b | _, _ => false) && (match h, hi with | none, none => true | some y, some b => okArg y b | _, _ => false)
    | _ => false
  | .mks s zero a => match op with
    | .makeSlice t l c => okArg l a && okArg c a && (match P.underlying t with | some (.slice e) => sizeB P e s && (s != 0) && bytesB P e && zeroB P e zero && zero.length == s && zero.all V.oneB | _ => false)
    | _ => false
  | .ext a i => match op with | .extract x j => okArg x a && i == j | _ => false
  | .call f as _ => match op with
    | .call c => match c.callee with | .value (.func g) => f == g && okArgs c.args.toList as | _ => false
    | _ => false
  | .callv a as _ => match op with
    | .call c => match c.callee with | .value x => okArg x a && okArgs c.args.toList as | _ => false
    | _ => false
  | .mkf f as bs => match op with | .makeFunc g xs ys => decide (f = g) && okArgs xs.toList as && okArgs ys.toList bs | _ => false
  | .nck a => match op with | .nilCheck x => okArg x a | _ => false

def SRep (G : Gh) (L : Nat → Option Nat) (v : Value) : V → Prop
  | .lptr s off => ∃ b, L s = some b ∧ v = .pointer (some ⟨b, off, none⟩)
  | x => VRep G v x

theorem SRep.of {G : Gh} {L : Nat → Option Nat} {v : Value} {x : V} (h : VRep G v x) : SRep G L v x := by
  cases x <;> first | exact h | (cases h)
theorem SRep.vrep {G : Gh} {L : Nat → Option Nat} {v : Value} {x : V} (h : SRep G L v x) (hx : ∀ s o, x ≠ .lptr s o) : VRep G v x := by
  cases x <;> first | exact h | exact absurd rfl (hx _ _)

theorem okCell_rep {G : Gh} {v : Value} {x : V} (h : okCell v x = true) : VRep G v x := by
  unfold okCell at h
  split at h
  · simp at h; obtain ⟨rfl, rfl⟩ := h; exact .p (.int _ _)
  · simp at h; subst h; exact .p (.bool _)
  · rename_i s s'
    have h1 : s.data = s'.data := by simpa using h
    have h2 : s = s' := by cases s; cases s'; simpa using h1
    subst h2; exact .p (.str _)
  · exact .p .nilp
  · exact .p .nilf
  · exact .nils _
  · cases h

theorem okCells_rep {G : Gh} : ∀ {vs : List Value} {xs : List V}, okCells vs xs = true → vs.length = xs.length ∧ ∀ j (hj : j < xs.length), VRep G (vs.getD j undef) (xs[j])
  | [], [], _ => ⟨rfl, fun j hj => absurd hj (Nat.not_lt_zero _)⟩
  | v :: r, x :: s, h => by
    simp only [okCells, Bool.and_eq_true] at h
    obtain ⟨h1, h2⟩ := okCells_rep (G := G) h.2
    refine ⟨by simp [h1], fun j hj => ?_⟩
    cases j with
    | zero => exact okCell_rep h.1
    | succ j => exact h2 j (by simpa using hj)
  | [], _ :: _, h => by simp [okCells] at h
  | _ :: _, [], h => by simp [okCells] at h

theorem okCells_arr {G : Gh} {cs : Array Value} {xs : List V} (h : okCells cs.toList xs = true) : cs.size = xs.length ∧ ∀ j (hj : j < xs.length), VRep G (cs.getD j undef) (xs[j]) := by
  obtain ⟨h1, h2⟩ := okCells_rep (G := G) h
  refine ⟨by simpa using h1, fun j hj => ?_⟩
  have := h2 j hj
  simpa [List.getD_eq_getElem?_getD, Array.getD_eq_getD_getElem?] using this

theorem okConst_rep {G : Gh} {v : Value} {x : V} (h : okConst v x = true) : VRep G v x := by
  unfold okConst at h
  split at h
  · obtain ⟨h1, h2⟩ := okCells_arr (G := G) h; exact .agg _ _ h1 h2
  · exact okCell_rep h

/-- The standing of a frame on its way. -/
structure Sim (N : Nat) (G : Gh) (own : Own) (L : Nat → Option Nat) (S : St) (a : Act) (w : World) : Prop where
  size : a.tmps.size = N
  slot : ∀ t, SRep G L (a.tmps.getD t undef) (getE S.env t)
  wok : WOK G own S.hp L S.loc w

theorem okArg_rep {N : Nat} {G : Gh} {own : Own} {L : Nat → Option Nat} {S : St} {a : Act} {w : World} (h : Sim N G own L S a w) {x : Operand} {b : Arg} (hx : okArg x b = true) :
    SRep G L (a.eval x) (S.arg b) := by
  unfold okArg at hx
  split at hx
  · simp at hx; subst hx; exact h.slot _
  · exact .of (okConst_rep hx)
  · simp at hx; subst hx; exact .of (.p (.fn _))
  · cases hx

theorem okArgs_rep {N : Nat} {G : Gh} {own : Own} {L : Nat → Option Nat} {S : St} {a : Act} {w : World} (h : Sim N G own L S a w) : ∀ {xs : List Operand} {bs : List Arg}, okArgs xs bs = true →
    xs.length = bs.length ∧ ∀ j (h1 : j < xs.length) (h2 : j < bs.length), SRep G L (a.eval (xs[j])) (S.arg (bs[j]))
  | [], [], _ => ⟨rfl, fun j h1 => absurd h1 (Nat.not_lt_zero _)⟩
  | x :: r, b :: s, hx => by
    simp only [okArgs, Bool.and_eq_true] at hx
    obtain ⟨h1, h2⟩ := okArgs_rep h hx.2
    refine ⟨by simp [h1], fun j hj hj' => ?_⟩
    cases j with
    | zero => exact okArg_rep h hx.1
    | succ j => exact h2 j (by simpa using hj) (by simpa using hj')
  | [], _ :: _, h => by simp [okArgs] at h
  | _ :: _, [], h => by simp [okArgs] at h

theorem Sim.put {N : Nat} {G : Gh} {own : Own} {L : Nat → Option Nat} {S : St} {a : Act} {w : World} (h : Sim N G own L S a w) {d : Option Nat} (hd : ∀ t, d = some t → t < N) {v : Value} {x : V} (hv : SRep G L v x) :
    Sim N G own L (S.put d x) (a.put d v) w := by
  cases d with
  | none => exact h
  | some t =>
    refine ⟨by simp [Act.put, h.size], fun t' => ?_, h.wok⟩
    have ht := hd t rfl
    simp only [St.put, getE_cons, Act.put]
    by_cases e : t = t'
    · subst e
      have : t < a.tmps.size := by rw [h.size]; exact ht
      simp [Array.getD_eq_getD_getElem?, this]; exact hv
    · have e' : (t == t') = false := by simpa using e
      simp only [e', Bool.false_eq_true, if_false]
      have := h.slot t'
      simpa [Array.getD_eq_getD_getElem?, Array.getElem?_setIfInBounds, e] using this

/-- What comes of an operation. -/
def Res (N : Nat) (G : Gh) (own : Own) (w : World) (D : List Deferred) (S' : St) (a' : Act) (w' : World) : Prop :=
  ∃ G' own' L', Sim N G' own' L' S' a' w' ∧ Foot G own w G' own' w' ∧ a'.defers = D ∧ Kp S'.base S'.dirty own w w'

section
variable {F : Fence} {n : Nat} {P : Program} {o : Oper} {a : Act} {w : World} {Q : Exit → Act → World → Prop}

theorem wpIn_of_run (hF : ∀ f, F.fn f) (hnd : ∀ c, o.op ≠ .defer c) {r : Result Next} (hr : (execOp a.eval o).run P w = r) {next : Act → World → Prop}
    (h : o.uponIn F n P a next Q r) : o.wpIn F n P a w next Q := by
  refine ⟨fun f _ => hF f, ?_⟩
  rw [Oper.semAt_eq F.round a.eval o hnd, hr]
  exact h

theorem put_defers (a : Act) (d : Option Tmp) (v : Value) : (a.put d v).defers = a.defers := by cases d <;> rfl
end

end Go.Eng
