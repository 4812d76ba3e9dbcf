/- The engine, part 18: the order of operations that do not touch one another. -/
import Derived.Test.YtfjgcfloallohaaEng17
namespace Go.Eng
open Go

/-- The value and the memory behind an instruction. -/
def evV (cl : ClT) (i : Ins) (S : St) : Option (V × St) :=
  match i with
  | .mov x => some (S.arg x, S)
  | .nrow s => some (.row S.hp.length 0 0 0, { S with hp := S.hp ++ [DObj.row s []] })
  | .bin op x y => (binV op (S.arg x) (S.arg y)).map (·, S)
  | .eqb ng x y => (eqbV ng (S.arg x) (S.arg y)).map (·, S)
  | .eqn k ng x => (eqnV k ng (S.arg x)).map (·, S)
  | .eqa ng sh x y => (eqaV ng sh (S.arg x) (S.arg y)).map (·, S)
  | .eqs ng x y => (eqsV ng (S.arg x) (S.arg y)).map (·, S)
  | .slca x lo s n => (slcaV s n (S.arg x) (lo.map S.arg)).map (·, S)
  | .clr x s zero => clrI S s zero (S.arg x)
  | .un op x => (unV op (S.arg x)).map (·, S)
  | .conv k x => (convV k (S.arg x)).map (·, S)
  | .len x => (lenR (lenV (S.arg x))).map (·, S)
  | .mnmx mx x y => (mnmxV mx (S.arg x) (S.arg y)).map (·, S)
  | .pick c a b => (pickV (S.arg c) (S.arg a) (S.arg b)).map (·, S)
  | .off x k => (shiftV (S.arg x) k).map (·, S)
  | .ixa x i s n => (ixaV (S.arg x) (S.arg i) s n).map (·, S)
  | .ixs x i s => (ixsI S.hp (S.arg x) (S.arg i) s).map (·, S)
  | .ixv x i s n agg => (ixvV (S.arg x) (S.arg i) s n agg).map (·, S)
  | .ixc x i => (ixcV (S.arg x) (S.arg i)).map (·, S)
  | .fldv x o n agg => (fldvV (S.arg x) o n agg).map (·, S)
  | .ld x n agg => ((ldCells S (S.arg x) n).bind (aggOr agg)).map (·, S)
  | .st x v n => stI S (S.arg x) (S.arg v) n
  | .ldl k x n agg => (ldlV S k n agg (S.arg x)).map (·, S)
  | .stl k x v n => stlI S k (S.arg v) n (S.arg x)
  | .mkz _ zero n => (mkzV zero (S.arg n)).map (·, S)
  | .al zero false => some (.ptr S.hp.length 0, { S with hp := S.hp ++ [DObj.box zero] })
  | .al _ true => none
  | .bx x n false => if (S.arg x).cells.length = n ∧ (S.arg x).cells.all V.oneB = true then some (.ptr S.hp.length 0, { S with hp := S.hp ++ [DObj.box (S.arg x).cells] }) else none
  | .bx _ _ true => none
  | .alp _ => none
  | .bxp _ _ => none
  | .bld zero parts => (aggR (fillV zero (parts.map fun (o, n, x) => (o, n, S.arg x)))).map (·, S)
  | .bsl s len zero parts => (slR (fillS s (List.replicate len zero) (parts.map fun (i, x) => (i, S.arg x)))).map (·, S)
  | .app x y s => appV S (S.arg x) (S.arg y) s
  | .slc x lo hi s => (slcI S.hp s (S.arg x) (lo.map S.arg) (hi.map S.arg)).map (·, S)
  | .mks s zero n => mksI S s zero (S.arg n)
  | .bsr s len zero parts => rowI S s (fillS s (List.replicate len zero) (parts.map fun (i, x) => (i, S.arg x)))
  | .ext x i => (extV (S.arg x) i).map (·, S)
  | .call f args pure => callV S pure (.p (.fn f)) (args.map fun a => normA (S.arg a))
  | .callv x args pure => callV S pure (S.arg x) (args.map fun a => normA (S.arg a))
  | .mkf f first cap => (mkfV f (first.map fun x => normA (S.arg x)) (cap.map fun x => normA (S.arg x))).map (·, S)
  | .nck x => (nckV (S.arg x)).map (·, S)
  where
  callV (S : St) (pure : Bool) (f : V) (vs : List V) : Option (V × St) :=
    if vs.all V.outB = true then
      match cl f vs S.hp with
      | some (v, none) => if v.notL = true then some (v, S) else none
      | some (v, some (H, ds)) => if pure = true ∨ v.notL = false then none else some (v, { S with hp := H, dirty := ds.foldr (addD S.base) S.dirty })
      | none => none
    else none

/-- A box that lies in the heap. -/
def Ins.heapy (d : Option Nat) : Ins → Bool
  | .al _ l => !l && d.isSome
  | .bx _ _ l => !l && d.isSome
  | .alp _ | .bxp _ _ => false
  | _ => true

/-- 0: of temporaries alone; 1: reads memory; 2: turns memory. -/
def Ins.cls : Ins → Nat
  | .ixs .. | .ld .. | .ldl .. | .slc .. => 1
  | .call _ _ p => if p then 1 else 2
  | .callv _ _ p => if p then 1 else 2
  | .nrow _ | .st .. | .stl .. | .al .. | .bx .. | .app .. | .mks .. | .bsr .. | .clr .. | .alp _ | .bxp .. => 2
  | _ => 0

def argT : Arg → List Nat
  | .t n => [n]
  | .c _ => []
def optT : Option Arg → List Nat
  | some a => argT a
  | none => []

def Ins.reads : Ins → List Nat
  | .mov x | .un _ x | .conv _ x | .len x | .off x _ | .fldv x .. | .ld x .. | .ldl _ x .. | .mkz _ _ x | .bx x .. | .ext x _ | .nck x | .mks _ _ x | .eqn _ _ x => argT x
  | .clr x .. => argT x
  | .slca x lo .. => argT x ++ optT lo
  | .bin _ x y | .eqb _ x y | .eqs _ x y | .eqa _ _ x y | .mnmx _ x y | .ixa x y .. | .ixs x y _ | .ixc x y | .ixv x y .. | .st x y _ | .stl _ x y _ | .app x y _ => argT x ++ argT y
  | .pick c x y => argT c ++ argT x ++ argT y
  | .nrow _ | .al .. | .alp _ => []
  | .bxp x _ => argT x
  | .bld _ ps => ps.flatMap fun (_, _, x) => argT x
  | .bsl _ _ _ ps => ps.flatMap fun (_, x) => argT x
  | .bsr _ _ _ ps => ps.flatMap fun (_, x) => argT x
  | .slc x lo hi _ => argT x ++ optT lo ++ optT hi
  | .call _ as _ => as.flatMap argT
  | .callv x as _ => argT x ++ as.flatMap argT
  | .mkf _ as bs => as.flatMap argT ++ bs.flatMap argT

theorem evIns_evV (cl : ClT) (d : Option Nat) (i : Ins) (S : St) (h : i.heapy d = true) : evIns cl d i S = (evV cl i S).map fun p => p.2.put d p.1 := by
  have hS : ∀ (r : Option V), retS S d r = (r.map (·, S)).map fun p => p.2.put d p.1 := fun r => by cases r <;> rfl
  have hP : ∀ (r : Option (V × St)), retP d r = r.map fun p => p.2.put d p.1 := fun r => by cases r <;> rfl
  have hC : ∀ (p : Bool) (f : V) (vs : List V), callI cl S d p f vs = (evV.callV cl S p f vs).map fun p => p.2.put d p.1 := fun p f vs => by
    unfold callI evV.callV callR
    split
    · generalize cl f vs S.hp = r
      match r with
      | none => rfl
      | some (v, none) => simp only; split <;> rfl
      | some (v, some (H, ds)) => simp only; split <;> rfl
    · rfl
  cases i <;> simp only [evIns, evV] <;> first
    | exact hS _
    | exact hP _
    | exact hC _ _ _
    | rfl
    | skip
  · rename_i z l
    cases l
    · cases d
      · simp [Ins.heapy] at h
      · rfl
    · simp [Ins.heapy] at h
  · rename_i x n l
    cases l
    · cases d
      · simp [Ins.heapy] at h
      · simp only [bxI, boxI]
        split <;> rfl
    · simp [Ins.heapy] at h
  · simp [Ins.heapy] at h
  · simp [Ins.heapy] at h

section
variable {cl : ClT} {S : St} {e : List (Nat × V)}

theorem arg_agree {x : Arg} (h : ∀ t ∈ argT x, getE S.env t = getE e t) : St.arg { S with env := e } x = S.arg x := by
  cases x with
  | t n => exact (h n (by simp [argT])).symm
  | c v => rfl

theorem map_agree {β : Type} {xs : List Arg} (f : V → β) (h : ∀ t ∈ xs.flatMap argT, getE S.env t = getE e t) : xs.map (fun x => f (St.arg { S with env := e } x)) = xs.map (fun x => f (S.arg x)) := by
  apply List.map_congr_left
  intro x hx
  rw [arg_agree fun t ht => h t (List.mem_flatMap.2 ⟨x, hx, ht⟩)]

theorem opt_agree {x : Option Arg} (h : ∀ t ∈ optT x, getE S.env t = getE e t) : x.map (St.arg { S with env := e }) = x.map S.arg := by
  cases x with
  | none => rfl
  | some x => simp only [Option.map_some]; rw [arg_agree h]

theorem stCells_env (x : V) (vs : List V) : stCells { S with env := e } x vs = (stCells S x vs).map fun T => { T with env := e } := by
  unfold stCells
  split
  · cases getL S.loc _ with
    | none => rfl
    | some cs => simp only [Option.bind_some]; split <;> first | rfl | (cases setSubs cs _ vs <;> rfl)
  · cases boxAt S.hp _ with
    | none => rfl
    | some cs => simp only [Option.bind_some]; cases setSubs cs _ vs <;> rfl
  · rename_i id tot i j
    cases rowAt S.hp id with
    | none => rfl
    | some p =>
      obtain ⟨s, es⟩ := p
      simp only [Option.bind_some]
      split
      · cases es[i]? with
        | none => rfl
        | some el =>
          simp only [Option.bind_some]; cases setSubs el _ vs <;> rfl
      · rfl
  · rfl

theorem stI_env (x v : V) (m : Nat) : stI { S with env := e } x v m = (stI S x v m).map fun p => (p.1, { p.2 with env := e }) := by
  unfold stI
  split
  · rw [stCells_env]; cases stCells S x v.cells <;> rfl
  · rfl

theorem ldCells_env (x : V) (n : Nat) : ldCells { S with env := e } x n = ldCells S x n := by cases x <;> rfl
theorem ldlV_env (k : Nat) (x : V) (n : Nat) (agg : Bool) : ldlV { S with env := e } k n agg x = ldlV S k n agg x := by
  unfold ldlV; split
  · rw [ldCells_env]
  · rfl
theorem stlI_env (k : Nat) (x v : V) (m : Nat) : stlI { S with env := e } k v m x = (stlI S k v m x).map fun p => (p.1, { p.2 with env := e }) := by
  unfold stlI
  split
  · split
    · exact stI_env ..
    · rfl
  · rfl

theorem appV_env (x y : V) (s : Nat) : appV { S with env := e } x y s = (appV S x y s).map fun p => (p.1, { p.2 with env := e }) := by
  unfold appV
  cases elems S.hp y with
  | none => rfl
  | some ys =>
    simp only [Option.bind_some]
    split
    · split
      · split
        · split <;> rfl
        · rfl
      · cases rowAt S.hp _ with
        | none => rfl
        | some p =>
          obtain ⟨s', es⟩ := p
          simp only [Option.bind_some]
          split <;> rfl
      · rfl
    · rfl

theorem clrI_env (s : Nat) (zero : List V) (x : V) : clrI { S with env := e } s zero x = (clrI S s zero x).map fun p => (p.1, { p.2 with env := e }) := by
  unfold clrI
  split
  · split
    · rw [stCells_env]; cases stCells S _ (List.replicate _ zero).flatten <;> rfl
    · rfl
  · rfl
  · rfl

theorem mksI_env (s : Nat) (zero : List V) (x : V) : mksI { S with env := e } s zero x = (mksI S s zero x).map fun p => (p.1, { p.2 with env := e }) := by
  unfold mksI
  split
  · split <;> rfl
  · rfl

theorem rowI_env (s : Nat) (es : Option (List (List V))) : rowI { S with env := e } s es = (rowI S s es).map fun p => (p.1, { p.2 with env := e }) := by
  unfold rowI
  split
  · split <;> rfl
  · rfl

theorem callV_env (p : Bool) (f : V) (vs : List V) : evV.callV cl { S with env := e } p f vs = (evV.callV cl S p f vs).map fun p => (p.1, { p.2 with env := e }) := by
  unfold evV.callV
  split
  · simp only
    generalize cl f vs S.hp = r
    match r with
    | none => rfl
    | some (v, none) => simp only; split <;> rfl
    | some (v, some (H, ds)) => simp only; split <;> rfl
  · rfl

theorem evV_env {i : Ins} (h : ∀ t ∈ i.reads, getE S.env t = getE e t) : evV cl i { S with env := e } = (evV cl i S).map fun p => (p.1, { p.2 with env := e }) := by
  have hm : ∀ (r : Option V), r.map (·, { S with env := e }) = (r.map (·, S)).map fun p : V × St => (p.1, { p.2 with env := e }) := fun r => by cases r <;> rfl
  cases i with
  | mov x => simp only [evV]; rw [arg_agree h]; rfl
  | nrow s => rfl
  | al z l => cases l <;> rfl
  | alp z => rfl
  | bxp x n => rfl
  | un op x => simp only [evV]; rw [arg_agree h]; exact hm _
  | conv k x => simp only [evV]; rw [arg_agree h]; exact hm _
  | len x => simp only [evV]; rw [arg_agree h]; exact hm _
  | off x k => simp only [evV]; rw [arg_agree h]; exact hm _
  | fldv x o n agg => simp only [evV]; rw [arg_agree h]; exact hm _
  | ld x n agg => simp only [evV]; rw [arg_agree h]; exact hm _
  | ext x i => simp only [evV]; rw [arg_agree h]; exact hm _
  | ldl k x n agg => simp only [evV]; rw [arg_agree h, ldlV_env]; exact hm _
  | mkz s z x => simp only [evV]; rw [arg_agree h]; exact hm _
  | stl k x y n => simp only [evV]; rw [arg_agree fun t ht => h t (List.mem_append_left _ ht), arg_agree fun t ht => h t (List.mem_append_right _ ht)]; exact stlI_env ..
  | nck x => simp only [evV]; rw [arg_agree h]; exact hm _
  | eqn k ng x => simp only [evV]; rw [arg_agree h]; exact hm _
  | mks s z x => simp only [evV]; rw [arg_agree h]; exact mksI_env ..
  | bx x n l =>
    cases l
    · simp only [evV]; rw [arg_agree h]; split <;> rfl
    · rfl
  | bin op x y => simp only [evV]; rw [arg_agree fun t ht => h t (List.mem_append_left _ ht), arg_agree fun t ht => h t (List.mem_append_right _ ht)]; exact hm _
  | eqb op x y => simp only [evV]; rw [arg_agree fun t ht => h t (List.mem_append_left _ ht), arg_agree fun t ht => h t (List.mem_append_right _ ht)]; exact hm _
  | eqs op x y => simp only [evV]; rw [arg_agree fun t ht => h t (List.mem_append_left _ ht), arg_agree fun t ht => h t (List.mem_append_right _ ht)]; exact hm _
  | slca x lo s n => simp only [evV]; rw [arg_agree fun t ht => h t (List.mem_append_left _ ht), opt_agree fun t ht => h t (List.mem_append_right _ ht)]; exact hm _
  | clr x s z => simp only [evV]; rw [arg_agree h]; exact clrI_env ..
  | eqa op sh x y => simp only [evV]; rw [arg_agree fun t ht => h t (List.mem_append_left _ ht), arg_agree fun t ht => h t (List.mem_append_right _ ht)]; exact hm _
  | mnmx op x y => simp only [evV]; rw [arg_agree fun t ht => h t (List.mem_append_left _ ht), arg_agree fun t ht => h t (List.mem_append_right _ ht)]; exact hm _
  | ixa x y s n => simp only [evV]; rw [arg_agree fun t ht => h t (List.mem_append_left _ ht), arg_agree fun t ht => h t (List.mem_append_right _ ht)]; exact hm _
  | ixs x y s => simp only [evV]; rw [arg_agree fun t ht => h t (List.mem_append_left _ ht), arg_agree fun t ht => h t (List.mem_append_right _ ht)]; exact hm _
  | ixc x y => simp only [evV]; rw [arg_agree fun t ht => h t (List.mem_append_left _ ht), arg_agree fun t ht => h t (List.mem_append_right _ ht)]; exact hm _
  | ixv x y s n agg => simp only [evV]; rw [arg_agree fun t ht => h t (List.mem_append_left _ ht), arg_agree fun t ht => h t (List.mem_append_right _ ht)]; exact hm _
  | st x y n => simp only [evV]; rw [arg_agree fun t ht => h t (List.mem_append_left _ ht), arg_agree fun t ht => h t (List.mem_append_right _ ht)]; exact stI_env ..
  | app x y n => simp only [evV]; rw [arg_agree fun t ht => h t (List.mem_append_left _ ht), arg_agree fun t ht => h t (List.mem_append_right _ ht)]; exact appV_env ..
  | pick c x y =>
    simp only [evV]
    rw [arg_agree fun t ht => h t (List.mem_append_left _ (List.mem_append_left _ ht)), arg_agree fun t ht => h t (List.mem_append_left _ (List.mem_append_right _ ht)), arg_agree fun t ht => h t (List.mem_append_right _ ht)]
    exact hm _
  | bld z ps =>
    simp only [evV]
    have : (ps.map fun (o, n, x) => (o, n, St.arg { S with env := e } x)) = ps.map fun (o, n, x) => (o, n, S.arg x) := by
      apply List.map_congr_left
      rintro ⟨o, n, x⟩ hx
      show (o, n, _) = (o, n, _)
      rw [arg_agree fun t ht => h t (List.mem_flatMap.2 ⟨_, hx, ht⟩)]
    rw [this]; exact hm _
  | bsr s l z ps =>
    simp only [evV]
    have : (ps.map fun (i, x) => (i, St.arg { S with env := e } x)) = ps.map fun (i, x) => (i, S.arg x) := by
      apply List.map_congr_left
      rintro ⟨i, x⟩ hx
      show (i, _) = (i, _)
      rw [arg_agree fun t ht => h t (List.mem_flatMap.2 ⟨_, hx, ht⟩)]
    rw [this]; exact rowI_env ..
  | bsl s l z ps =>
    simp only [evV]
    have : (ps.map fun (i, x) => (i, St.arg { S with env := e } x)) = ps.map fun (i, x) => (i, S.arg x) := by
      apply List.map_congr_left
      rintro ⟨i, x⟩ hx
      show (i, _) = (i, _)
      rw [arg_agree fun t ht => h t (List.mem_flatMap.2 ⟨_, hx, ht⟩)]
    rw [this]; exact hm _
  | slc x lo hi s =>
    simp only [evV]
    rw [arg_agree fun t ht => h t (List.mem_append_left _ (List.mem_append_left _ ht)), opt_agree fun t ht => h t (List.mem_append_left _ (List.mem_append_right _ ht)), opt_agree fun t ht => h t (List.mem_append_right _ ht)]
    exact hm _
  | call f as p => simp only [evV]; rw [map_agree normA h]; exact callV_env ..
  | callv x as p => simp only [evV]; rw [arg_agree fun t ht => h t (List.mem_append_left _ ht), map_agree normA fun t ht => h t (List.mem_append_right _ ht)]; exact callV_env ..
  | mkf f as bs => simp only [evV]; rw [map_agree normA fun t ht => h t (List.mem_append_left _ ht), map_agree normA fun t ht => h t (List.mem_append_right _ ht)]; exact hm _

theorem evV_keeps {i : Ins} {v : V} {T : St} (h : evV cl i S = some (v, T)) : T.env = S.env := by
  have := evV_env (cl := cl) (S := S) (e := S.env) (i := i) (fun _ _ => rfl)
  have e1 : { S with env := S.env } = S := rfl
  rw [e1, h] at this
  simp only [Option.map_some, Option.some.injEq, Prod.mk.injEq, true_and] at this
  rw [this]

theorem evV_reads {i : Ins} (hc : i.cls ≤ 1) {v : V} {T : St} (h : evV cl i S = some (v, T)) : T = S := by
  have hm : ∀ {r : Option V}, r.map (·, S) = some (v, T) → T = S := fun {r} hr => by
    cases r with
    | none => cases hr
    | some x => cases hr; rfl
  have hp : ∀ {f : V} {vs : List V}, evV.callV cl S true f vs = some (v, T) → T = S := fun {f vs} hr => by
    unfold evV.callV at hr
    split at hr
    · generalize cl f vs S.hp = r at hr
      match r, hr with
      | some (v, none), hr =>
        simp only at hr
        split at hr
        · cases hr; rfl
        · cases hr
      | some (v, some (H, ds)), hr => simp at hr
      | none, hr => cases hr
    · cases hr
  cases i <;> simp only [evV] at h <;> first
    | exact hm h
    | (simp [Ins.cls] at hc; done)
    | (cases h; rfl)
    | skip
  · rename_i f as p
    cases p
    · simp [Ins.cls] at hc
    · exact hp h
  · rename_i f as p
    cases p
    · simp [Ins.cls] at hc
    · exact hp h

theorem evV_zero {i : Ins} (hc : i.cls = 0) {T : St} (he : T.env = S.env) : evV cl i T = (evV cl i S).map fun p => (p.1, T) := by
  have ha : T.arg = S.arg := by funext x; cases x with
    | t n => simp only [St.arg, he]
    | c v => rfl
  have hm : ∀ (r : Option V), r.map (·, T) = (r.map (·, S)).map fun p : V × St => (p.1, T) := fun r => by cases r <;> rfl
  cases i <;> simp only [evV, ha] <;> first
    | exact hm _
    | rfl
    | (simp [Ins.cls] at hc; done)
    | (rename_i p; cases p <;> simp [Ins.cls] at hc)

/-! ### A local box that nobody knows as yet -/

/-- A constant that is no address of a local box. -/
def Arg.okL : Arg → Bool
  | .t _ => true
  | .c v => v.notL
def Ins.okL : Ins → Bool
  | .mov x | .off x _ | .nck x | .bxp x _ | .ld x .. | .ldl _ x .. => x.okL
  | .ixa x _ _ _ => x.okL
  | .st x _ _ | .stl _ x _ _ => x.okL
  | .pick _ a b => a.okL && b.okL
  | _ => true

/-- None of the slots that are read leads to the box. -/
def NoL (S : St) (t : Nat) (i : Ins) : Prop := ∀ n ∈ i.reads, ∀ o, getE S.env n ≠ .lptr t o
theorem NoL.arg {t : Nat} {x : Arg} (h : ∀ n ∈ argT x, ∀ o, getE S.env n ≠ .lptr t o) (hx : x.okL = true) : ∀ o, S.arg x ≠ .lptr t o := by
  intro o
  cases x with
  | t n => exact h n (by simp [argT]) o
  | c v => rintro e; have e' : v = .lptr t o := e; rw [e'] at hx; cases hx

theorem getL_setL' (loc : List (Nat × List V)) (s s' : Nat) (cs : List V) : getL (setL loc s cs) s' = if s' = s then some cs else getL loc s' := by
  by_cases h : s' = s
  · subst h; rw [getL_setL_same]; simp
  · rw [getL_setL_ne _ h, if_neg h]
theorem setL_comm : ∀ {l : List (Nat × List V)} {s t : Nat} {a b : List V}, s ≠ t → (getL l s).isSome = true → (getL l t).isSome = true → setL (setL l s a) t b = setL (setL l t b) s a
  | [], _, _, _, _, _, h, _ => by simp at h
  | (k, u) :: r, s, t, a, b, hne, h1, h2 => by
    by_cases hs : k = s
    · subst hs
      have hkt : (k == t) = false := by simpa using hne
      simp [setL_cons, hkt]
    · have hs' : (k == s) = false := by simpa using hs
      by_cases ht : k = t
      · subst ht; simp [setL_cons, hs']
      · have ht' : (k == t) = false := by simpa using ht
        simp only [getL_cons, hs', ht', Bool.false_eq_true, if_false] at h1 h2
        simp only [setL_cons, hs', ht', Bool.false_eq_true, if_false]
        rw [setL_comm hne h1 h2]

/-- The same, with the box's content turned. -/
def St.withL (S : St) (t : Nat) (cs : List V) : St := { S with loc := setL S.loc t cs }

theorem ld_withL {t : Nat} {cs : List V} {x : V} {n : Nat} (hx : ∀ o, x ≠ .lptr t o) : ldCells (S.withL t cs) x n = ldCells S x n := by
  cases x with
  | lptr s o =>
    have : s ≠ t := fun e => hx o (by rw [e])
    simp only [ldCells, St.withL, getL_setL', if_neg this]
  | _ => rfl

theorem st_withL {t : Nat} {cs : List V} {x : V} {vs : List V} (hx : ∀ o, x ≠ .lptr t o) (ht : (getL S.loc t).isSome = true) : stCells (S.withL t cs) x vs = (stCells S x vs).map fun T => T.withL t cs := by
  cases x with
  | lptr s o =>
    have hst : s ≠ t := fun e => hx o (by rw [e])
    simp only [stCells, St.withL, getL_setL', if_neg hst]
    cases hg : getL S.loc s with
    | none => rfl
    | some ds =>
      simp only [Option.bind_some]
      split
      · rfl
      · cases setSubs ds o vs with
        | none => rfl
        | some ds' =>
          simp only [Option.map_some]
          rw [setL_comm (Ne.symm hst) ht (by rw [hg]; rfl)]
  | ptr id o =>
    simp only [stCells, St.withL]
    cases boxAt S.hp id with
    | none => rfl
    | some ds => simp only [Option.bind_some]; cases setSubs ds o vs <;> rfl
  | rptr id tot m j =>
    simp only [stCells, St.withL]
    cases rowAt S.hp id with
    | none => rfl
    | some p =>
      obtain ⟨s, es⟩ := p
      simp only [Option.bind_some]
      split
      · cases es[m]? with
        | none => rfl
        | some el => simp only [Option.bind_some]; cases setSubs el _ vs <;> rfl
      · rfl
  | _ => rfl

theorem stI_withL {t : Nat} {cs : List V} {x v : V} {m : Nat} (hx : ∀ o, x ≠ .lptr t o) (ht : (getL S.loc t).isSome = true) : stI (S.withL t cs) x v m = (stI S x v m).map fun p => (p.1, p.2.withL t cs) := by
  unfold stI
  split
  · rw [st_withL hx ht]; cases stCells S x v.cells <;> rfl
  · rfl

theorem ldlV_withL {t k : Nat} {cs : List V} {x : V} {n : Nat} {agg : Bool} (hx : k ≠ t ∨ ∀ o, x ≠ .lptr t o) : ldlV (S.withL t cs) k n agg x = ldlV S k n agg x := by
  unfold ldlV
  split
  · rename_i s o
    split
    · rename_i hs
      rw [ld_withL]
      rcases hx with hx | hx
      · intro o' e; cases e; exact hx hs.symm
      · exact hx
    · rfl
  · rfl
theorem stlI_withL {t k : Nat} {cs : List V} {x v : V} {m : Nat} (hx : ∀ o, x ≠ .lptr t o) (ht : (getL S.loc t).isSome = true) : stlI (S.withL t cs) k v m x = (stlI S k v m x).map fun p => (p.1, p.2.withL t cs) := by
  unfold stlI
  split
  · split
    · exact stI_withL hx ht
    · rfl
  · rfl

theorem appV_withL {t : Nat} {cs : List V} (x y : V) (s : Nat) : appV (S.withL t cs) x y s = (appV S x y s).map fun p => (p.1, p.2.withL t cs) := by
  unfold appV
  have hh : (S.withL t cs).hp = S.hp := rfl
  rw [hh]
  cases elems S.hp y with
  | none => rfl
  | some ys =>
    simp only [Option.bind_some]
    split
    · split
      · split
        · split <;> rfl
        · rfl
      · cases rowAt S.hp _ with
        | none => rfl
        | some p =>
          obtain ⟨s', es⟩ := p
          simp only [Option.bind_some]
          split <;> rfl
      · rfl
    · rfl

theorem rowI_withL {t : Nat} {cs : List V} (s : Nat) (es : Option (List (List V))) : rowI (S.withL t cs) s es = (rowI S s es).map fun p => (p.1, p.2.withL t cs) := by
  unfold rowI
  split
  · split <;> rfl
  · rfl
theorem rowI_notL {s : Nat} {es : Option (List (List V))} {v : V} {T : St} (h : rowI S s es = some (v, T)) : v.notL = true := by
  obtain ⟨l, -, -, rfl, -⟩ := rowI_some h; rfl

theorem callV_withL {t : Nat} {cs : List V} (p : Bool) (f : V) (vs : List V) : evV.callV cl (S.withL t cs) p f vs = (evV.callV cl S p f vs).map fun p => (p.1, p.2.withL t cs) := by
  unfold evV.callV
  have hh : (S.withL t cs).hp = S.hp := rfl
  rw [hh]
  split
  · generalize cl f vs S.hp = r
    match r with
    | none => rfl
    | some (v, none) => simp only; split <;> rfl
    | some (v, some (H, ds)) => simp only; split <;> rfl
  · rfl

theorem evV_withL {t : Nat} {cs : List V} {i : Ins} (hn : NoL S t i) (hk : i.okL = true) (ht : (getL S.loc t).isSome = true) : evV cl i (S.withL t cs) = (evV cl i S).map fun p => (p.1, p.2.withL t cs) := by
  have ha : (S.withL t cs).arg = S.arg := by funext x; cases x <;> rfl
  have hh : (S.withL t cs).hp = S.hp := rfl
  have hm : ∀ (r : Option V), r.map (·, S.withL t cs) = (r.map (·, S)).map fun p : V × St => (p.1, p.2.withL t cs) := fun r => by cases r <;> rfl
  have hc : ∀ (p : Bool) (f : V) (vs : List V), evV.callV cl (S.withL t cs) p f vs = (evV.callV cl S p f vs).map fun p => (p.1, p.2.withL t cs) := fun p f vs => by
    unfold evV.callV
    rw [hh]
    split
    · generalize cl f vs S.hp = r
      match r with
      | none => rfl
      | some (v, none) => simp only; split <;> rfl
      | some (v, some (H, ds)) => simp only; split <;> rfl
    · rfl
  cases i with
  | ld x n agg =>
    simp only [evV, ha]
    rw [ld_withL (NoL.arg (S := S) hn hk)]
    exact hm _
  | st x v n =>
    simp only [evV, ha]
    exact stI_withL (NoL.arg (S := S) (fun n hn' => hn n (List.mem_append_left _ hn')) hk) ht
  | ldl k x n agg =>
    simp only [evV, ha]
    rw [ldlV_withL (.inr (NoL.arg (S := S) hn hk))]
    exact hm _
  | stl k x v n =>
    simp only [evV, ha]
    exact stlI_withL (NoL.arg (S := S) (fun n hn' => hn n (List.mem_append_left _ hn')) hk) ht
  | app x y s => simp only [evV, ha]; exact appV_withL ..
  | clr x s z =>
    simp only [evV, ha]
    unfold clrI
    split
    · split
      · rw [st_withL (fun o => by simp) ht]; cases stCells S _ (List.replicate _ z).flatten <;> rfl
      · rfl
    · rfl
    · rfl
  | bsr s l z ps => simp only [evV, ha]; exact rowI_withL ..
  | mks s z n =>
    simp only [evV, ha]
    unfold mksI
    split
    · split <;> rfl
    · rfl
  | call f as p => simp only [evV, ha]; exact hc ..
  | callv x as p => simp only [evV, ha]; exact hc ..
  | nrow s => rfl
  | al z l => cases l <;> rfl
  | bx x n l =>
    cases l
    · simp only [evV, ha]; split <;> rfl
    · rfl
  | alp z => rfl
  | bxp x n => rfl
  | mov x => simp only [evV, ha]; rfl
  | _ => simp only [evV, ha, hh]; exact hm _

theorem optL {r : Option V} {v : V} {T : St} (hr : r.map (·, S) = some (v, T)) : r = some v := by
  cases r with
  | none => cases hr
  | some x => cases hr; rfl
theorem aggOr_notL {a : Bool} {ds : List V} {v : V} (hr : aggOr a ds = some v) : v.notL = true := by
  unfold aggOr at hr
  split at hr
  · cases hr; rfl
  · split at hr
    · rename_i hl; cases hr; exact hl
    · cases hr
  · cases hr
theorem callV_notL {p : Bool} {f : V} {vs : List V} {v : V} {T : St} (hr : evV.callV cl S p f vs = some (v, T)) : v.notL = true := by
  unfold evV.callV at hr
  split at hr
  · generalize cl f vs S.hp = r at hr
    match r, hr with
    | some (v, none), hr =>
      simp only at hr
      split at hr
      · rename_i hl; cases hr; exact hl
      · cases hr
    | some (v, some (H, ds)), hr =>
      simp only at hr
      split at hr
      · cases hr
      · rename_i hl; cases hr; simpa using (not_or.1 hl).2
  · cases hr
theorem bindL {α : Type} {r : Option α} {f : α → Option V} {v : V} (hf : ∀ a, f a = some v → v.notL = true) (hr : r.bind f = some v) : v.notL = true := by
  cases r with
  | none => cases hr
  | some a => exact hf a hr
theorem ixsI_notL {H : Heap} {x i : V} {s : Nat} {v : V} (hr : ixsI H x i s = some v) : v.notL = true := by
  unfold ixsI at hr
  split at hr
  · unfold ixsV at hr
    split at hr
    · split at hr
      · exact bindL (fun a ha => by split at ha <;> cases ha; rfl) hr
      · exact bindL (fun a ha => by split at ha <;> cases ha; rfl) hr
      · split at hr <;> cases hr; rfl
      · exact bindL (fun a ha => by simp only at ha; split at ha <;> cases ha; rfl) hr
      · cases hr
    · cases hr
  · cases hr
theorem slcV_notL {H : Heap} {s : Nat} {x : V} {lo hi : Option Int} {v : V} (hr : slcV H s x lo hi = some v) : v.notL = true := by
  unfold slcV at hr
  split at hr
  · cases hr
  · split at hr
    · split at hr
      · split at hr <;> cases hr; rfl
      · split at hr <;> cases hr; rfl
      · cases hr; rfl
      · split at hr
        · split at hr <;> cases hr; rfl
        · cases hr
      · cases hr
    · cases hr
theorem appV_notL {x y : V} {s : Nat} {v : V} {T : St} (hr : appV S x y s = some (v, T)) : v.notL = true := by
  unfold appV at hr
  cases he : elems S.hp y with
  | none => rw [he] at hr; cases hr
  | some ys =>
    rw [he] at hr
    simp only [Option.bind_some] at hr
    split at hr
    · split at hr
      · split at hr
        · split at hr <;> cases hr <;> rfl
        · cases hr
      · rename_i id _ _ _
        cases hro : rowAt S.hp id with
        | none => rw [hro] at hr; cases hr
        | some p =>
          obtain ⟨s', es⟩ := p
          rw [hro] at hr
          simp only [Option.bind_some] at hr
          split at hr <;> cases hr; rfl
      · cases hr
    · cases hr

/-- No address of the box comes out. -/
theorem evV_notL {t : Nat} {i : Ins} (hn : NoL S t i) (hk : i.okL = true) {v : V} {T : St} (h : evV cl i S = some (v, T)) : ∀ o, v ≠ .lptr t o := by
  have fin : v.notL = true → ∀ o, v ≠ .lptr t o := fun hl o e => by rw [e] at hl; cases hl
  have sh : ∀ {x : V} {k : Nat}, shiftV x k = some v → (∀ o, x ≠ .lptr t o) → ∀ o, v ≠ .lptr t o := fun {x k} hr hx o e => by
    subst e
    cases x <;> simp only [shiftV] at hr <;> cases hr
    exact hx _ rfl
  cases i with
  | mov x => simp only [evV] at h; cases h; exact NoL.arg (S := S) hn hk
  | off x k => exact sh (optL h) (NoL.arg (S := S) hn hk)
  | nck x =>
    have h := optL h
    unfold nckV at h
    split at h
    · cases h; exact NoL.arg (S := S) hn hk
    · cases h
  | ixa x y s n =>
    have h := optL h
    unfold ixaV at h
    split at h
    · split at h
      · exact sh h (NoL.arg (S := S) (fun n hn' => hn n (List.mem_append_left _ hn')) hk)
      · cases h
    · cases h
  | pick c x y =>
    have h := optL h
    simp only [Ins.okL, Bool.and_eq_true] at hk
    unfold pickV at h
    split at h
    · cases h
      split
      · exact NoL.arg (S := S) (fun n hn' => hn n (List.mem_append_left _ (List.mem_append_right _ hn'))) hk.1
      · exact NoL.arg (S := S) (fun n hn' => hn n (List.mem_append_right _ hn')) hk.2
    · cases h
  | ld x n a => exact fin (bindL (fun _ ha => aggOr_notL ha) (optL h))
  | ldl k x n a =>
    have h := optL h
    unfold ldlV at h
    split at h
    · split at h
      · exact fin (bindL (fun _ ha => aggOr_notL ha) h)
      · cases h
    · cases h
  | mkz s z x =>
    have h := optL h
    unfold mkzV at h
    split at h
    · split at h <;> cases h; exact fin rfl
    · cases h
  | stl k x v' n =>
    simp only [evV] at h
    unfold stlI at h
    split at h
    · split at h
      · rename_i s o _ _
        unfold stI at h
        split at h
        · cases hs : stCells S (.lptr s o) (S.arg v').cells with
          | none => rw [hs] at h; cases h
          | some T' => rw [hs] at h; cases h; exact fin rfl
        · cases h
      · cases h
    · cases h
  | fldv x k n a =>
    have h := optL h
    unfold fldvV at h
    split at h
    · exact fin (bindL (fun _ ha => aggOr_notL ha) h)
    · cases h
  | ixc x y =>
    have h := optL h
    unfold ixcV at h
    split at h
    · split at h
      · split at h <;> cases h; exact fin rfl
      · cases h
    · cases h
  | ixv x y s n a =>
    have h := optL h
    unfold ixvV at h
    split at h
    · split at h
      · exact fin (bindL (fun _ ha => aggOr_notL ha) h)
      · cases h
    · cases h
  | ext x k =>
    have h := optL h
    unfold extV at h
    split at h
    · refine fin (bindL (fun a ha => ?_) h)
      split at ha
      · rename_i hl; cases ha; exact hl
      · cases ha
    · cases h
  | call f as p => exact fin (callV_notL h)
  | callv x as p => exact fin (callV_notL h)
  | bin op x y =>
    have h := optL h
    unfold binV at h
    split at h
    · split at h
      · refine fin ?_; revert h; generalize intOp _ _ _ _ = z; intro h; cases z <;> cases h; rfl
      · cases h
    · cases h
  | eqb ng x y => have h := optL h; unfold eqbV at h; split at h <;> cases h; exact fin rfl
  | eqn k ng x => have h := optL h; unfold eqnV at h; split at h <;> cases h; exact fin rfl
  | eqa ng sh x y =>
    have h := optL h
    unfold eqaV at h
    split at h
    · split at h <;> cases h; exact fin rfl
    · cases h
  | eqs ng x y => have h := optL h; unfold eqsV at h; split at h <;> cases h; exact fin rfl
  | un op x => have h := optL h; unfold unV at h; split at h <;> cases h <;> exact fin rfl
  | conv k x => have h := optL h; unfold convV at h; split at h <;> cases h; exact fin rfl
  | len x =>
    have h := optL h
    unfold lenR at h
    split at h
    · cases h; exact fin rfl
    · cases h
  | mnmx m x y =>
    have h := optL h
    unfold mnmxV at h
    split at h
    · split at h
      · cases h; exact fin rfl
      · cases h
    · cases h
  | ixs x y s => exact fin (ixsI_notL (optL h))
  | st x v' n =>
    simp only [evV] at h
    unfold stI at h
    split at h
    · cases hs : stCells S (S.arg x) (S.arg v').cells with
      | none => rw [hs] at h; cases h
      | some T' => rw [hs] at h; cases h; exact fin rfl
    · cases h
  | al z l => cases l <;> simp only [evV] at h <;> cases h; exact fin rfl
  | bx x n l =>
    cases l
    · simp only [evV] at h; split at h <;> cases h; exact fin rfl
    · simp only [evV] at h; cases h
  | alp z => simp only [evV] at h; cases h
  | bxp x n => simp only [evV] at h; cases h
  | nrow s => simp only [evV] at h; cases h; exact fin rfl
  | bld z ps =>
    have h := optL h
    unfold aggR at h
    split at h <;> cases h; exact fin rfl
  | bsl s l z ps =>
    have h := optL h
    unfold slR at h
    split at h
    · cases h; exact fin rfl
    · split at h <;> cases h <;> exact fin rfl
    · cases h
  | app x y s => exact fin (appV_notL h)
  | slc x lo hi s =>
    have h := optL h
    unfold slcI at h
    split at h
    · exact fin (slcV_notL h)
    · exact fin (slcV_notL h)
    · exact fin (slcV_notL h)
    · exact fin (slcV_notL h)
    · cases h
  | slca x lo s n =>
    have h := optL h
    unfold slcaV at h
    split at h
    · split at h
      · split at h <;> cases h <;> exact fin rfl
      · cases h
    · split at h
      · split at h
        · split at h <;> cases h <;> exact fin rfl
        · cases h
      · cases h
    · cases h
  | clr x s z =>
    simp only [evV] at h
    unfold clrI at h
    split at h
    · split at h
      · cases hs : stCells S (.ptr ‹Nat› ‹Nat›) (List.replicate ‹Nat› z).flatten with
        | none => refine fin ?_; revert h; generalize stCells S _ _ = q; intro h; cases q <;> cases h; rfl
        | some T' => refine fin ?_; revert h; generalize stCells S _ _ = q; intro h; cases q <;> cases h; rfl
      · cases h
    · cases h; exact fin rfl
    · cases h
  | bsr s l z ps => exact fin (rowI_notL h)
  | mks s z n =>
    simp only [evV] at h
    unfold mksI at h
    split at h
    · split at h <;> cases h; exact fin rfl
    · cases h
  | mkf f as bs =>
    have h := optL h
    unfold mkfV at h
    split at h <;> cases h; exact fin rfl

/-- No box goes. -/
theorem stCells_keys {x : V} {vs : List V} {T : St} (h : stCells S x vs = some T) (s : Nat) : (getL T.loc s).isSome = (getL S.loc s).isSome := by
  unfold stCells at h
  split at h
  · rename_i t o
    cases hg : getL S.loc t with
    | none => rw [hg] at h; cases h
    | some ds =>
      rw [hg] at h
      simp only [Option.bind_some] at h
      split at h
      · cases h
      · cases hss : setSubs ds o vs with
        | none => rw [hss] at h; cases h
        | some ds' =>
          rw [hss] at h; cases h
          rw [getL_setL']
          split
          · rename_i e; subst e; rw [hg]; rfl
          · rfl
  · rename_i id o
    cases hg : boxAt S.hp id with
    | none => rw [hg] at h; cases h
    | some ds =>
      rw [hg] at h
      simp only [Option.bind_some] at h
      cases hss : setSubs ds o vs with
      | none => rw [hss] at h; cases h
      | some ds' => rw [hss] at h; cases h; rfl
  · rename_i id tot m j
    cases hg : rowAt S.hp id with
    | none => rw [hg] at h; cases h
    | some p =>
      obtain ⟨z, es⟩ := p
      rw [hg] at h
      simp only [Option.bind_some] at h
      split at h
      · cases he : es[m]? with
        | none => rw [he] at h; cases h
        | some el =>
          rw [he] at h
          simp only [Option.bind_some] at h
          cases hss : setSubs el j vs with
          | none => rw [hss] at h; cases h
          | some el' => rw [hss] at h; cases h; rfl
      · cases h
  · cases h

theorem evV_keys {i : Ins} {v : V} {T : St} (h : evV cl i S = some (v, T)) (s : Nat) : (getL T.loc s).isSome = (getL S.loc s).isSome := by
  have hm : ∀ {r : Option V}, r.map (·, S) = some (v, T) → T = S := fun {r} hr => by
    cases r with
    | none => cases hr
    | some x => cases hr; rfl
  have hp : ∀ {p : Bool} {f : V} {vs : List V}, evV.callV cl S p f vs = some (v, T) → T.loc = S.loc := fun {p f vs} hr => by
    unfold evV.callV at hr
    split at hr
    · generalize cl f vs S.hp = r at hr
      match r, hr with
      | some (v, none), hr =>
        simp only at hr
        split at hr
        · cases hr; rfl
        · cases hr
      | some (v, some (H, ds)), hr =>
        simp only at hr
        split at hr
        · cases hr
        · cases hr; rfl
    · cases hr
  have loc : T.loc = S.loc → (getL T.loc s).isSome = (getL S.loc s).isSome := fun e => by rw [e]
  cases i with
  | st x v' n =>
    simp only [evV] at h
    unfold stI at h
    split at h
    · cases hs : stCells S (S.arg x) (S.arg v').cells with
      | none => rw [hs] at h; cases h
      | some T' => rw [hs] at h; cases h; exact stCells_keys hs s
    · cases h
  | stl k x v' n =>
    simp only [evV] at h
    unfold stlI at h
    split at h
    · split at h
      · rename_i s' o _ _
        unfold stI at h
        split at h
        · cases hs : stCells S (.lptr s' o) (S.arg v').cells with
          | none => rw [hs] at h; cases h
          | some T' => rw [hs] at h; cases h; exact stCells_keys hs s
        · cases h
      · cases h
    · cases h
  | call f as p => exact loc (hp h)
  | callv x as p => exact loc (hp h)
  | app x y n =>
    simp only [evV] at h
    refine loc ?_
    unfold appV at h
    cases he : elems S.hp (S.arg y) with
    | none => rw [he] at h; cases h
    | some ys =>
      rw [he] at h
      simp only [Option.bind_some] at h
      split at h
      · split at h
        · split at h
          · split at h <;> cases h <;> rfl
          · cases h
        · rename_i id _ _ _ _
          cases hro : rowAt S.hp id with
          | none => rw [hro] at h; cases h
          | some p =>
            obtain ⟨s', es⟩ := p
            rw [hro] at h
            simp only [Option.bind_some] at h
            split at h <;> cases h; rfl
        · cases h
      · cases h
  | clr x n z =>
    simp only [evV] at h
    unfold clrI at h
    split at h
    · split at h
      · rename_i id off len s' hx hs'
        cases hs : stCells S (.ptr id off) (List.replicate len z).flatten with
        | none => rw [hs] at h; cases h
        | some T' => rw [hs] at h; cases h; exact stCells_keys hs s
      · cases h
    · cases h; rfl
    · cases h
  | bsr s l z ps => obtain ⟨l, -, -, -, rfl⟩ := rowI_some h; rfl
  | mks n z x =>
    simp only [evV] at h
    unfold mksI at h
    split at h
    · split at h <;> cases h; rfl
    · cases h
  | al z l => cases l <;> simp only [evV] at h <;> cases h; rfl
  | bx x n l =>
    cases l
    · simp only [evV] at h; split at h <;> cases h; rfl
    · simp only [evV] at h; cases h
  | nrow n => simp only [evV] at h; cases h; rfl
  | mov x => simp only [evV] at h; cases h; rfl
  | alp z => simp only [evV] at h; cases h
  | bxp x n => simp only [evV] at h; cases h
  | _ => simp only [evV] at h; rw [hm h]

/-- Has it nothing to do with this local box? -/
def Ins.noK (k : Nat) : Ins → Bool
  | .ld .. | .st .. | .alp _ | .bxp .. | .al _ true | .bx _ _ true => false
  | .ldl k' .. | .stl k' .. => k' != k
  | _ => true

theorem evV_withK {t : Nat} {cs : List V} {i : Ins} (hk : i.noK t = true) (ht : (getL S.loc t).isSome = true) : evV cl i (S.withL t cs) = (evV cl i S).map fun p => (p.1, p.2.withL t cs) := by
  have ha : (S.withL t cs).arg = S.arg := by funext x; cases x <;> rfl
  have hm : ∀ (r : Option V), r.map (·, S.withL t cs) = (r.map (·, S)).map fun p : V × St => (p.1, p.2.withL t cs) := fun r => by cases r <;> rfl
  cases i with
  | ldl k x n agg =>
    have hne : k ≠ t := by simpa [Ins.noK] using hk
    simp only [evV, ha]
    rw [ldlV_withL (.inl hne)]
    exact hm _
  | stl k x v n =>
    have hne : k ≠ t := by simpa [Ins.noK] using hk
    simp only [evV, ha]
    unfold stlI
    split
    · rename_i s o _
      split
      · rename_i hs
        exact stI_withL (fun o' e => by cases e; exact hne hs.symm) ht
      · rfl
    · rfl
  | ld => simp [Ins.noK] at hk
  | st => simp [Ins.noK] at hk
  | alp => simp [Ins.noK] at hk
  | bxp => simp [Ins.noK] at hk
  | mov x => simp only [evV, ha]; rfl
  | off x k => simp only [evV, ha]; exact hm _
  | nck x => simp only [evV, ha]; exact hm _
  | ixa x y s n => simp only [evV, ha]; exact hm _
  | pick c x y => simp only [evV, ha]; exact hm _
  | app x y s => simp only [evV, ha]; exact appV_withL ..
  | clr x s z =>
    simp only [evV, ha]
    unfold clrI
    split
    · split
      · rw [st_withL (fun o => by simp) ht]; cases stCells S _ (List.replicate _ z).flatten <;> rfl
      · rfl
    · rfl
    · rfl
  | bsr s l z ps => simp only [evV, ha]; exact rowI_withL ..
  | mks s z n =>
    simp only [evV, ha]
    unfold mksI
    split
    · split <;> rfl
    · rfl
  | call f as p => simp only [evV, ha]; exact callV_withL ..
  | callv x as p => simp only [evV, ha]; exact callV_withL ..
  | nrow s => rfl
  | al z l => cases l <;> rfl
  | bx x n l =>
    cases l
    · simp only [evV, ha]; split <;> rfl
    · rfl
  | _ => simp only [evV, ha]; exact hm _

theorem stCells_keepK {t : Nat} {x : V} {vs : List V} {T : St} (hx : ∀ o, x ≠ .lptr t o) (h : stCells S x vs = some T) : getL T.loc t = getL S.loc t := by
  unfold stCells at h
  split at h
  · rename_i s o
    cases hg : getL S.loc s with
    | none => rw [hg] at h; cases h
    | some ds =>
      rw [hg] at h
      simp only [Option.bind_some] at h
      split at h
      · cases h
      · cases hss : setSubs ds o vs with
        | none => rw [hss] at h; cases h
        | some ds' =>
          rw [hss] at h; cases h
          rw [getL_setL', if_neg fun e => hx o (by rw [e])]
  · rename_i id o
    cases hg : boxAt S.hp id with
    | none => rw [hg] at h; cases h
    | some ds =>
      rw [hg] at h
      simp only [Option.bind_some] at h
      cases hss : setSubs ds o vs with
      | none => rw [hss] at h; cases h
      | some ds' => rw [hss] at h; cases h; rfl
  · rename_i id tot m j
    cases hg : rowAt S.hp id with
    | none => rw [hg] at h; cases h
    | some p =>
      obtain ⟨z, es⟩ := p
      rw [hg] at h
      simp only [Option.bind_some] at h
      split at h
      · cases he : es[m]? with
        | none => rw [he] at h; cases h
        | some el =>
          rw [he] at h
          simp only [Option.bind_some] at h
          cases hss : setSubs el j vs with
          | none => rw [hss] at h; cases h
          | some el' => rw [hss] at h; cases h; rfl
      · cases h
  · cases h

theorem evV_keepK {t : Nat} {i : Ins} (hk : i.noK t = true) {v : V} {T : St} (h : evV cl i S = some (v, T)) : getL T.loc t = getL S.loc t := by
  have hm : ∀ {r : Option V}, r.map (·, S) = some (v, T) → getL T.loc t = getL S.loc t := fun {r} hr => by
    cases r with
    | none => cases hr
    | some x => cases hr; rfl
  have hp : ∀ {p : Bool} {f : V} {vs : List V}, evV.callV cl S p f vs = some (v, T) → getL T.loc t = getL S.loc t := fun {p f vs} hr => by
    unfold evV.callV at hr
    split at hr
    · generalize cl f vs S.hp = r at hr
      match r, hr with
      | some (v, none), hr =>
        simp only at hr
        split at hr
        · cases hr; rfl
        · cases hr
      | some (v, some (H, ds)), hr =>
        simp only at hr
        split at hr
        · cases hr
        · cases hr; rfl
    · cases hr
  cases i with
  | ld => simp [Ins.noK] at hk
  | st => simp [Ins.noK] at hk
  | alp => simp [Ins.noK] at hk
  | bxp => simp [Ins.noK] at hk
  | stl k x v' n =>
    have hne : k ≠ t := by simpa [Ins.noK] using hk
    simp only [evV] at h
    unfold stlI at h
    split at h
    · rename_i s' o _
      split at h
      · rename_i hs'
        unfold stI at h
        split at h
        · cases hs : stCells S (.lptr s' o) (S.arg v').cells with
          | none => rw [hs] at h; cases h
          | some T' => rw [hs] at h; cases h; exact stCells_keepK (fun o' e => by cases e; exact hne hs'.symm) hs
        · cases h
      · cases h
    · cases h
  | call f as p => exact hp h
  | callv x as p => exact hp h
  | app x y n =>
    simp only [evV] at h
    unfold appV at h
    cases he : elems S.hp (S.arg y) with
    | none => rw [he] at h; cases h
    | some ys =>
      rw [he] at h
      simp only [Option.bind_some] at h
      split at h
      · split at h
        · split at h
          · split at h <;> cases h <;> rfl
          · cases h
        · rename_i id _ _ _ _
          cases hro : rowAt S.hp id with
          | none => rw [hro] at h; cases h
          | some p =>
            obtain ⟨s', es⟩ := p
            rw [hro] at h
            simp only [Option.bind_some] at h
            split at h <;> cases h; rfl
        · cases h
      · cases h
  | clr x n z =>
    simp only [evV] at h
    unfold clrI at h
    split at h
    · split at h
      · rename_i id off len s' hx hs'
        cases hs : stCells S (.ptr id off) (List.replicate len z).flatten with
        | none => rw [hs] at h; cases h
        | some T' => rw [hs] at h; cases h; exact stCells_keepK (fun o => by simp) hs
      · cases h
    · cases h; rfl
    · cases h
  | bsr s l z ps => obtain ⟨l, -, -, -, rfl⟩ := rowI_some h; rfl
  | mks n z x =>
    simp only [evV] at h
    unfold mksI at h
    split at h
    · split at h <;> cases h; rfl
    · cases h
  | al z l => cases l <;> simp only [evV] at h <;> cases h; rfl
  | bx x n l =>
    cases l
    · simp only [evV] at h; split at h <;> cases h; rfl
    · simp only [evV] at h; cases h
  | nrow n => simp only [evV] at h; cases h; rfl
  | mov x => simp only [evV] at h; cases h; rfl
  | _ => simp only [evV] at h; exact hm h

/-- Has it nothing to do with local boxes at all? -/
def Ins.heapOnly : Ins → Bool
  | .call .. | .callv .. | .app .. | .mks .. | .bsr .. | .nrow _ | .al _ false | .bx _ _ false => true
  | _ => false
def Ins.isLdl : Ins → Bool
  | .ldl .. => true
  | _ => false

theorem evV_heapOnly {i : Ins} (hk : i.heapOnly = true) {v : V} {T : St} (h : evV cl i S = some (v, T)) : T.loc = S.loc := by
  have hp : ∀ {p : Bool} {f : V} {vs : List V}, evV.callV cl S p f vs = some (v, T) → T.loc = S.loc := fun {p f vs} hr => by
    unfold evV.callV at hr
    split at hr
    · generalize cl f vs S.hp = r at hr
      match r, hr with
      | some (v, none), hr =>
        simp only at hr
        split at hr
        · cases hr; rfl
        · cases hr
      | some (v, some (H, ds)), hr =>
        simp only at hr
        split at hr
        · cases hr
        · cases hr; rfl
    · cases hr
  cases i with
  | call f as p => exact hp h
  | callv x as p => exact hp h
  | app x y n =>
    simp only [evV] at h
    unfold appV at h
    cases he : elems S.hp (S.arg y) with
    | none => rw [he] at h; cases h
    | some ys =>
      rw [he] at h
      simp only [Option.bind_some] at h
      split at h
      · split at h
        · split at h
          · split at h <;> cases h <;> rfl
          · cases h
        · rename_i id _ _ _ _
          cases hro : rowAt S.hp id with
          | none => rw [hro] at h; cases h
          | some p =>
            obtain ⟨s', es⟩ := p
            rw [hro] at h
            simp only [Option.bind_some] at h
            split at h <;> cases h; rfl
        · cases h
      · cases h
  | bsr s l z ps => obtain ⟨l, -, -, -, rfl⟩ := rowI_some h; rfl
  | mks n z x =>
    simp only [evV] at h
    unfold mksI at h
    split at h
    · split at h <;> cases h; rfl
    · cases h
  | al z l =>
    cases l
    · simp only [evV] at h; cases h; rfl
    · simp [Ins.heapOnly] at hk
  | bx x n l =>
    cases l
    · simp only [evV] at h; split at h <;> cases h; rfl
    · simp [Ins.heapOnly] at hk
  | nrow n => simp only [evV] at h; cases h; rfl
  | _ => simp [Ins.heapOnly] at hk

theorem evV_ldl {i : Ins} (hk : i.isLdl = true) {T : St} (hr : ∀ t ∈ i.reads, getE S.env t = getE T.env t) (hl : T.loc = S.loc) : evV cl i T = (evV cl i S).map fun p => (p.1, T) := by
  cases i with
  | ldl k x n agg =>
    have ha : T.arg x = S.arg x := by
      cases x with
      | t m => exact (hr m (by simp [Ins.reads, argT])).symm
      | c v => rfl
    simp only [evV, ha]
    have hv : ldlV T k n agg (S.arg x) = ldlV S k n agg (S.arg x) := by
      unfold ldlV
      split
      · simp only [ldCells, hl]
      · rfl
    rw [hv]
    cases ldlV S k n agg (S.arg x) <;> rfl
  | _ => simp [Ins.isLdl] at hk
end
end Go.Eng
