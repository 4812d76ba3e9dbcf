/- The engine, part 18: the order of operations that do not touch one another. -/
import Derived.Test.YtfjgcfloallohaaEng17
namespace Go.Eng
open Go

/-- The value and the memory behind an instruction. -/
def evV (cl : ClT) (i : Ins) (S : St) : Option (V × St) :=
  match i with
  | .mov x => some (S.arg x, S)
  | .nrow s => some (.row S.hp.length 0 0 0, { S with hp := S.hp ++ [DObj.row s []] })
  | .bin op x y => (binV op (S.arg x) (S.arg y)).map (·, S)
  | .eqb ng x y => (eqbV ng (S.arg x) (S.arg y)).map (·, S)
  | .eqn k ng x => (eqnV k ng (S.arg x)).map (·, S)
  | .eqa ng x y => (eqaV ng (S.arg x) (S.arg y)).map (·, S)
  | .un op x => (unV op (S.arg x)).map (·, S)
  | .conv k x => (convV k (S.arg x)).map (·, S)
  | .len x => (lenR (lenV (S.arg x))).map (·, S)
  | .mnmx mx x y => (mnmxV mx (S.arg x) (S.arg y)).map (·, S)
  | .pick c a b => (pickV (S.arg c) (S.arg a) (S.arg b)).map (·, S)
  | .off x k => (shiftV (S.arg x) k).map (·, S)
  | .ixa x i s n => (ixaV (S.arg x) (S.arg i) s n).map (·, S)
  | .ixs x i s => (ixsI S.hp (S.arg x) (S.arg i) s).map (·, S)
  | .ixv x i s n agg => (ixvV (S.arg x) (S.arg i) s n agg).map (·, S)
  | .fldv x o n agg => (fldvV (S.arg x) o n agg).map (·, S)
  | .ld x n agg => ((ldCells S (S.arg x) n).bind (aggOr agg)).map (·, S)
  | .st x v n => stI S (S.arg x) (S.arg v) n
  | .al zero false => some (.ptr S.hp.length 0, { S with hp := S.hp ++ [DObj.box zero] })
  | .al _ true => none
  | .bx x n false => if (S.arg x).cells.length = n ∧ (S.arg x).cells.all V.oneB = true then some (.ptr S.hp.length 0, { S with hp := S.hp ++ [DObj.box (S.arg x).cells] }) else none
  | .bx _ _ true => none
  | .bld zero parts => (aggR (fillV zero (parts.map fun (o, n, x) => (o, n, S.arg x)))).map (·, S)
  | .bsl s len zero parts => (slR (fillS s (List.replicate len zero) (parts.map fun (i, x) => (i, S.arg x)))).map (·, S)
  | .app x y s => appV S (S.arg x) (S.arg y) s
  | .slc x lo hi s => (slcI S.hp s (S.arg x) (lo.map S.arg) (hi.map S.arg)).map (·, S)
  | .mks s zero n => mksI S s zero (S.arg n)
  | .ext x i => (extV (S.arg x) i).map (·, S)
  | .call f args pure => callV S pure (.p (.fn f)) (args.map fun a => normA (S.arg a))
  | .callv x args pure => callV S pure (S.arg x) (args.map fun a => normA (S.arg a))
  | .mkf f first cap => (mkfV f (first.map fun x => normA (S.arg x)) (cap.map fun x => normA (S.arg x))).map (·, S)
  | .nck x => (nckV (S.arg x)).map (·, S)
  where
  callV (S : St) (pure : Bool) (f : V) (vs : List V) : Option (V × St) :=
    if vs.all V.outB = true then
      match cl f vs S.hp with
      | some (v, none) => some (v, S)
      | some (v, some H) => if pure = true then none else some (v, { S with hp := H, dirty := true })
      | none => none
    else none

/-- A box that lies in the heap. -/
def Ins.heapy (d : Option Nat) : Ins → Bool
  | .al _ l => !l && d.isSome
  | .bx _ _ l => !l && d.isSome
  | _ => true

/-- 0: of temporaries alone; 1: reads memory; 2: turns memory. -/
def Ins.cls : Ins → Nat
  | .ixs .. | .ld .. | .slc .. => 1
  | .call _ _ p => if p then 1 else 2
  | .callv _ _ p => if p then 1 else 2
  | .nrow _ | .st .. | .al .. | .bx .. | .app .. | .mks .. => 2
  | _ => 0

def argT : Arg → List Nat
  | .t n => [n]
  | .c _ => []
def optT : Option Arg → List Nat
  | some a => argT a
  | none => []

def Ins.reads : Ins → List Nat
  | .mov x | .un _ x | .conv _ x | .len x | .off x _ | .fldv x .. | .ld x .. | .bx x .. | .ext x _ | .nck x | .mks _ _ x | .eqn _ _ x => argT x
  | .bin _ x y | .eqb _ x y | .eqa _ x y | .mnmx _ x y | .ixa x y .. | .ixs x y _ | .ixv x y .. | .st x y _ | .app x y _ => argT x ++ argT y
  | .pick c x y => argT c ++ argT x ++ argT y
  | .nrow _ | .al .. => []
  | .bld _ ps => ps.flatMap fun (_, _, x) => argT x
  | .bsl _ _ _ ps => ps.flatMap fun (_, x) => argT x
  | .slc x lo hi _ => argT x ++ optT lo ++ optT hi
  | .call _ as _ => as.flatMap argT
  | .callv x as _ => argT x ++ as.flatMap argT
  | .mkf _ as bs => as.flatMap argT ++ bs.flatMap argT

theorem evIns_evV (cl : ClT) (d : Option Nat) (i : Ins) (S : St) (h : i.heapy d = true) : evIns cl d i S = (evV cl i S).map fun p => p.2.put d p.1 := by
  have hS : ∀ (r : Option V), retS S d r = (r.map (·, S)).map fun p => p.2.put d p.1 := fun r => by cases r <;> rfl
  have hP : ∀ (r : Option (V × St)), retP d r = r.map fun p => p.2.put d p.1 := fun r => by cases r <;> rfl
  have hC : ∀ (p : Bool) (f : V) (vs : List V), callI cl S d p f vs = (evV.callV cl S p f vs).map fun p => p.2.put d p.1 := fun p f vs => by
    unfold callI evV.callV callR
    split
    · generalize cl f vs S.hp = r
      match r with
      | none => rfl
      | some (v, none) => rfl
      | some (v, some H) => cases p <;> rfl
    · rfl
  cases i <;> simp only [evIns, evV] <;> first
    | exact hS _
    | exact hP _
    | exact hC _ _ _
    | rfl
    | skip
  · rename_i z l
    cases l
    · cases d
      · simp [Ins.heapy] at h
      · rfl
    · simp [Ins.heapy] at h
  · rename_i x n l
    cases l
    · cases d
      · simp [Ins.heapy] at h
      · simp only [bxI, boxI]
        split <;> rfl
    · simp [Ins.heapy] at h

section
variable {cl : ClT} {S : St} {e : List (Nat × V)}

theorem arg_agree {x : Arg} (h : ∀ t ∈ argT x, getE S.env t = getE e t) : St.arg { S with env := e } x = S.arg x := by
  cases x with
  | t n => exact (h n (by simp [argT])).symm
  | c v => rfl

theorem map_agree {β : Type} {xs : List Arg} (f : V → β) (h : ∀ t ∈ xs.flatMap argT, getE S.env t = getE e t) : xs.map (fun x => f (St.arg { S with env := e } x)) = xs.map (fun x => f (S.arg x)) := by
  apply List.map_congr_left
  intro x hx
  rw [arg_agree fun t ht => h t (List.mem_flatMap.2 ⟨x, hx, ht⟩)]

theorem opt_agree {x : Option Arg} (h : ∀ t ∈ optT x, getE S.env t = getE e t) : x.map (St.arg { S with env := e }) = x.map S.arg := by
  cases x with
  | none => rfl
  | some x => simp only [Option.map_some]; rw [arg_agree h]

theorem stCells_env (x : V) (vs : List V) : stCells { S with env := e } x vs = (stCells S x vs).map fun T => { T with env := e } := by
  unfold stCells
  split
  · cases getL S.loc _ with
    | none => rfl
    | some cs => simp only [Option.bind_some]; cases setSubs cs _ vs <;> rfl
  · cases boxAt S.hp _ with
    | none => rfl
    | some cs => simp only [Option.bind_some]; cases setSubs cs _ vs <;> rfl
  · rename_i id tot i j
    cases rowAt S.hp id with
    | none => rfl
    | some p =>
      obtain ⟨s, es⟩ := p
      simp only [Option.bind_some]
      split
      · cases es[i]? with
        | none => rfl
        | some el =>
          simp only [Option.bind_some]
          cases plains vs with
          | none => rfl
          | some xs => simp only [Option.bind_some]; cases setSubs el _ xs <;> rfl
      · rfl
  · rfl

theorem stI_env (x v : V) (m : Nat) : stI { S with env := e } x v m = (stI S x v m).map fun p => (p.1, { p.2 with env := e }) := by
  unfold stI
  split
  · rw [stCells_env]; cases stCells S x v.cells <;> rfl
  · rfl

theorem appV_env (x y : V) (s : Nat) : appV { S with env := e } x y s = (appV S x y s).map fun p => (p.1, { p.2 with env := e }) := by
  unfold appV
  cases elems S.hp y with
  | none => rfl
  | some ys =>
    simp only [Option.bind_some]
    split
    · split
      · split
        · split <;> rfl
        · rfl
      · cases rowAt S.hp _ with
        | none => rfl
        | some p =>
          obtain ⟨s', es⟩ := p
          simp only [Option.bind_some]
          split <;> rfl
      · rfl
    · rfl

theorem mksI_env (s : Nat) (zero : List PV) (x : V) : mksI { S with env := e } s zero x = (mksI S s zero x).map fun p => (p.1, { p.2 with env := e }) := by
  unfold mksI
  split
  · split <;> rfl
  · rfl

theorem callV_env (p : Bool) (f : V) (vs : List V) : evV.callV cl { S with env := e } p f vs = (evV.callV cl S p f vs).map fun p => (p.1, { p.2 with env := e }) := by
  unfold evV.callV
  split
  · simp only
    generalize cl f vs S.hp = r
    match r with
    | none => rfl
    | some (v, none) => rfl
    | some (v, some H) => cases p <;> rfl
  · rfl

theorem evV_env {i : Ins} (h : ∀ t ∈ i.reads, getE S.env t = getE e t) : evV cl i { S with env := e } = (evV cl i S).map fun p => (p.1, { p.2 with env := e }) := by
  have hm : ∀ (r : Option V), r.map (·, { S with env := e }) = (r.map (·, S)).map fun p : V × St => (p.1, { p.2 with env := e }) := fun r => by cases r <;> rfl
  cases i with
  | mov x => simp only [evV]; rw [arg_agree h]; rfl
  | nrow s => rfl
  | al z l => cases l <;> rfl
  | un op x => simp only [evV]; rw [arg_agree h]; exact hm _
  | conv k x => simp only [evV]; rw [arg_agree h]; exact hm _
  | len x => simp only [evV]; rw [arg_agree h]; exact hm _
  | off x k => simp only [evV]; rw [arg_agree h]; exact hm _
  | fldv x o n agg => simp only [evV]; rw [arg_agree h]; exact hm _
  | ld x n agg => simp only [evV]; rw [arg_agree h]; exact hm _
  | ext x i => simp only [evV]; rw [arg_agree h]; exact hm _
  | nck x => simp only [evV]; rw [arg_agree h]; exact hm _
  | eqn k ng x => simp only [evV]; rw [arg_agree h]; exact hm _
  | mks s z x => simp only [evV]; rw [arg_agree h]; exact mksI_env ..
  | bx x n l =>
    cases l
    · simp only [evV]; rw [arg_agree h]; split <;> rfl
    · rfl
  | bin op x y => simp only [evV]; rw [arg_agree fun t ht => h t (List.mem_append_left _ ht), arg_agree fun t ht => h t (List.mem_append_right _ ht)]; exact hm _
  | eqb op x y => simp only [evV]; rw [arg_agree fun t ht => h t (List.mem_append_left _ ht), arg_agree fun t ht => h t (List.mem_append_right _ ht)]; exact hm _
  | eqa op x y => simp only [evV]; rw [arg_agree fun t ht => h t (List.mem_append_left _ ht), arg_agree fun t ht => h t (List.mem_append_right _ ht)]; exact hm _
  | mnmx op x y => simp only [evV]; rw [arg_agree fun t ht => h t (List.mem_append_left _ ht), arg_agree fun t ht => h t (List.mem_append_right _ ht)]; exact hm _
  | ixa x y s n => simp only [evV]; rw [arg_agree fun t ht => h t (List.mem_append_left _ ht), arg_agree fun t ht => h t (List.mem_append_right _ ht)]; exact hm _
  | ixs x y s => simp only [evV]; rw [arg_agree fun t ht => h t (List.mem_append_left _ ht), arg_agree fun t ht => h t (List.mem_append_right _ ht)]; exact hm _
  | ixv x y s n agg => simp only [evV]; rw [arg_agree fun t ht => h t (List.mem_append_left _ ht), arg_agree fun t ht => h t (List.mem_append_right _ ht)]; exact hm _
  | st x y n => simp only [evV]; rw [arg_agree fun t ht => h t (List.mem_append_left _ ht), arg_agree fun t ht => h t (List.mem_append_right _ ht)]; exact stI_env ..
  | app x y n => simp only [evV]; rw [arg_agree fun t ht => h t (List.mem_append_left _ ht), arg_agree fun t ht => h t (List.mem_append_right _ ht)]; exact appV_env ..
  | pick c x y =>
    simp only [evV]
    rw [arg_agree fun t ht => h t (List.mem_append_left _ (List.mem_append_left _ ht)), arg_agree fun t ht => h t (List.mem_append_left _ (List.mem_append_right _ ht)), arg_agree fun t ht => h t (List.mem_append_right _ ht)]
    exact hm _
  | bld z ps =>
    simp only [evV]
    have : (ps.map fun (o, n, x) => (o, n, St.arg { S with env := e } x)) = ps.map fun (o, n, x) => (o, n, S.arg x) := by
      apply List.map_congr_left
      rintro ⟨o, n, x⟩ hx
      show (o, n, _) = (o, n, _)
      rw [arg_agree fun t ht => h t (List.mem_flatMap.2 ⟨_, hx, ht⟩)]
    rw [this]; exact hm _
  | bsl s l z ps =>
    simp only [evV]
    have : (ps.map fun (i, x) => (i, St.arg { S with env := e } x)) = ps.map fun (i, x) => (i, S.arg x) := by
      apply List.map_congr_left
      rintro ⟨i, x⟩ hx
      show (i, _) = (i, _)
      rw [arg_agree fun t ht => h t (List.mem_flatMap.2 ⟨_, hx, ht⟩)]
    rw [this]; exact hm _
  | slc x lo hi s =>
    simp only [evV]
    rw [arg_agree fun t ht => h t (List.mem_append_left _ (List.mem_append_left _ ht)), opt_agree fun t ht => h t (List.mem_append_left _ (List.mem_append_right _ ht)), opt_agree fun t ht => h t (List.mem_append_right _ ht)]
    exact hm _
  | call f as p => simp only [evV]; rw [map_agree normA h]; exact callV_env ..
  | callv x as p => simp only [evV]; rw [arg_agree fun t ht => h t (List.mem_append_left _ ht), map_agree normA fun t ht => h t (List.mem_append_right _ ht)]; exact callV_env ..
  | mkf f as bs => simp only [evV]; rw [map_agree normA fun t ht => h t (List.mem_append_left _ ht), map_agree normA fun t ht => h t (List.mem_append_right _ ht)]; exact hm _

theorem evV_keeps {i : Ins} {v : V} {T : St} (h : evV cl i S = some (v, T)) : T.env = S.env := by
  have := evV_env (cl := cl) (S := S) (e := S.env) (i := i) (fun _ _ => rfl)
  have e1 : { S with env := S.env } = S := rfl
  rw [e1, h] at this
  simp only [Option.map_some, Option.some.injEq, Prod.mk.injEq, true_and] at this
  rw [this]

theorem evV_reads {i : Ins} (hc : i.cls ≤ 1) {v : V} {T : St} (h : evV cl i S = some (v, T)) : T = S := by
  have hm : ∀ {r : Option V}, r.map (·, S) = some (v, T) → T = S := fun {r} hr => by
    cases r with
    | none => cases hr
    | some x => cases hr; rfl
  have hp : ∀ {f : V} {vs : List V}, evV.callV cl S true f vs = some (v, T) → T = S := fun {f vs} hr => by
    unfold evV.callV at hr
    split at hr
    · generalize cl f vs S.hp = r at hr
      match r, hr with
      | some (v, none), hr => cases hr; rfl
      | some (v, some H), hr => cases hr
      | none, hr => cases hr
    · cases hr
  cases i <;> simp only [evV] at h <;> first
    | exact hm h
    | (simp [Ins.cls] at hc; done)
    | (cases h; rfl)
    | skip
  · rename_i f as p
    cases p
    · simp [Ins.cls] at hc
    · exact hp h
  · rename_i f as p
    cases p
    · simp [Ins.cls] at hc
    · exact hp h

theorem evV_zero {i : Ins} (hc : i.cls = 0) {T : St} (he : T.env = S.env) : evV cl i T = (evV cl i S).map fun p => (p.1, T) := by
  have ha : T.arg = S.arg := by funext x; cases x with
    | t n => simp only [St.arg, he]
    | c v => rfl
  have hm : ∀ (r : Option V), r.map (·, T) = (r.map (·, S)).map fun p : V × St => (p.1, T) := fun r => by cases r <;> rfl
  cases i <;> simp only [evV, ha] <;> first
    | exact hm _
    | rfl
    | (simp [Ins.cls] at hc; done)
    | (rename_i p; cases p <;> simp [Ins.cls] at hc)
end
end Go.Eng
