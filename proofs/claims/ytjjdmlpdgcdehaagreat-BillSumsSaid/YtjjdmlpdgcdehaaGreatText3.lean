/- The program's functions and the document's, evaluated. -/
import Derived.Test.YtjjdmlpdgcdehaaGreatEngAll2
import Derived.Test.YtjjdmlpdgcdehaaGreatText2
set_option linter.unusedSimpArgs false
set_option linter.unusedVariables false
namespace Go.EnvOf
open Go Go.Eng
set_option maxRecDepth 100000
theorem okEl_upV: ∀(es:List Int),(upV (es.map encI)).all (okEl 1)=true
 |[]=>rfl
 |x::r=>by simp only [List.map_cons,q04x,List.all_cons,okEl_upV r,Bool.and_true];rfl
def okU (n:Nat) (u w:Int):Prop:=0≤u∧0≤w∧u≤n∧w≤n-u
instance (n:Nat) (u w:Int):Decidable (okU n u w):=inferInstanceAs (Decidable (_∧_))
def okT (l:List Float) (x y:C3):Prop:=okU (figOf 0 0 l).length x.a y.a∧okU (figOf 1 0 l).length x.b y.b∧okU (figOf 2 0 l).length x.c y.c
instance (l:List Float) (x y:C3):Decidable (okT l x y):=inferInstanceAs (Decidable (_∧_))
def atF (l:List Float) (i:Int):Option Float:=if 0≤i∧i<l.length then some (rd l i) else none
def bump (s:C3) (c:Int):C3:=if c=0 then ⟨s.a+1,s.b,s.c⟩ else if c=1 then ⟨s.a,s.b+1,s.c⟩ else if c=2 then ⟨s.a,s.b,s.c+1⟩ else s
def ofS (l:List Float) (s:C3) (x:Int):C3:=match atF l x with|some f=>bump s f.c|none=>s
end Go.EnvOf
namespace Go.EnvOf
open Go Go.Eng
set_option maxRecDepth 100000
abbrev Pr:Type:=List Int×List Int
def encP (p:Pr):List PV:=[.sl (p.1.map encI),.sl (p.2.map encI)]
@[simp] theorem q0R0 (x:Pr):(encP x).length=2:=rfl
theorem q0Ue {α β:Type} (f:α→List β): ∀(l:List α) (o:List β) (i:Nat),fold (fun o _ x=>o++f x) o i l=o++l.flatMap f
 |[],o,i=>by simp [fold]
 |x::r,o,i=>by simp only [fold,q0Ue f r,List.flatMap_cons,List.append_assoc]
def cmp1 (x y:Int):Int:=if x<y then-1 else if y<x then 1 else 0
def orL:List Int→Int
 |[]=>0
 |x::r=>if x=0 then orL r else x
def lexC:List Int→List Int→Int
 |x::xs,y::ys=>if cmp1 x y=0 then lexC xs ys else cmp1 x y
 |_,_=>0
def addF (a b:Int):Option Int:=if-9223372036854775808≤a+b∧a+b≤9223372036854775807 then some (a+b) else none
def upF (a s:Int):Option Int:=if s<1 then none else if a%s=0 then some a else addF a (s-a%s)
def orN (o:Option Int) (n:Int):Int:=match o with|some a=>a|none=>n
def upG (n s:Int):Int:=orN (upF n s) n
def q00k {α:Type} (n:Nat) (l:List α):V:=if l=[] then .nils else .row n l.length 0 l.length
def rowsH (l:List Int):Heap:=if l=[] then [] else [.row 1 (upV (l.map encI))]
@[simp] theorem q0E1 {α:Type} (n:Nat) (l:List α):(q00k n l).cells=[q00k n l] :=by unfold q00k;split<;>rfl
@[simp] theorem q0G3 {α:Type} (n:Nat) (l:List α):(q00k n l).oneB=true:=by unfold q00k;split<;>rfl
@[simp] theorem q0G4 {α:Type} (n:Nat) (l:List α):(q00k n l).outB=true:=by unfold q00k;split<;>rfl
@[simp] theorem q0G5 {α:Type} (n:Nat) (l:List α):(q00k n l).notL=true:=by unfold q00k;split<;>rfl
@[simp] theorem q0fe {α:Type} (n:Nat):q00k n ([] :List α)= .nils:=rfl
@[simp] theorem q0im:rowsH [] =[] :=rfl
@[simp] theorem q065 {α:Type} (n:Nat) (x:α) (r:List α):q00k n (x::r)= .row n (x::r).length 0 (x::r).length:=rfl
@[simp] theorem q0ff (x:Int) (r:List Int):rowsH (x::r)=[.row 1 (upV ((x::r).map encI))] :=rfl
def off (s n:Int):Bool:= !decide (n.tmod s=0)
end Go.EnvOf
namespace Go.EnvOf
open Go Go.Eng
end Go.EnvOf
