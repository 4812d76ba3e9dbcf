/- The program's functions and the document's, evaluated. -/
import Derived.KernelRfl
import Derived.Test.YtddnebpblclpfaaGreatText5
import Derived.Test.YtddnebpblclpfaaGreatText2
import Derived.Test.YtddnebpblclpfaaGreatText3
set_option linter.unusedSimpArgs false
set_option linter.unusedVariables false
/- The law GridSnaps, evaluated. -/
namespace Go.EnvOf
open Go Go.Eng
set_option maxRecDepth 100000

end Go.EnvOf

/- Jobs that may be: the clauses of the program. -/
namespace Go.EnvOf
open Go Go.Eng

/-! ### Floats -/
/-! ### The first of a list that may not be -/
end Go.EnvOf

/- Anchors of a kind, of so many things. -/
namespace Go.EnvOf
open Go Go.Eng

/-! ### By the document -/
/-! ### By the program -/
end Go.EnvOf

/- Jobs that may be: all clauses, in order. -/
namespace Go.EnvOf
open Go Go.Eng

section
variable (j : Job)
/-! ### All of them -/
end
end Go.EnvOf

/- Jobs that may be, by the document. -/
namespace Go.EnvOf
open Go Go.Eng

/-! ### All of it -/
end Go.EnvOf

/- The law ValidAnchors, evaluated. -/
namespace Go.EnvOf
open Go Go.Eng
set_option maxRecDepth 100000

end Go.EnvOf

/- The law ValidTells, evaluated. -/
namespace Go.EnvOf
open Go Go.Eng
set_option maxRecDepth 100000

end Go.EnvOf

/- Fewer items: what remains of the anchors. -/
namespace Go.EnvOf
open Go Go.Eng

end Go.EnvOf

/- Worlds: the plain law (trimming, anchors). -/
namespace Go.EnvOf
open Go Go.Eng
set_option maxRecDepth 100000
/-! ### Anchors -/
/-! ### The numbers of notes' lines -/
/-! ### States -/
end Go.EnvOf

/- Totals of lists: the plain law. -/
namespace Go.EnvOf
open Go Go.Eng
set_option maxRecDepth 100000
structure Tot where
  nat : Int
  s0 : Int
  s1 : Int
  s2 : Int
  s3 : Int
  shr : Int
  deriving Inhabited, DecidableEq
def encTot (t : Tot) : List PV := [.int .i64 t.nat, .int .i64 t.s0, .int .i64 t.s1, .int .i64 t.s2, .int .i64 t.s3, .int .i64 t.shr]
@[simp] theorem encTot_len (t : Tot) : (encTot t).length = 6 := rfl
end Go.EnvOf

/- Worlds: the start, the next state (the plain law). -/
namespace Go.EnvOf
open Go Go.Eng
set_option maxRecDepth 100000
/-! ### Snapping keeps the anchors -/
/-! ### The start -/
end Go.EnvOf
