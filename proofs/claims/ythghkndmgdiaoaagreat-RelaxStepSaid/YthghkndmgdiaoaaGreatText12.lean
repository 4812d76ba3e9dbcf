/- The program's functions and the document's, evaluated. -/
import Derived.Test.YthghkndmgdiaoaaGreatShapes
import Derived.Test.YthghkndmgdiaoaaGreatText5
import Derived.Test.YthghkndmgdiaoaaGreatText6
set_option linter.unusedSimpArgs false
set_option linter.unusedVariables false
namespace Go.EnvOf
open Go Go.Eng
set_option maxRecDepth 100000
open Go.Proofs in
theorem arg_stt {xs:List PV} (h:Shp Tryz.prog 5 32 xs): ∃s:Stt,argV Tryz.prog 32 xs=vStt s/\(I64 s.at_/\I64 s.col/\I64 s.note/\I64 s.line/\okC3 s.h):=by
 have hk:flatK Tryz.prog 5 32=some [.i .i64,.i .i64,.i .i64,.i .i64,.i .i64,.i .i64,.i .i64]:=by kernel_rfl
 obtain ⟨a,_,rfl,wa,h1⟩:=q04q (q0gv _ _ _ _ hk h)
 obtain ⟨b,_,rfl,wb,h2⟩:=q04q h1
 obtain ⟨c,_,rfl,wc,h3⟩:=q04q h2
 obtain ⟨d,_,rfl,wd,h4⟩:=q04q h3
 obtain ⟨e,_,rfl,we,h5⟩:=q04q h4
 obtain ⟨f,_,rfl,wf,h6⟩:=q04q h5
 obtain ⟨g,_,rfl,wg,h7⟩:=q04q h6
 obtain rfl:=q0t8 h7
 exact ⟨⟨a,b,c,d,⟨e,f,g⟩⟩,q09a (by kernel_rfl),wa,wb,wc,wd,we,wf,wg⟩
end Go.EnvOf
