/- The program's functions and the document's, evaluated. -/
import Derived.Test.YtjjdmlpdgcdehaaGreatShapes
import Derived.Test.YtjjdmlpdgcdehaaGreatText3
set_option linter.unusedSimpArgs false
set_option linter.unusedVariables false
namespace Go.EnvOf
open Go Go.Eng
set_option maxRecDepth 100000
open Go.Proofs in
theorem arg_taly {xs:List PV} (h:Shp Tryz.prog 5 78 xs): ∃s:Taly,argV Tryz.prog 78 xs=vTaly s∧I64 s.x0:=by
 have hk:flatK Tryz.prog 5 78=some [.i .i64,.i .i64,.i .i64,.i .i64,.i .i64,.i .i64,.i .i64,.i .i64,.i .i64,.i .i64]:=by kernel_rfl
 obtain ⟨a,_,rfl,wa,h1⟩:=q04q (q0gv _ _ _ _ hk h)
 obtain ⟨b,_,rfl,wb,h2⟩:=q04q h1
 obtain ⟨c,_,rfl,wc,h3⟩:=q04q h2
 obtain ⟨d,_,rfl,wd,h4⟩:=q04q h3
 obtain ⟨e,_,rfl,we,h5⟩:=q04q h4
 obtain ⟨f,_,rfl,wf,h6⟩:=q04q h5
 obtain ⟨g,_,rfl,wg,h7⟩:=q04q h6
 obtain ⟨hh,_,rfl,wh,h8⟩:=q04q h7
 obtain ⟨i,_,rfl,wi,h9⟩:=q04q h8
 obtain ⟨j,_,rfl,wj,h10⟩:=q04q h9
 obtain rfl:=q0t8 h10
 exact ⟨⟨a,b,c,d,e,f,g,hh,i,j⟩,q09a (by kernel_rfl),wa⟩
end Go.EnvOf
