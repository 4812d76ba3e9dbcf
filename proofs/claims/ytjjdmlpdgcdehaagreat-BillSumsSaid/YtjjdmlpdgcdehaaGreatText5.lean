/- Lines of a bill as arguments. -/
import Derived.Test.YtjjdmlpdgcdehaaGreatShapes
import Derived.Test.YtjjdmlpdgcdehaaGreatText4
set_option linter.unusedSimpArgs false
set_option linter.unusedVariables false
namespace Go.EnvOf
open Go Go.Eng
set_option maxRecDepth 100000
open Go.Proofs in
theorem q0Vh {xs:List PV} (h:Shp Tryz.prog 4 85 xs): ∃s:Lin,xs=q0To s∧I64 s.x1:=by
 have hk:flatK Tryz.prog 4 85=some [.b,.i .i64,.i .i64,.i .i64,.i .i64,.i .i64,.i .i64,.i .i64,.i .i64]:=by kernel_rfl
 obtain ⟨a,_,rfl,h1⟩:=q0Tg (q0gv _ _ _ _ hk h)
 obtain ⟨b,_,rfl,wb,h2⟩:=q04q h1
 obtain ⟨c,_,rfl,wc,h3⟩:=q04q h2
 obtain ⟨d,_,rfl,wd,h4⟩:=q04q h3
 obtain ⟨e,_,rfl,we,h5⟩:=q04q h4
 obtain ⟨f,_,rfl,wf,h6⟩:=q04q h5
 obtain ⟨g,_,rfl,wg,h7⟩:=q04q h6
 obtain ⟨hh,_,rfl,wh,h8⟩:=q04q h7
 obtain ⟨i,_,rfl,wi,h9⟩:=q04q h8
 obtain rfl:=q0t8 h9
 exact ⟨⟨a,b,c,d,e,f,g,hh,i⟩,rfl,wb⟩
open Go.Proofs in
theorem arg_lins {xs:List PV} (h:Shp Tryz.prog 5 87 xs): ∃l:List Lin,argV Tryz.prog 87 xs=vLins l∧(l.length≤maxLen∧ ∀x∈l,I64 x.x1):=by
 obtain ⟨l,rfl,h1,h2⟩:=q035 (e:=85) (enc:=q0To) (good:=fun x=>I64 x.x1) (by kernel_rfl) (fun x hx=>q0Vh hx) h
 exact ⟨l,q0ld (by kernel_rfl),h1,h2⟩
end Go.EnvOf
