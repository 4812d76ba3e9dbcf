/- The program's functions and the document's, evaluated. -/
import Derived.Test.YtjjdmlpdgcdehaaGreatShapes
import Derived.Test.YtjjdmlpdgcdehaaGreatText7
import Derived.Test.YtjjdmlpdgcdehaaGreatText11
set_option linter.unusedSimpArgs false
set_option linter.unusedVariables false
namespace Go.EnvOf
open Go Go.Eng
set_option maxRecDepth 100000
open Go.Proofs in
theorem q0u4 {xs:List PV} (h:Shp Tryz.prog 4 142 xs): ∃s:Piece,xs=q00g s/\(I64 s.n/\I64 s.frm/\I64 s.to):=by
 have hk:flatK Tryz.prog 4 142=some [.i .i64,.i .i64,.i .i64]:=by kernel_rfl
 obtain ⟨a,_,rfl,wa,h1⟩:=q04q (q0gv _ _ _ _ hk h)
 obtain ⟨b,_,rfl,wb,h2⟩:=q04q h1
 obtain ⟨c,_,rfl,wc,h3⟩:=q04q h2
 obtain rfl:=q0t8 h3
 exact ⟨⟨a,b,c⟩,rfl,wa,wb,wc⟩
end Go.EnvOf
namespace Go.EnvOf
open Go Go.Eng
set_option maxRecDepth 100000
def bigCo (c:Colm):Prop:=c.notes.length<=maxLen/\c.top.length<=maxLen/\c.bot.length<=maxLen
open Go.Proofs in
theorem q147 {xs:List PV} (h:Shp Tryz.prog 6 61 xs): ∃c:Colm,xs=q148 c/\bigCo c:=by
 obtain ⟨h1,h2⟩:=q049 (by kernel_rfl) h
 have hc:comps Tryz.prog 61=[(0,3),(1,3),(2,3),(3,59),(4,38),(5,38)]:=by kernel_rfl
 have hn:Tryz.prog.cellsOf 61=6:=by kernel_rfl
 have c0:Tryz.prog.cellsOf 3=1:=by kernel_rfl
 have c1:Tryz.prog.cellsOf 59=1:=by kernel_rfl
 have c2:Tryz.prog.cellsOf 38=1:=by kernel_rfl
 rw [hn] at h1
 rw [hc] at h2
 obtain ⟨a0,a1,a2,a3,a4,a5,rfl⟩: ∃a0 a1 a2 a3 a4 a5,xs=[a0,a1,a2,a3,a4,a5]:=by
  match xs,h1 with
  |[a0,a1,a2,a3,a4,a5],_=>exact ⟨a0,a1,a2,a3,a4,a5,rfl⟩
 have q0:=h2 (0,3) (by simp)
 have q1:=h2 (1,3) (by simp)
 have q2:=h2 (2,3) (by simp)
 have q3:=h2 (3,59) (by simp)
 have q4:=h2 (4,38) (by simp)
 have q5:=h2 (5,38) (by simp)
 simp only [c0,c1,c2,ZG,ZZ,List.take_zero,List.drop_succ_cons] at q0 q1 q2 q3 q4 q5
 obtain ⟨n0,e0,-⟩:=q00q (by kernel_rfl) q0
 obtain ⟨n1,e1,-⟩:=q00q (by kernel_rfl) q1
 obtain ⟨n2,e2,-⟩:=q00q (by kernel_rfl) q2
 obtain ⟨l3,e3,w3,-⟩:=q035 (e:=142) (enc:=q00g) (good:=fun x=>I64 x.n/\I64 x.frm/\I64 x.to) (by kernel_rfl) (fun x hx=>q0u4 hx) q3
 have one: ∀x,Shp Tryz.prog 4 3 x-> ∃a,x=Go.Eng.encI a/\I64 a:=fun x hx=>q00q (by kernel_rfl) hx
 obtain ⟨l4,e4,w4,-⟩:=q035 (e:=3) (enc:=Go.Eng.encI) (good:=fun x=>I64 x) (by kernel_rfl) one q4
 obtain ⟨l5,e5,w5,-⟩:=q035 (e:=3) (enc:=Go.Eng.encI) (good:=fun x=>I64 x) (by kernel_rfl) one q5
 cases e0;cases e1;cases e2;cases e3;cases e4;cases e5
 exact ⟨⟨n0,n1,n2,l3,l4,l5⟩,rfl,w3,w4,w5⟩
open Go.Proofs in
theorem arg_cols {xs:List PV} (h:Shp Tryz.prog 7 30 xs): ∃l:List Colm,argV Tryz.prog 30 xs=vCos l/\(l.length<=maxLen/\ ∀c∈l,bigCo c):=by
 obtain ⟨l,rfl,h1,h2⟩:=q035 (e:=61) (enc:=q148) (good:=bigCo) (by kernel_rfl) (fun x hx=>q147 hx) h
 exact ⟨l,q0ld (by kernel_rfl),h1,h2⟩
end Go.EnvOf
