/- The program's functions and the document's, evaluated. -/
import Derived.Test.YtjjdmlpdgcdehaaGreatShapes
import Derived.Test.YtjjdmlpdgcdehaaGreatText7
set_option linter.unusedSimpArgs false
set_option linter.unusedVariables false
namespace Go.EnvOf
open Go Go.Eng
set_option maxRecDepth 100000
open Go.Proofs in
theorem q0u4 {xs:List PV} (h:Shp Tryz.prog 4 142 xs): ∃s:Piece,xs=q00g s∧(I64 s.n∧I64 s.frm∧I64 s.to):=by
 have hk:flatK Tryz.prog 4 142=some [.i .i64,.i .i64,.i .i64]:=by kernel_rfl
 obtain ⟨a,_,rfl,wa,h1⟩:=q04q (q0gv _ _ _ _ hk h)
 obtain ⟨b,_,rfl,wb,h2⟩:=q04q h1
 obtain ⟨c,_,rfl,wc,h3⟩:=q04q h2
 obtain rfl:=q0t8 h3
 exact ⟨⟨a,b,c⟩,rfl,wa,wb,wc⟩
open Go.Proofs in
theorem arg_stt {xs:List PV} (h:Shp Tryz.prog 5 47 xs): ∃s:Stt,argV Tryz.prog 47 xs=vStt s∧(I64 s.at_∧I64 s.col∧I64 s.note∧I64 s.line∧okC3 s.h):=by
 have hk:flatK Tryz.prog 5 47=some [.i .i64,.i .i64,.i .i64,.i .i64,.i .i64,.i .i64,.i .i64]:=by kernel_rfl
 obtain ⟨a,_,rfl,wa,h1⟩:=q04q (q0gv _ _ _ _ hk h)
 obtain ⟨b,_,rfl,wb,h2⟩:=q04q h1
 obtain ⟨c,_,rfl,wc,h3⟩:=q04q h2
 obtain ⟨d,_,rfl,wd,h4⟩:=q04q h3
 obtain ⟨e,_,rfl,we,h5⟩:=q04q h4
 obtain ⟨f,_,rfl,wf,h6⟩:=q04q h5
 obtain ⟨g,_,rfl,wg,h7⟩:=q04q h6
 obtain rfl:=q0t8 h7
 exact ⟨⟨a,b,c,d,⟨e,f,g⟩⟩,q09a (by kernel_rfl),wa,wb,wc,wd,we,wf,wg⟩
open Go.Proofs in
theorem arg_colm {xs:List PV} (h:Shp Tryz.prog 6 61 xs): ∃c:Colm,argV Tryz.prog 61 xs=vColm c∧(I64 c.k∧I64 c.frm∧I64 c.to∧c.notes.length≤maxLen∧c.top.length≤maxLen∧c.bot.length≤maxLen∧(∀x∈c.notes,I64 x.n∧I64 x.frm∧I64 x.to)∧(∀x∈c.top,I64 x)∧ ∀x∈c.bot,I64 x):=by
 obtain ⟨h1,h2⟩:=q049 (by kernel_rfl) h
 have hc:comps Tryz.prog 61=[(0,3),(1,3),(2,3),(3,59),(4,38),(5,38)]:=by kernel_rfl
 have hn:Tryz.prog.cellsOf 61=6:=by kernel_rfl
 have c0:Tryz.prog.cellsOf 3=1:=by kernel_rfl
 have c1:Tryz.prog.cellsOf 59=1:=by kernel_rfl
 have c2:Tryz.prog.cellsOf 38=1:=by kernel_rfl
 rw [hn] at h1
 rw [hc] at h2
 obtain ⟨a0,a1,a2,a3,a4,a5,rfl⟩: ∃a0 a1 a2 a3 a4 a5,xs=[a0,a1,a2,a3,a4,a5]:=by
  match xs,h1 with
  |[a0,a1,a2,a3,a4,a5],_=>exact ⟨a0,a1,a2,a3,a4,a5,rfl⟩
 have q0:=h2 (0,3) (by simp)
 have q1:=h2 (1,3) (by simp)
 have q2:=h2 (2,3) (by simp)
 have q3:=h2 (3,59) (by simp)
 have q4:=h2 (4,38) (by simp)
 have q5:=h2 (5,38) (by simp)
 simp only [c0,c1,c2,List.drop_zero,List.take_succ_cons,List.take_zero,List.drop_succ_cons] at q0 q1 q2 q3 q4 q5
 obtain ⟨n0,e0,w0⟩:=q00q (by kernel_rfl) q0
 obtain ⟨n1,e1,w1⟩:=q00q (by kernel_rfl) q1
 obtain ⟨n2,e2,w2⟩:=q00q (by kernel_rfl) q2
 obtain ⟨l3,e3,w3,v3⟩:=q035 (e:=142) (enc:=q00g) (good:=fun x=>I64 x.n∧I64 x.frm∧I64 x.to) (by kernel_rfl) (fun x hx=>q0u4 hx) q3
 have one: ∀x,Shp Tryz.prog 4 3 x→ ∃a,x=Go.Eng.encI a∧I64 a:=fun x hx=>q00q (by kernel_rfl) hx
 obtain ⟨l4,e4,w4,v4⟩:=q035 (e:=3) (enc:=Go.Eng.encI) (good:=fun x=>I64 x) (by kernel_rfl) one q4
 obtain ⟨l5,e5,w5,v5⟩:=q035 (e:=3) (enc:=Go.Eng.encI) (good:=fun x=>I64 x) (by kernel_rfl) one q5
 cases e0;cases e1;cases e2;cases e3;cases e4;cases e5
 exact ⟨⟨n0,n1,n2,l3,l4,l5⟩,q09a (by kernel_rfl),w0,w1,w2,w3,w4,w5,v3,v4,v5⟩
end Go.EnvOf
