/- The program's functions and the document's, evaluated. -/
import Derived.Test.YtjjdmlpdgcdehaaGreatText5
set_option linter.unusedSimpArgs false
set_option linter.unusedVariables false
namespace Go.EnvOf
open Go Go.Eng
def yes (b:Bool):Int:=if b=true then 0 else-1
def q0fh (j:Job):Int:=let a:=refF 5 j.notes.length 0 0 j.items;let b:=refF 6 j.floats.length 0 0 j.items;if a<0\/b<0 then max a b else min a b
def tallF (j:Job):Int:=idxF (fun f=>decide ((snapG j).g.first<f.h)) 0 (snapG j).floats
section
variable (j:Job)
theorem c1_ev (H:Heap):clD EE (.p (.fn 303)) [vJob j] H=some (vB (decide (4096<(j.items.length:Int))),none):=by
 rw [q002 _ _ _ _ _ _ (noP _) fn303]
 simp [zEb]
theorem c2_ev (H:Heap):clD EE (.p (.fn 304)) [vJob j] H=some (vB (decide (256<(j.floats.length:Int))),none):=by
 rw [q002 _ _ _ _ _ _ (noP _) fn304]
 simp [zEb]
theorem c3_ev (H:Heap):clD EE (.p (.fn 305)) [vJob j] H=some (vB (decide (512<(j.notes.length:Int))),none):=by
 rw [q002 _ _ _ _ _ _ (noP _) fn305]
 simp [zEb]
theorem c4_ev (H:Heap):clD EE (.p (.fn 306)) [vJob j] H=some (vB (decide (geomF j.g=6)),none):=by
 rw [q002 _ _ _ _ _ _ (noP _) fn306]
 have h:=q0bb j.g H
 simp [zEb,h]
theorem c5_ev (H:Heap):clD EE (.p (.fn 308)) [vJob j] H=some (vB (decide (geomF j.g=7)),none):=by
 rw [q002 _ _ _ _ _ _ (noP _) fn308]
 have h:=q0bb j.g H
 simp [zEb,h]
theorem q0yp (f:FuncId) (b:Bool) (p:Nat) (H:Heap) (hb:Eng.boxAt H p=some [.p (.fn f)]) (hf:clD EE (.p (.fn f)) [vJob j] H=some (vB b,none)):clD EE (.fn (.func 357) [] [.ptr p 0]) [vJob j] H=some (vI (yes b),none):=by
 rw [q02m,q002 _ _ _ _ _ _ (noP _) fn357]
 obtain ⟨J,hJ,q1,q2,q3,q4⟩:=q07r j
 rw [hJ] at hf⊢
 have e:subs [V.p (.fn f)] 0 1=some [.p (.fn f)]:=rfl
 cases b<;>simp [-List.all_eq_true,zEa,q1,q2,q3,q4,hb,e,hf,yes]
theorem q0uv (g:FuncId) (H:Heap):clD EE (.p (.fn 310)) [.p (.fn g)] H=some (.fn (.func 360) [] [.ptr H.length 0],some (H++[.box [.p (.fn g)]],[])):=by
 rw [q002 _ _ _ _ _ _ (noP _) fn310]
 simp [zEa]
theorem q0uw (g:FuncId) (H:Heap):clD EE (.p (.fn 313)) [.p (.fn g)] H=some (.fn (.func 366) [] [.ptr H.length 0],some (H++[.box [.p (.fn g)]],[])):=by
 rw [q002 _ _ _ _ _ _ (noP _) fn313]
 simp [zEa]
theorem q0ux (g:FuncId) (H:Heap):clD EE (.p (.fn 316)) [.p (.fn g)] H=some (.fn (.func 369) [] [.ptr H.length 0],some (H++[.box [.p (.fn g)]],[])):=by
 rw [q002 _ _ _ _ _ _ (noP _) fn316]
 simp [zEa]
theorem c6_ev (ok:okJob j) (H:Heap):clD EE (.p (.fn 309)) [vJob j] H=some (vI (idxF (fun x=> !q016 x) 0 j.items),none):=by
 rw [q002 _ _ _ _ _ _ (noP _) fn309]
 have h:=q0mq j.items ok.n1 H.length (H++[.box [.p (.fn 311)]]) (by simp)
 simp [zEb,q0uv,h]
theorem c7_ev (ok:okJob j) (H:Heap):clD EE (.p (.fn 312)) [vJob j] H=some (vI (idxF (fun x=>q01o x.lines x.pens) 0 j.notes),none):=by
 rw [q002 _ _ _ _ _ _ (noP _) fn312]
 have h:=q0mr j.notes ok.n2 (fun x hx=>(ok.notes x hx).2) H.length (H++[.box [.p (.fn 314)]]) (by simp)
 simp [zEb,q0uw,h]
theorem c8_ev (ok:okJob j) (H:Heap):clD EE (.p (.fn 315)) [vJob j] H=some (vI (idxF (fun x=> !q01l x) 0 j.floats),none):=by
 rw [q002 _ _ _ _ _ _ (noP _) fn315]
 have h:=q0js j.floats ok.n3 H.length (H++[.box [.p (.fn 317)]]) (by simp)
 simp [zEb,q0ux,h]
theorem c9_ev (ok:okJob j) (H:Heap):clD EE (.p (.fn 318)) [vJob j] H=some (vI (q0fh j),none):=by
 rw [q002 _ _ _ _ _ _ (noP _) fn318]
 have h1:=q0pn j.items 5 j.notes.length H ok.n1
 have h2:=q0pn j.items 6 j.floats.length H ok.n1
 unfold q0fh
 generalize refF 5 j.notes.length 0 0 j.items=a at*
 generalize refF 6 j.floats.length 0 0 j.items=b at*
 by_cases c1:a<0
 ·simp [zEb,h1,h2,c1]
 ·by_cases c2:b<0
  ·simp [zEb,h1,h2,c1,c2]
  ·simp [zEb,h1,h2,c1,c2]
theorem q0yq (f:Float) (first:Int) (p:Nat) (H:Heap) (cs:List V) (hb:Eng.boxAt H p=some cs) (hc:subs cs 4 1=some [vI first]):clD EE (.fn (.func 373) [] [.ptr p 0]) [q03v f] H=some (vB (decide (first<f.h)),none):=by
 rw [q02m,q002 _ _ _ _ _ _ (noP _) fn373]
 have e:subs [vI f.c,vI f.h,vI f.w] 1 1=some [vI f.h]:=rfl
 simp [zEa,hb,hc,e]
theorem q0rc (j:Job): ∃J,vJob j= .agg J/\J.length=22/\subs J 0 22=some J/\ ¬J=[]/\J.all V.oneB=true/\subs J 4 1=some [vI j.g.first]/\subs J 21 1=some [q005 j.floats]/\J.map normC=J:=⟨_,rfl,rfl,rfl,by simp,rfl,rfl,rfl,rfl⟩
theorem q0E6 (ok:okJob j) (n3:(snapG j).floats.length<=1000000) (H:Heap):clD EE (.p (.fn 319)) [vJob j] H=some (vI (tallF j),none):=by
 rw [q002 _ _ _ _ _ _ (noP _) fn319]
 have h1:=q0pi j ok H
 obtain ⟨J,hJ,q1,q2,q3,q4⟩:=q07r j
 obtain ⟨M,hM,m1,m2,m3,m4,m5,m6⟩:=q0rc (snapG j)
 have h2:=q0b7 _ 3 true q009 (fun x=>q03v x) (noP _) q0d5 (fun _=>rfl) (fun _=>rfl) (fun _=>rfl) (fun _=>rfl) (snapG j).floats (by omega) (.fn (.func 373) [] [.ptr H.length 0]) (fun f=>decide ((snapG j).g.first<f.h)) (H++[.box M])
  (fun x _=>q0yq x (snapG j).g.first H.length (H++[.box M]) M (by simp) m5)
 unfold tallF
 rw [hJ,hM] at h1
 rw [hJ]
 have e:q001 (α:=V) [.p (.int .i64 0),.p (.int .i64 0),.p (.int .i64 0),.p (.int .i64 0),.p (.int .i64 0),.p (.int .i64 0),.p (.int .i64 0),.p (.int .i64 0),.p (.int .i64 0),.p (.int .i64 0),.p (.int .i64 0),.p (.int .i64 0),.p (.int .i64 0),.p (.int .i64 0),.p (.int .i64 0),.p (.int .i64 0),.p (.int .i64 0),.p (.int .i64 0),.p (.bool false),.nils,.nils,.nils] 0 M=some M:=by simp [q001,m1]
 simp [-List.all_eq_true,zEa,q1,q2,q3,q4,m1,m2,m3,m4,m6,e,h1,h2]
def whenV (n:Nat):V:= .fn (.func 357) [] [.ptr n 0]
def q01w (n:Nat):List (Int×V×Int):=
 [(3,whenV n,yes (decide (4096<(j.items.length:Int)))),(4,whenV (n+1),yes (decide (256<(j.floats.length:Int)))),(5,whenV (n+2),yes (decide (512<(j.notes.length:Int)))),
  (6,whenV (n+3),yes (decide (geomF j.g=6))),(7,whenV (n+4),yes (decide (geomF j.g=7))),
  (8,.p (.fn 309),idxF (fun x=> !q016 x) 0 j.items),(9,.p (.fn 312),idxF (fun x=>q01o x.lines x.pens) 0 j.notes),(10,.p (.fn 315),idxF (fun x=> !q01l x) 0 j.floats),
  (11,.p (.fn 318),q0fh j),(12,.p (.fn 319),tallF j)]
def q039 (c:Int×V×Int):List V:=[vI c.1,c.2.1]
def q04o:Heap:=[.box [.p (.fn 303)],.box [.p (.fn 304)],.box [.p (.fn 305)],.box [.p (.fn 306)],.box [.p (.fn 308)]]
theorem q0Cd (g:FuncId) (H:Heap):clD EE (.p (.fn 302)) [.p (.fn g)] H=some (whenV H.length,some (H++[.box [.p (.fn g)]],[])):=by
 rw [q002 _ _ _ _ _ _ (noP _) fn302]
 simp [zEa,whenV]
theorem q0o8 (H:Heap):clD EE (.p (.fn 232)) [] H=some (.vsl ((q01w j H.length).map q039),some (H++q04o,[])):=by
 rw [q002 _ _ _ _ _ _ (noP _) fn232]
 simp [zEa,q001,q0Cd,whenV,q01w,q039,q04o]
theorem q0o9 (ok:okJob j) (n3:(snapG j).floats.length<=1000000) (H:Heap): ∀c∈q01w j H.length,clD EE c.2.1 [vJob j] (H++q04o)=some (vI c.2.2,none)/\c.2.1.oneB=true/\c.2.1.cells=[c.2.1]/\c.2.1.notL=true:=by
 intro c hc
 have wh: ∀(i:Nat) (f:FuncId) (b:Bool),q04o[i]? =some (.box [.p (.fn f)])->clD EE (.p (.fn f)) [vJob j] (H++q04o)=some (vB b,none)->clD EE (whenV (H.length+i)) [vJob j] (H++q04o)=some (vI (yes b),none):=fun i f b hi hf=>by
  refine q0yp j f b (H.length+i) _ ?_ hf
  rw [q0b0];unfold Eng.boxAt;rw [hi]
 simp only [q01w,ZI,List.not_mem_nil,or_false] at hc
 rcases hc with rfl|rfl|rfl|rfl|rfl|rfl|rfl|rfl|rfl|rfl
 ·exact ⟨wh 0 _ _ rfl (c1_ev j _),rfl,rfl,rfl⟩
 ·exact ⟨wh 1 _ _ rfl (c2_ev j _),rfl,rfl,rfl⟩
 ·exact ⟨wh 2 _ _ rfl (c3_ev j _),rfl,rfl,rfl⟩
 ·exact ⟨wh 3 _ _ rfl (c4_ev j _),rfl,rfl,rfl⟩
 ·exact ⟨wh 4 _ _ rfl (c5_ev j _),rfl,rfl,rfl⟩
 ·exact ⟨c6_ev j ok _,rfl,rfl,rfl⟩
 ·exact ⟨c7_ev j ok _,rfl,rfl,rfl⟩
 ·exact ⟨c8_ev j ok _,rfl,rfl,rfl⟩
 ·exact ⟨c9_ev j ok _,rfl,rfl,rfl⟩
 ·exact ⟨q0E6 j ok n3 _,rfl,rfl,rfl⟩
def q04p:List (Int×V×Int)->Int×Int
 |[]=>(0,0)
 |c::r=>if 0<=c.2.2 then (c.1,c.2.2) else q04p r
def q02q:Int×Int:=q04p (q01w j 0)
theorem q0uy (n:Nat):q04p (q01w j n)=q02q j:=by simp [q04p,q01w,q02q]
def ckE (J:List V) (L:List (Int×V×Int)) (H:Heap) (B:Nat) (i:Nat):St:=⟨[(1,.lptr 1 0),(7,.vsl (L.map q039)),(8,vI L.length),(9,vI i)],[(1,J)],H,B,[]⟩
def ckX (J:List V) (L:List (Int×V×Int)) (H:Heap) (B:Nat):Ex×St:=(.exit 0,⟨[(1,.lptr 1 0),(7,.vsl (L.map q039)),(8,vI L.length),(9,vI L.length),(10,vB false)],[(1,J)],H,B,[]⟩)
def ckS (H:Heap) (B:Nat) (_:Unit) (_:Nat) (c:Int×V×Int):Unit⊕(Ex×St):=if 0<=c.2.2 then .inr (.ret,⟨[(2,vI c.1),(3,vI c.2.2)],[],H,B,[]⟩) else .inl ()
theorem q0uz (J:List V) (H:Heap) (B:Nat) (fin:Ex×St): ∀(l:List (Int×V×Int)) (i:Nat),(rng (ckS H B) (fun _=>fin) () i l=fin/\q04p l=(0,0))\/(rng (ckS H B) (fun _=>fin) () i l=(.ret,⟨[(2,vI (q04p l).1),(3,vI (q04p l).2)],[],H,B,[]⟩))
 |[],_=> .inl ⟨rfl,rfl⟩
 |c::r,i=>by
  simp only [rng,ckS,q04p]
  by_cases h:0<=c.2.2
  ·rw [if_pos h,if_pos h];exact .inr rfl
  ·rw [if_neg h,if_neg h]
   exact q0uz J H B fin r (i+1)
theorem ck_lp (J:List V) (q1:J.length=22) (q2:subs J 0 22=some J) (q3: ¬J=[]) (q4:J.all V.oneB=true/\J.map normC=J) (L:List (Int×V×Int)) (hn:L.length<=1000) (H:Heap) (B:Nat) (hL: ∀c∈L,clD EE c.2.1 [.agg J] H=some (vI c.2.2,none)/\c.2.1.oneB=true/\c.2.1.cells=[c.2.1]/\c.2.1.notL=true):
  evD EE q0g1 (ckE J L H B 0)=some (rng (ckS H B) (fun _=>ckX J L H B) () 0 L):=by
 unfold q0g1
 refine q013 L (fun (_:Unit) i=>ckE J L H B i) (fun _ _=>True) (ckS H B) (fun _=>ckX J L H B) (fun _ _=>rfl) ?_ ?_ () 0 trivial (Zj _)
 ·rintro _ i c-hc
  have hlt:=(Za.1 hc).1
  have w:IntKind.i64.wrap ((i:Int)+1)=((i+1:Nat):Int):=w64 (by omega) (by omega)
  obtain ⟨h1,h2,h3,h4⟩:=hL c (Zp hc)
  have q5:J.take 22=J:=Zy (by omega)
  have hix:ixsI H (.vsl (L.map q039)) (vI i) 2=some (.eptr [vI c.1,c.2.1] 0):=by
   have:(L.map q039)[i]? =some [vI c.1,c.2.1]:=by simp [hc,q039]
   simp [ixsI,ixsV,this]
  by_cases a:0<=c.2.2
  ·have e:ckS H B () i c= .inr (.ret,⟨[(2,vI c.1),(3,vI c.2.2)],[],H,B,[]⟩):=if_pos a
   simp only [e]
   simp [-List.all_eq_true,ckE,hlt,hix,subs,q001,q1,q3,q4,q5,h1,h2,h3,h4,a]
  ·have e:ckS H B () i c= .inl ():=if_neg a
   simp only [e]
   simp [-List.all_eq_true,ckE,hlt,hix,subs,q001,q1,q3,q4,q5,h1,h2,h3,h4,a,w]
 ·rintro _-
  simp [ckE,ckX]
theorem q0jt (ok:okJob j) (n3:(snapG j).floats.length<=1000000) (H:Heap):clD EE (.p (.fn 123)) [vJob j] H=some (.tup [vI (q02q j).1,vI (q02q j).2],none):=by
 rw [q002 _ _ _ _ _ _ (noP _) fn123]
 have h1:=q0o8 j H
 have h2:=q0o9 j ok n3 H
 have hf:=q0uy j H.length
 obtain ⟨J,hJ,q1,q2,q3,q4⟩:=q07r j
 rw [hJ] at h2⊢
 have key:=ck_lp J q1 q2 q3 q4 (q01w j H.length) (by simp [q01w]) (H++q04o) H.length h2
 have hl:(q01w j H.length).length=10:=rfl
 have hle:lenV (.vsl ((q01w j H.length).map q039))=some 10:=rfl
 rcases q0uz J (H++q04o) H.length (ckX J (q01w j H.length) (H++q04o) H.length) (q01w j H.length) 0 with ⟨k1,k2⟩|k1
 ·rw [k1] at key
  rw [hf] at k2
  simp only [ckE,ckX,hl] at key
  generalize (q01w j H.length).map q039=CL at*
  simp at key
  simp [-List.all_eq_true,zEa,q1,q2,q3,q4,h1,hle,key,k2]
 ·rw [k1,hf] at key
  simp only [ckE,hl] at key
  generalize (q01w j H.length).map q039=CL at*
  simp at key
  simp [-List.all_eq_true,zEa,q1,q2,q3,q4,h1,hle,key]
theorem q0ju (ok:okJob j) (n3:(snapG j).floats.length<=1000000) (H:Heap):clD EE (.p (.fn 52)) [vJob j] H=some (vB (decide ((q02q j).1=0)),none):=by
 rw [q002 _ _ _ _ _ _ (noP _) fn52]
 have h1:=q0jt j ok n3 H
 obtain ⟨J,hJ,q1,q2,q3,q4⟩:=q07r j
 rw [hJ] at h1⊢
 simp [-List.all_eq_true,zEa,q1,q2,q3,q4,h1]
end
def vE (j:Job) (H:Heap) (t:Nat) (i:Nat):St:=⟨[(1,.lptr 1 0),(2,.lptr 2 0),(t,vI i)],[(1,cGeom j.g++[q006 j.items,q00b j.notes,q005 j.floats]),(2,[vI 0,vI 0])],H,H.length,[]⟩
def vX (j:Job) (H:Heap) (t x e:Nat) (n:Nat):Ex×St:=(.exit e,⟨[(1,.lptr 1 0),(2,.lptr 2 0),(t,vI n),(x,vB false)],[(1,cGeom j.g++[q006 j.items,q00b j.notes,q005 j.floats]),(2,[vI 0,vI 0])],H,H.length,[]⟩)
def vR (H:Heap) (e:Int) (i:Int):Ex×St:=(.ret,⟨[(2,.lptr 2 0)],[(2,[vI e,vI i])],H,H.length,[]⟩)
theorem v_lp0 (j:Job) (ok:okJob j) (H:Heap):evD EE q0Vk (vE j H 4 0)=some (if 0<=idxF (fun x=> !q016 x) 0 j.items then vR H 8 (idxF (fun x=> !q016 x) 0 j.items) else vX j H 4 37 0 j.items.length):=by
 unfold q0Vk
 refine Eq.trans (q013 j.items (fun (_:Unit) i=>vE j H 4 i) (fun _ _=>True) (stepH (fun x=> !q016 x) (vR H 8)) (fun _=>vX j H 4 37 0 j.items.length) (fun _ _=>rfl) ?_ ?_ () 0 trivial (Zj _)) (by rw [q08o];rfl)
 ·rintro _ i x-hx
  have hlt:=(Za.1 hx).1
  have hn:=ok.n1
  have w:IntKind.i64.wrap ((i:Int)+1)=((i+1:Nat):Int):=w64 (by omega) (by omega)
  have hix:=fun H k=>q00c H q004 (k:=k) (s:=7) hx rfl
  have h:=q0uk x H
  simp only [q004] at hix
  cases e:q016 x with
  |true=>rw [e] at h;simp [stepH,e,vE,hlt,hix,subs,q001,h,w]
  |false=>rw [e] at h;simp [stepH,e,vE,vR,hlt,hix,subs,q001,h]
 ·rintro _-
  simp [vE,vX,subs]
theorem v_lp1 (j:Job) (ok:okJob j) (H:Heap):evD EE q0Xf (vE j H 5 0)=some (if 0<=idxF (fun x=>q01o x.lines x.pens) 0 j.notes then vR H 9 (idxF (fun x=>q01o x.lines x.pens) 0 j.notes) else vX j H 5 53 2 j.notes.length):=by
 unfold q0Xf
 refine Eq.trans (q013 j.notes (fun (_:Unit) i=>vE j H 5 i) (fun _ _=>True) (stepH (fun (x:Note)=>q01o x.lines x.pens) (vR H 9)) (fun _=>vX j H 5 53 2 j.notes.length) (fun _ _=>rfl) ?_ ?_ () 0 trivial (Zj _)) (by rw [q08o];rfl)
 ·rintro _ i x-hx
  have hlt:=(Za.1 hx).1
  have hn:=ok.n2
  have w:IntKind.i64.wrap ((i:Int)+1)=((i+1:Nat):Int):=w64 (by omega) (by omega)
  have hix:=fun H k=>q00c H q00e (k:=k) (s:=2) hx rfl
  have hb:=(ok.notes x (Zp hx)).2
  have h:=q0up x.lines x.pens H hb.1 hb.2
  simp only [q00e] at hix
  simp only [note] at h
  cases e:q01o x.lines x.pens with
  |false=>rw [e] at h;simp at h;simp [stepH,e,vE,hlt,hix,subs,q001,h,w]
  |true=>rw [e] at h;simp at h;simp [stepH,e,vE,vR,hlt,hix,subs,q001,h]
 ·rintro _-
  simp [vE,vX,subs]
theorem v_lp2 (j:Job) (ok:okJob j) (H:Heap):evD EE q0Xg (vE j H 6 0)=some (if 0<=idxF (fun x=> !q01l x) 0 j.floats then vR H 10 (idxF (fun x=> !q01l x) 0 j.floats) else vX j H 6 69 4 j.floats.length):=by
 unfold q0Xg
 refine Eq.trans (q013 j.floats (fun (_:Unit) i=>vE j H 6 i) (fun _ _=>True) (stepH (fun x=> !q01l x) (vR H 10)) (fun _=>vX j H 6 69 4 j.floats.length) (fun _ _=>rfl) ?_ ?_ () 0 trivial (Zj _)) (by rw [q08o];rfl)
 ·rintro _ i x-hx
  have hlt:=(Za.1 hx).1
  have hn:=ok.n3
  have w:IntKind.i64.wrap ((i:Int)+1)=((i+1:Nat):Int):=w64 (by omega) (by omega)
  have hix:=fun H k=>q00c H q009 (k:=k) (s:=3) hx rfl
  have h:=q0h9 x H
  simp only [q009] at hix
  cases e:q01l x with
  |true=>rw [e] at h;simp [stepH,e,vE,hlt,hix,subs,q001,h,w]
  |false=>rw [e] at h;simp [stepH,e,vE,vR,hlt,hix,subs,q001,h]
 ·rintro _-
  simp [vE,vX,subs]
def v9E (j:Job) (H:Heap) (i:Nat):St:=⟨[(2,.lptr 2 0),(9,.lptr 9 0),(10,vI i)],[(2,[vI 0,vI 0]),(9,cGeom j.g++[q006 j.items,q00b j.notes,q005 j.floats])],H,H.length,[]⟩
def v9X (j:Job) (H:Heap) (n:Nat):Ex×St:=(.exit 6,⟨[(2,.lptr 2 0),(9,.lptr 9 0),(10,vI n),(116,vB false)],[(2,[vI 0,vI 0]),(9,cGeom j.g++[q006 j.items,q00b j.notes,q005 j.floats])],H,H.length,[]⟩)
theorem v_lp3 (j:Job) (hn:j.floats.length<=1000000) (H:Heap):evD EE q0Xh (v9E j H 0)=some (if 0<=idxF (fun f=>decide (j.g.first<f.h)) 0 j.floats then vR H 12 (idxF (fun f=>decide (j.g.first<f.h)) 0 j.floats) else v9X j H j.floats.length):=by
 unfold q0Xh
 refine Eq.trans (q013 j.floats (fun (_:Unit) i=>v9E j H i) (fun _ _=>True) (stepH (fun f=>decide (j.g.first<f.h)) (vR H 12)) (fun _=>v9X j H j.floats.length) (fun _ _=>rfl) ?_ ?_ () 0 trivial (Zj _)) (by rw [q08o];rfl)
 ·rintro _ i x-hx
  have hlt:=(Za.1 hx).1
  have w:IntKind.i64.wrap ((i:Int)+1)=((i+1:Nat):Int):=w64 (by omega) (by omega)
  have hix:=fun H k=>q00c H q009 (k:=k) (s:=3) hx rfl
  simp only [q009] at hix
  by_cases e:j.g.first<x.h
  ·simp [stepH,e,v9E,vR,hlt,hix,subs,q001]
  ·simp [stepH,e,v9E,hlt,hix,subs,q001,w]
 ·rintro _-
  simp [v9E,v9X,subs]
theorem q0v0 (g:Geom):geomF g=0\/geomF g=6\/geomF g=7:=by
 unfold geomF
 repeat' split
 all_goals first|exact .inl rfl|exact .inr (.inl rfl)|exact .inr (.inr rfl)
def q08u (j:Job):Int×Int:=
 if 4096<(j.items.length:Int) then (3,0) else if 256<(j.floats.length:Int) then (4,0) else if 512<(j.notes.length:Int) then (5,0)
 else if geomF j.g≠0 then (geomF j.g,0)
 else if 0<=idxF (fun x=> !q016 x) 0 j.items then (8,idxF (fun x=> !q016 x) 0 j.items)
 else if 0<=idxF (fun x=>q01o x.lines x.pens) 0 j.notes then (9,idxF (fun x=>q01o x.lines x.pens) 0 j.notes)
 else if 0<=idxF (fun x=> !q01l x) 0 j.floats then (10,idxF (fun x=> !q01l x) 0 j.floats)
 else if 0<=refF 5 j.notes.length 0 0 j.items/\(refF 6 j.floats.length 0 0 j.items<0\/refF 5 j.notes.length 0 0 j.items<=refF 6 j.floats.length 0 0 j.items) then (11,refF 5 j.notes.length 0 0 j.items)
 else if 0<=refF 6 j.floats.length 0 0 j.items then (11,refF 6 j.floats.length 0 0 j.items)
 else if 0<=tallF j then (12,tallF j) else (0,0)
theorem q0yr (a b:Int) (R:Int×Int):(if 0<=a/\(b<0\/a<=b) then ((11:Int),a) else if 0<=b then (11,b) else R)=if 0<=(if a<0\/b<0 then max a b else min a b) then (11,if a<0\/b<0 then max a b else min a b) else R:=by
 by_cases ha:a<0
 ·have h1: ¬(0<=a/\(b<0\/a<=b)):=by omega
  have h2:a<0\/b<0:= .inl ha
  rw [if_neg h1]
  simp only [if_pos h2]
  by_cases hb:b<0
  ·have h3: ¬0<=b:=by omega
   have h4: ¬0<=max a b:=by omega
   rw [if_neg h3,if_neg h4]
  ·have e:max a b=b:=by omega
   rw [e]
 ·by_cases hb:b<0
  ·have e:max a b=a:=by omega
   have h2:a<0\/b<0:= .inr hb
   have h3:0<=a/\(b<0\/a<=b):=⟨by omega,.inl hb⟩
   rw [if_pos h3]
   simp only [if_pos h2,e,if_pos h3.1]
  ·have h2: ¬(a<0\/b<0):=by omega
   simp only [if_neg h2]
   by_cases hab:a<=b
   ·have e:min a b=a:=by omega
    have h3:0<=a/\(b<0\/a<=b):=⟨by omega,.inr hab⟩
    rw [if_pos h3]
    simp only [e,if_pos h3.1]
   ·have e:min a b=b:=by omega
    have h3: ¬(0<=a/\(b<0\/a<=b)):=by omega
    rw [if_neg h3,e]
theorem q0is (j:Job):q08u j=q02q j:=by
 unfold q08u q02q q01w
 rw [q0yr]
 simp only [q04p,yes,q0fh]
 by_cases c1:4096<(j.items.length:Int)
 ·simp [c1]
 ·by_cases c2:256<(j.floats.length:Int)
  ·simp [c1,c2]
  ·by_cases c3:512<(j.notes.length:Int)
   ·simp [c1,c2,c3]
   ·rcases q0v0 j.g with g|g|g
    ·simp [c1,c2,c3,g]
     rfl
    ·simp [c1,c2,c3,g]
    ·simp [c1,c2,c3,g]
theorem q0ha (j:Job) (ok:okJob j) (n3:(snapG j).floats.length<=1000000) (H:Heap):clD EE (.p (.fn 65)) [vJob j] H=some (.agg [vI (q02q j).1,vI (q02q j).2],none):=by
 rw [q002 _ _ _ _ _ _ (noP _) fn65,<-q0is]
 unfold q08u
 have hg:=q0jo j.g H
 have k0:=v_lp0 j ok H
 have k1:=v_lp1 j ok H
 have k2:=v_lp2 j ok H
 have ha:=q0d6 j.items 5 j.notes.length H ok.n1
 have hb:=q0d6 j.items 6 j.floats.length H ok.n1
 have hs:=q0mn j ok H
 have k3:=v_lp3 (snapG j) n3 H
 have et:idxF (fun f=>decide ((snapG j).g.first<f.h)) 0 (snapG j).floats=tallF j:=rfl
 rw [et] at k3
 generalize snapG j=s at*
 generalize idxF (fun x=> !q016 x) 0 j.items=i1 at*
 generalize idxF (fun x=>q01o x.lines x.pens) 0 j.notes=i2 at*
 generalize idxF (fun x=> !q01l x) 0 j.floats=i3 at*
 generalize tallF j=t at*
 simp only [vE,vX,vR,v9E,v9X] at k0 k1 k2 k3
 simp only [vJob,cGeom,Zd,Zf] at hs
 by_cases c1:4096<(j.items.length:Int)
 ·simp [zEc,c1]
 ·by_cases c2:256<(j.floats.length:Int)
  ·simp [zEc,c1,c2]
  ·by_cases c3:512<(j.notes.length:Int)
   ·simp [zEc,c1,c2,c3]
   ·by_cases c4:geomF j.g=0
    ·rw [c4] at hg
     by_cases d1:0<=i1
     ·rw [if_pos d1] at k0
      simp at k0
      simp [zEc,c1,c2,c3,c4,hg,k0,d1]
     ·rw [if_neg d1] at k0
      by_cases d2:0<=i2
      ·rw [if_pos d2] at k1
       simp at k0 k1
       simp [zEc,c1,c2,c3,c4,hg,k0,k1,d1,d2]
      ·rw [if_neg d2] at k1
       by_cases d3:0<=i3
       ·rw [if_pos d3] at k2
        simp at k0 k1 k2
        simp [zEc,c1,c2,c3,c4,hg,k0,k1,k2,d1,d2,d3]
       ·rw [if_neg d3] at k2
        simp at k0 k1 k2
        generalize refF 5 j.notes.length 0 0 j.items=a at*
        generalize refF 6 j.floats.length 0 0 j.items=b at*
        by_cases e1:0<=a
        ·by_cases e2:b<0
         ·simp [zEc,c1,c2,c3,c4,hg,k0,k1,k2,d1,d2,d3,ha,hb,e1,e2]
         ·by_cases e3:a<=b
          ·simp [zEc,c1,c2,c3,c4,hg,k0,k1,k2,d1,d2,d3,ha,hb,e1,e2,e3]
          ·have e4:0<=b:=by omega
           simp [zEc,c1,c2,c3,c4,hg,k0,k1,k2,d1,d2,d3,ha,hb,e1,e2,e3,e4]
        ·by_cases e4:0<=b
         ·simp [zEc,c1,c2,c3,c4,hg,k0,k1,k2,d1,d2,d3,ha,hb,e1,e4]
         ·by_cases d4:0<=t
          ·rw [if_pos d4] at k3
           simp at k3
           simp [zEc,c1,c2,c3,c4,hg,k0,k1,k2,d1,d2,d3,ha,hb,e1,e4,hs,k3,d4]
          ·rw [if_neg d4] at k3
           simp at k3
           simp [zEc,c1,c2,c3,c4,hg,k0,k1,k2,d1,d2,d3,ha,hb,e1,e4,hs,k3,d4]
    ·simp [zEc,c1,c2,c3,c4,hg]
end Go.EnvOf
