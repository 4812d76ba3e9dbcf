/- The program's functions and the document's, evaluated. -/
import Derived.Test.YthghkndmgdiaoaaGreatText10
import Derived.Test.YthghkndmgdiaoaaGreatText8
import Derived.Test.YthghkndmgdiaoaaGreatText9
set_option linter.unusedSimpArgs false
set_option linter.unusedVariables false
namespace Go.EnvOf
open Go Go.Eng
set_option maxRecDepth 100000
section
variable (j:Job) (w:wfJ j) (hf: ∀x∈j.items,fairI x) (s:Stt) (m:Colm)
variable {R:Nat->List Nat->Heap->Prop} {F:List Nat->Heap->Prop} {q:Nat} {L:List Colm} (he:Eats repCo q L R F)
def teE (Bs:List Int) (q:Nat) (B:Nat) (H:Heap) (d:List Nat) (k:Nat):St:=
 ⟨[(1,.yld q),(2,.lptr 2 0),(19,sli Bs),(20,vI Bs.length),(21,vI k)],[(2,cPl j s m)],H,B,d⟩
def teX (Bs:List Int) (q:Nat) (B:Nat) (H:Heap) (d:List Nat):Ex×St:=
 (.exit 0,⟨[(1,.yld q),(2,.lptr 2 0),(19,sli Bs),(20,vI Bs.length),(21,vI Bs.length),(22,vB false)],[(2,cPl j s m)],H,B,d⟩)
def teY (B:Nat) (H:Heap) (d:List Nat):Ex×St:=(.ret,⟨[(4,vB false)],[],H,B,d⟩)
include w hf he in
theorem te_lp (r0:rightP j s) (Bs:List Int) (hB:Bs.length<=1000000) (A:List Nat) (H0:Heap) (hq:q<H0.length) (c0:Nat)
  (hL:q16v L c0 (Bs.flatMap (toO j s m))) (A1:List Nat) (H1:Heap) (d1:List Nat) (h0:Ctx R q A H0 c0 A1 H1 d1):
  ∃r,evD EE q19b (teE j s m Bs q H0.length H1 d1 0)=some r/\((∃A' H' d,r=teX j s m Bs q H0.length H' d/\Ctx R q A H0 (c0+(Bs.flatMap (toO j s m)).length) A' H' d)\/ ∃A' H' d,r=teY H0.length H' d/\Off F q A H0 A' H' d):=by
 rw [<-q17v]
 unfold q19b
 refine q17u Bs (fun i=>c0+sgm Bs (toO j s m) i) (teE j s m Bs q H0.length) (teX j s m Bs q H0.length) (teY H0.length) (fun _ _ _=>rfl) (fun _ _=>by simp [teY]) (fun _ _=>by simp [teX]) A H0 ?_ ?_ A1 H1 d1 (by simp only [q17k];exact h0)
 ·intro i to A' H' d hx hC
  have hlt:=(Za.1 hx).1
  have hix:=fun H k=>q00c H encI (k:=k) (s:=1) hx rfl
  simp only [encI] at hix
  have w1:IntKind.i64.wrap ((i:Int)+1)=((i+1:Nat):Int):=w64 (by omega) (by omega)
  have hs:=q17l (f:=toO j s m) hx
  simp only [hs]
  obtain ⟨b,r,k1,k2⟩:=q1bm j w hf s m he r0 to A' H' (by have:=hC.keep.1;omega) _ (q16y hL hx) hC.r
  simp only [vPl,cPl,cStt,cColm,cJobW,cGeom,Zd,Zf] at k1
  cases b with
  |true=>
   obtain ⟨A2,hC2⟩:=q180 hq hC k2
   refine .inl ⟨A2,_,_,by rw [<-Z3];exact hC2,?_⟩
   simp only [teE,cPl,cStt,cColm,cJobW,cGeom,Zd,Zf]
   simp [hlt,hix,subs,q001,k1,w1,q121]
  |false=>
   obtain ⟨A2,hO⟩:=q17s hq hC k2
   refine .inr ⟨A2,_,_,hO,?_⟩
   simp only [teE,teY,cPl,cStt,cColm,cJobW,cGeom,Zd,Zf]
   simp [hlt,hix,subs,q001,k1,w1,q121]
 ·intro H' d
  simp only [teE,teX,cPl,cStt,cColm,cJobW,cGeom,Zd,Zf]
  simp
include w hf he in
theorem q1ak (r0:rightP j s) (A:List Nat) (H:Heap) (hq:q<H.length) (c:Nat) (hL:q16v L c (textO j s m)) (h0:R c A H):
  ∃b r,clD EE (.p (.fn 69)) [vPl j s m,.yld q] H=some (vB b,r)/\Fed R F q c (textO j s m).length A H b r:=by
 rw [q002 _ _ _ _ _ _ (noP _) fn69]
 have fl:=fun H=>q0b4 j w.w s H
 unfold textO at hL⊢
 cases b0:q022 j s with
 |false=>
  rw [b0] at fl
  rw [if_neg (by simp)]
  refine ⟨true,none,?_,q18i h0⟩
  simp only [vPl,cPl,cStt,cColm,cJobW,cGeom,Zd,Zf]
  simp [zEc,fl]
 |true=>
  rw [b0] at fl
  rw [if_pos b0] at hL
  rw [if_pos rfl]
  have li:=fun H=>q07e j H
  have br:=fun H=>q0vh j.items w.w.n1 s.at_ H
  obtain ⟨r2,k1,k2⟩:=te_lp j w hf s m he r0 _ (by have:=q18m j.items s.at_;have:=w.w.n1;omega) A H hq c hL A H [] (Ctx.nil R q h0)
  generalize (brkF j.items s.at_).flatMap _=LL at*
  generalize brkF j.items s.at_=Bs at*
  rcases k2 with ⟨A2,H2,d2,rfl,hC2⟩|⟨A2,H2,d2,rfl,hO⟩
  ·refine ⟨true,_,?_,q181 hC2⟩
   simp only [teE,teX,cPl,cStt,cColm,cJobW,cGeom,Zd,Zf,Int.natCast_zero] at k1
   simp only [vPl,cPl,cStt,cColm,cJobW,cGeom,Zd,Zf]
   simp [zEc,fl,li,br,k1]
  ·refine ⟨false,_,?_,q17t hO⟩
   simp only [teE,teY,cPl,cStt,cColm,cJobW,cGeom,Zd,Zf,Int.natCast_zero] at k1
   simp only [vPl,cPl,cStt,cColm,cJobW,cGeom,Zd,Zf]
   simp [zEc,fl,li,br,k1]
def flC (s:Stt) (ids:List Int):Colm:=⟨2,s.at_,s.at_,[],ids,[]⟩
def fpE (Bs:List (List Int)) (q:Nat) (B:Nat) (H:Heap) (d:List Nat) (k:Nat):St:=
 ⟨[(1,.yld q),(2,.lptr 2 0),(26,vIss Bs),(27,vI Bs.length),(28,vI k)],[(2,cPl j s m)],H,B,d⟩
def fpX (Bs:List (List Int)) (q:Nat) (B:Nat) (H:Heap) (d:List Nat):Ex×St:=
 (.exit 0,⟨[(1,.yld q),(2,.lptr 2 0),(26,vIss Bs),(27,vI Bs.length),(28,vI Bs.length),(29,vB false)],[(2,cPl j s m)],H,B,d⟩)
include he in
theorem fp_lp (Bs:List (List Int)) (hB:Bs.length<=1000000) (A:List Nat) (H0:Heap) (hq:q<H0.length) (c0:Nat)
  (hL:q16v L c0 (Bs.map (flC s))) (A1:List Nat) (H1:Heap) (d1:List Nat) (h0:Ctx R q A H0 c0 A1 H1 d1):
  ∃r,evD EE q19c (fpE j s m Bs q H0.length H1 d1 0)=some r/\((∃A' H' d,r=fpX j s m Bs q H0.length H' d/\Ctx R q A H0 (c0+Bs.length) A' H' d)\/ ∃A' H' d,r=teY H0.length H' d/\Off F q A H0 A' H' d):=by
 unfold q19c
 refine q17u Bs (fun i=>c0+i) (fpE j s m Bs q H0.length) (fpX j s m Bs q H0.length) (teY H0.length) (fun _ _ _=>rfl) (fun _ _=>by simp [teY]) (fun _ _=>by simp [fpX]) A H0 ?_ ?_ A1 H1 d1 h0
 ·intro i ids A' H' d hx hC
  have hlt:=(Za.1 hx).1
  have hix:=fun H k=>q00c H encIs (k:=k) (s:=1) hx rfl
  simp only [encIs] at hix
  have w1:IntKind.i64.wrap ((i:Int)+1)=((i+1:Nat):Int):=w64 (by omega) (by omega)
  obtain ⟨b,r,hy,hfed⟩:=q18z he (hL i (flC s ids) (by rw [List.getElem?_map,hx];rfl)) hC.r
  simp only [flC,vColm,cColm,q00v,sli,ZL] at hy
  cases b with
  |true=>
   obtain ⟨A2,hC2⟩:=q180 hq hC hfed
   refine .inl ⟨A2,_,_,hC2,?_⟩
   simp only [fpE,cPl,cStt,cColm,cJobW,cGeom,Zd,Zf]
   simp [hlt,hix,subs,q001,hy,w1,q121]
  |false=>
   obtain ⟨A2,hO⟩:=q17s hq hC hfed
   refine .inr ⟨A2,_,_,hO,?_⟩
   simp only [fpE,teY,cPl,cStt,cColm,cJobW,cGeom,Zd,Zf]
   simp [hlt,hix,subs,q001,hy,w1,q121]
 ·intro H' d
  simp only [fpE,fpX,cPl,cStt,cColm,cJobW,cGeom,Zd,Zf]
  simp
include w he in
theorem q19u (A:List Nat) (H:Heap) (hq:q<H.length) (c:Nat) (hL:q16v L c (q16w j s)) (h0:R c A H):
  ∃b r,clD EE (.p (.fn 70)) [vPl j s m,.yld q] H=some (vB b,r)/\Fed R F q c (q16w j s).length A H b r:=by
 rw [q002 _ _ _ _ _ _ (noP _) fn70]
 have wt:=fun H=>q12j j w.w s H
 have hi:=fun H=>q0v9 j w.w s H
 have al:=fun H=>q1ay j.g j.floats w.w.n3 s.h (q120 j s) (highS j s) H
 have hl:(q175 j.g j.floats s.h (q120 j s) (highS j s)).length<=1000000:=by
  unfold q175
  rw [Z0]
  have h1:=List.length_filter_le (q174 j.g j.floats s.h (highS j s)) (upL (someC (q120 j s)) 8)
  have h2:=q17a (someC (q120 j s)) 8
  omega
 unfold q16w at hL⊢
 rw [Z0]
 obtain ⟨r2,k1,k2⟩:=fp_lp j s m he _ hl A H hq c hL A H [] (Ctx.nil R q h0)
 generalize q175 j.g j.floats s.h (q120 j s) (highS j s)=Bs at*
 generalize q120 j s=x1 at*
 generalize highS j s=x2 at*
 rcases k2 with ⟨A2,H2,d2,rfl,hC2⟩|⟨A2,H2,d2,rfl,hO⟩
 ·refine ⟨true,_,?_,q181 hC2⟩
  simp only [fpE,fpX,cPl,cStt,cColm,cJobW,cGeom,Zd,Zf,Int.natCast_zero] at k1
  simp only [vPl,cPl,cStt,cColm,cJobW,cGeom,Zd,Zf]
  simp [zEc,wt,hi,al,k1]
 ·refine ⟨false,_,?_,q17t hO⟩
  simp only [fpE,teY,cPl,cStt,cColm,cJobW,cGeom,Zd,Zf,Int.natCast_zero] at k1
  simp only [vPl,cPl,cStt,cColm,cJobW,cGeom,Zd,Zf]
  simp [zEc,wt,hi,al,k1]
def ntC (s:Stt) (p:List Piece):Colm:=⟨3,s.at_,s.at_,p,[],[]⟩
def oneN (p:List Piece):List Colm:=if mayO j s m (ntC s p)=true then [ntC s p] else []
def npE (Bs:List (List Piece)) (q:Nat) (B:Nat) (H:Heap) (d:List Nat) (k:Nat):St:=
 ⟨[(1,.yld q),(2,.lptr 2 0),(40,vPss Bs),(41,vI Bs.length),(42,vI k)],[(2,cPl j s m)],H,B,d⟩
def npX (Bs:List (List Piece)) (q:Nat) (B:Nat) (H:Heap) (d:List Nat):Ex×St:=
 (.exit 0,⟨[(1,.yld q),(2,.lptr 2 0),(40,vPss Bs),(41,vI Bs.length),(42,vI Bs.length),(43,vB false)],[(2,cPl j s m)],H,B,d⟩)
include w hf he in
theorem np_lp (Bs:List (List Piece)) (hB:Bs.length<=100000000) (hBs: ∀p∈Bs,p.length<=1000000) (A:List Nat) (H0:Heap) (hq:q<H0.length) (c0:Nat)
  (hL:q16v L c0 (Bs.flatMap (oneN j s m))) (A1:List Nat) (H1:Heap) (d1:List Nat) (h0:Ctx R q A H0 c0 A1 H1 d1):
  ∃r,evD EE q19d (npE j s m Bs q H0.length H1 d1 0)=some r/\((∃A' H' d,r=npX j s m Bs q H0.length H' d/\Ctx R q A H0 (c0+(Bs.flatMap (oneN j s m)).length) A' H' d)\/ ∃A' H' d,r=teY H0.length H' d/\Off F q A H0 A' H' d):=by
 rw [<-q17v]
 unfold q19d
 refine q17u Bs (fun i=>c0+sgm Bs (oneN j s m) i) (npE j s m Bs q H0.length) (npX j s m Bs q H0.length) (teY H0.length) (fun _ _ _=>rfl) (fun _ _=>by simp [teY]) (fun _ _=>by simp [npX]) A H0 ?_ ?_ A1 H1 d1 (by simp only [q17k];exact h0)
 ·intro i p A' H' d hx hC
  have hlt:=(Za.1 hx).1
  have hix:=fun H k=>q00c H encPs (k:=k) (s:=1) hx rfl
  simp only [encPs] at hix
  have w1:IntKind.i64.wrap ((i:Int)+1)=((i+1:Nat):Int):=w64 (by omega) (by omega)
  have my:=fun H=>q19j j w hf s m (ntC s p) (hBs p (Zp hx)) (by simp [ntC]) (by simp [ntC]) H
  have hw:=q16y hL hx
  have hs:=q17l (f:=oneN j s m) hx
  simp only [ntC,vPl,cPl,cStt,cColm,cJobW,cGeom,vColm,Zd,Zf] at my
  simp only [sli,ZL] at my
  simp only [hs]
  by_cases b0:mayO j s m (ntC s p)=true
  ·have e1:oneN j s m p=[ntC s p]:=by unfold oneN;rw [if_pos b0]
   rw [e1] at hw⊢
   simp only [ntC] at b0
   obtain ⟨b,r,hy,hfed⟩:=q18z he (hw 0 _ rfl) hC.r
   simp only [ntC,vColm,cColm,sli,ZL] at hy
   rw [b0] at my
   cases b with
   |true=>
    obtain ⟨A2,hC2⟩:=q180 hq hC hfed
    refine .inl ⟨A2,_,_,hC2,?_⟩
    simp only [npE,cPl,cStt,cColm,cJobW,cGeom,Zd,Zf] at my⊢
    simp [hlt,hix,subs,q001,my,hy,q121,w1]
   |false=>
    obtain ⟨A2,hO⟩:=q17s hq hC hfed
    refine .inr ⟨A2,_,_,hO,?_⟩
    simp only [npE,teY,cPl,cStt,cColm,cJobW,cGeom,Zd,Zf] at my⊢
    simp [hlt,hix,subs,q001,my,hy,q121,w1]
  ·have e1:oneN j s m p=[]:=by unfold oneN;rw [if_neg b0]
   rw [e1]
   simp only [ntC,Bool.not_eq_true] at b0
   rw [b0] at my
   refine .inl ⟨A',H',d,hC,?_⟩
   simp only [npE,cPl,cStt,cColm,cJobW,cGeom,Zd,Zf] at my⊢
   simp [hlt,hix,subs,q001,my,w1]
 ·intro H' d
  simp only [npE,npX,cPl,cStt,cColm,cJobW,cGeom,Zd,Zf]
  simp
include w hf he in
theorem q1a8 (r0:rightP j s) (A:List Nat) (H:Heap) (hq:q<H.length) (c:Nat) (hL:q16v L c (noteO j s m)) (h0:R c A H):
  ∃b r,clD EE (.p (.fn 71)) [vPl j s m,.yld q] H=some (vB b,r)/\Fed R F q c (noteO j s m).length A H b r:=by
 rw [q002 _ _ _ _ _ _ (noP _) fn71]
 have li:=fun H=>q07e j H
 have ln:=fun H=>q021 j.items H
 unfold noteO at hL⊢
 by_cases b0:s.at_<j.items.length\/s.note=j.notes.length
 ·rw [if_pos b0]
  refine ⟨true,none,?_,q18i h0⟩
  simp only [vPl,cPl,cStt,cColm,cJobW,cGeom,Zd,Zf]
  by_cases b1:s.at_<j.items.length
  ·simp [zEc,li,ln,b1]
  ·have b2:=b0.resolve_left b1
   simp [zEc,li,ln,b1,b2]
 ·rw [if_neg b0] at hL⊢
  rw [show ((q00j j.notes (q02h (spotS j s s.at_))).map fun p=>(⟨3,s.at_,s.at_,p,[],[]⟩:Colm)).filter (mayO j s m)=(q00j j.notes (q02h (spotS j s s.at_))).flatMap (oneN j s m) from q182 _ _ _] at hL⊢
  have b1: ¬s.at_<j.items.length:=fun h=>b0 (.inl h)
  have b2: ¬s.note=j.notes.length:=fun h=>b0 (.inr h)
  have sp:=fun H=>q07t j w.w s s.at_ H
  have ch:=fun H=>q17n j.notes (q02h (spotS j s s.at_)) (q09f j w s s.at_) (q196 w r0 s.at_) (q0nx (q09f j w s s.at_)) H
  obtain ⟨r2,k1,k2⟩:=np_lp j w hf s m he _ (q0nx (q09f j w s s.at_)) (q0d0 (q09f j w s s.at_)) A H hq c hL A H [] (Ctx.nil R q h0)
  generalize (q00j j.notes (q02h (spotS j s s.at_))).flatMap _=LL at*
  generalize q00j j.notes (q02h (spotS j s s.at_))=Bs at*
  generalize spotS j s s.at_=x1 at*
  simp only [q02h] at ch
  rcases k2 with ⟨A2,H2,d2,rfl,hC2⟩|⟨A2,H2,d2,rfl,hO⟩
  ·refine ⟨true,_,?_,q181 hC2⟩
   simp only [npE,npX,cPl,cStt,cColm,cJobW,cGeom,Zd,Zf,Int.natCast_zero] at k1
   simp only [vPl,cPl,cStt,cColm,cJobW,cGeom,Zd,Zf]
   simp [zEc,li,ln,b1,b2,sp,ch,k1]
  ·refine ⟨false,_,?_,q17t hO⟩
   simp only [npE,teY,cPl,cStt,cColm,cJobW,cGeom,Zd,Zf,Int.natCast_zero] at k1
   simp only [vPl,cPl,cStt,cColm,cJobW,cGeom,Zd,Zf]
   simp [zEc,li,ln,b1,b2,sp,ch,k1]
end
def eachV (p:Nat):V:= .fn (.func 66) [] [.ptr p 0,.ptr (p+1) 0]
@[simp] theorem q1c4 (p:Nat):V.notL (eachV p)=true:=_root_.id rfl
@[simp] theorem q1c2 (p k:Nat):q00s (eachV p) k=true:=_root_.id rfl
@[simp] theorem q1c5 (p:Nat):V.outB (eachV p)=true:=_root_.id rfl
@[simp] theorem q1c6 (p:Nat):outL (eachV p)=eachV p:=_root_.id rfl
@[simp] theorem q1c3 (p:Nat):normA (eachV p)=eachV p:=_root_.id rfl
theorem q1al (j:Job) (s:Stt) (H:Heap):clD EE (.p (.fn 15)) [vW j,vStt s] H=some (eachV H.length,some (H++[.box [vW j],.box (cStt s)],[])):=by
 rw [q002 _ _ _ _ _ _ (noP _) fn15]
 simp [zEc,eachV]
section
variable (j:Job) (w:wfJ j) (hf: ∀x∈j.items,fairI x) (s:Stt) (m:Colm)
variable {R:Nat->List Nat->Heap->Prop} {F:List Nat->Heap->Prop} {q:Nat} {L:List Colm} (he:Eats repCo q L R F)
def fnsV:List (List V):=[[.fn (.func 69) [vPl j s m] []],[.fn (.func 70) [vPl j s m] []],[.fn (.func 71) [vPl j s m] []]]
def eaE (q:Nat) (B:Nat) (H:Heap) (d:List Nat) (k:Nat):St:=⟨[(0,.yld q),(29,.vsl (fnsV j s m)),(30,vI 3),(31,vI k)],[],H,B,d⟩
def eaX (q:Nat) (B:Nat) (H:Heap) (d:List Nat):Ex×St:=(.exit 0,⟨[(0,.yld q),(29,.vsl (fnsV j s m)),(30,vI 3),(31,vI 3),(32,vB false)],[],H,B,d⟩)
def eaY (q:Nat) (B:Nat) (k:Nat) (H:Heap) (d:List Nat):Ex×St:=(.ret,⟨[(0,.yld q),(29,.vsl (fnsV j s m)),(30,vI 3),(31,vI k),(38,vB true)],[],H,B,d⟩)
def q16z:List (List Colm):=[textO j s m,q16w j s,noteO j s m]
include w hf he in
theorem ea_lp (r0:rightP j s) (A:List Nat) (H0:Heap) (hq:q<H0.length) (c0:Nat) (hL:q16v L c0 ((q16z j s m).flatMap fun x=>x)) (A1:List Nat) (H1:Heap) (d1:List Nat) (h0:Ctx R q A H0 c0 A1 H1 d1):
  ∃r,evD EE q0Ua (eaE j s m q H0.length H1 d1 0)=some r/\((∃A' H' d,r=eaX j s m q H0.length H' d/\Ctx R q A H0 (c0+((q16z j s m).flatMap fun x=>x).length) A' H' d)\/ ∃k A' H' d,r=eaY j s m q H0.length k H' d/\Off F q A H0 A' H' d):=by
 rw [<-q17v]
 unfold q0Ua
 refine q19k (q16z j s m) (fun i=>c0+sgm (q16z j s m) (fun x=>x) i) (eaE j s m q H0.length) (eaX j s m q H0.length) (eaY j s m q H0.length) (fun _ _ _=>rfl) (fun _ _ _=>by simp [eaY]) (fun _ _=>by simp [eaX]) A H0 ?_ ?_ A1 H1 d1 (by simp only [q17k];exact h0)
 ·intro i x A' H' d hx hC
  have hw:=q16y hL hx
  have hs:=q17l (f:=fun x=>x) hx
  simp only [hs]
  have hq':q<H'.length:=by have:=hC.keep.1;omega
  have key: ∃f b r,(∀H k,ixsI H (.vsl (fnsV j s m)) (.p (.int k (i:Int))) 1=some (.eptr [V.fn (.func f) [vPl j s m] []] 0))/\(i:Int)<3/\clD EE (.p (.fn f)) [vPl j s m,.yld q] H'=some (vB b,r)/\Fed R F q (c0+sgm (q16z j s m) (fun x=>x) i) x.length A' H' b r:=by
   match i,hx with
   |0,hx=>
    cases hx
    obtain ⟨b,r,k1,k2⟩:=q1ak j w hf s m he r0 A' H' hq' _ hw hC.r
    exact ⟨_,b,r,fun H k=>by simp [ixsI,ixsV,fnsV],by omega,k1,k2⟩
   |1,hx=>
    cases hx
    obtain ⟨b,r,k1,k2⟩:=q19u j w s m he A' H' hq' _ hw hC.r
    exact ⟨_,b,r,fun H k=>by simp [ixsI,ixsV,fnsV],by omega,k1,k2⟩
   |2,hx=>
    cases hx
    obtain ⟨b,r,k1,k2⟩:=q1a8 j w hf s m he r0 A' H' hq' _ hw hC.r
    exact ⟨_,b,r,fun H k=>by simp [ixsI,ixsV,fnsV],by omega,k1,k2⟩
   |n+3,hx=>simp [q16z] at hx
  obtain ⟨f,b,r,hix,hlt,k1,k2⟩:=key
  have w1:IntKind.i64.wrap ((i:Int)+1)=((i+1:Nat):Int):=w64 (by omega) (by omega)
  cases b with
  |true=>
   obtain ⟨A2,hC2⟩:=q180 hq hC k2
   refine .inl ⟨A2,_,_,by rw [<-Z3];exact hC2,?_⟩
   simp [eaE,hlt,hix,subs,q001,q02m,k1,w1,q121]
  |false=>
   obtain ⟨A2,hO⟩:=q17s hq hC k2
   refine .inr ⟨A2,_,_,hO,?_⟩
   simp [eaE,eaY,hlt,hix,subs,q001,q02m,k1,w1,q121]
 ·intro H' d
  simp [eaE,eaX,q16z]
include w hf he in
theorem q1am (A:List Nat) (H:Heap) (hq:q<H.length) (p:Nat) (b1:Eng.boxAt H p=some [vW j]) (b2:Eng.boxAt H (p+1)=some (cStt s)) (hL:L=q16q j s) (h0:R 0 A H):
  ∃r,clD EE (eachV p) [.yld q] H=some (.tup [],r)/\Gave (q16q j s) R F A H r:=by
 rw [eachV,q02m,q002 _ _ _ _ _ _ (noP _) fn66]
 have ls:=fun H=>q0qq j w s H
 have pl:=fun H=>q07d j H
 unfold q16q at hL⊢
 cases hm:q04r j s with
 |none=>
  rw [hm] at ls
  refine ⟨none,?_,A,Keep.refl _ _,fun _ h=>(nomatch h),fun _ h=> .inl h,.inl h0⟩
  simp [zEc,b1,b2,ls,vOC,q014]
 |some m=>
  rw [hm] at ls hL
  have o:openS j s=true:=by
   cases o:openS j s with
   |true=>rfl
   |false=>rw [q0Y9 o] at hm;cases hm
  have r0:=((q04a j s).1 o).1
  have e:((q16z j s m).flatMap fun x=>x)=textO j s m++(q16w j s++noteO j s m):=by simp [q16z]
  have hL2:q16v L 0 ((q16z j s m).flatMap fun x=>x):=by
   rw [e,hL]
   intro i x hx
   rw [Zs];exact hx
  obtain ⟨r,k1,k2⟩:=ea_lp j w hf s m he r0 A H hq 0 hL2 A H [] (Ctx.nil R q h0)
  rw [e,Zs] at k2
  simp only [eaE,fnsV,vPl,cPl,cStt,cColm,cJobW,cGeom,Zd,Zf,Int.natCast_zero] at k1
  simp only [vOC,Option.getD_some,Option.isSome_some,vColm,cColm,cStt,vStt] at ls
  simp only [vJob,cGeom,Zd,Zf] at pl
  rcases k2 with ⟨A2,H2,d2,rfl,hC2⟩|⟨k,A2,H2,d2,rfl,hO⟩
  ·obtain ⟨A3,f1,f2,f3,f4,f5,f6⟩:=q181 (F:=F) (c:=0) (n:=(textO j s m++(q16w j s++noteO j s m)).length) (by rw [Zs];exact hC2)
   rw [Zs] at f4
   refine ⟨_,?_,A3,f1,f2,f3,.inl (f4 rfl)⟩
   simp only [eaX,fnsV,vPl,cPl,cStt,cColm,cJobW,cGeom,Zd,Zf] at k1
   simp [zEc,b1,b2,ls,pl,k1]
  ·obtain ⟨A3,f1,f2,f3,f4,f5,f6⟩:=q17t (R:=R) (F:=F) (c:=0) (n:=0) hO
   refine ⟨_,?_,A3,f1,f2,f3,.inr (f5 rfl)⟩
   simp only [eaY,fnsV,vPl,cPl,cStt,cColm,cJobW,cGeom,Zd,Zf] at k1
   simp [zEc,b1,b2,ls,pl,k1]
end
def coEnv (h:Nat) (cl:V):List (Nat×V):=[(2,.ptr h 0),(6,cl)]
def q17b (st:LSt) (h:Nat) (cl:V):DObj:= .loop st (coEnv h cl) [7] q17f q17g
def coR (L:List Colm) (h:Nat) (cl:V) (i:Nat) (A:List Nat) (H:Heap):Prop:=
 h∈A/\h+1∈A/\(∀k∈A,h<=k/\k<H.length)/\H[h+1]? =some (q17b .ready h cl)/\
 ((i=0/\Eng.boxAt H h=some [.nil0])\/(0<i/\ ∃id,id∈A/\h+1<id/\Eng.boxAt H h=some [.row id i 0 i]/\Eng.rowAt H id=some (6,upV ((L.take i).map q148))/\i<=L.length))
theorem q1bn (L:List Colm) (hL:L.length<=1000000000) (h p:Nat):Eats repCo (h+1) L (coR L h (eachV p)) (fun _ _=>False):=by
 refine ⟨?_,?_,?_⟩
 ·rintro i A H K ⟨a1,a2,a3,a4,a5⟩ g
  refine ⟨a1,a2,fun k hk=>⟨(a3 k hk).1,by have:=(a3 k hk).2;have:=g.1;omega⟩,by rw [g.2 _ a2];exact a4,?_⟩
  rcases a5 with ⟨rfl,b⟩|⟨i0,id,b1,b2,b3,b4,b5⟩
  ·exact .inl ⟨rfl,g.box b a1⟩
  ·exact .inr ⟨i0,id,b1,b2,g.box b3 a1,g.row b4 b1,b5⟩
 ·rintro i A H ⟨-,-,a3,-⟩ k hk
  exact (a3 k hk).2
 ·rintro i A H x v B hx ⟨a1,a2,a3,a4,a5⟩ ⟨rfl,rfl⟩-
  have hlt:=(Za.1 hx).1
  have hq:=(a3 _ a2).2
  have hh:=(a3 _ a1).2
  have ne:h+1≠h:=by omega
  have h1m:1<most:=by decide
  have tk:L.take (i+1)=L.take i++[x]:=by rw [List.take_add_one,hx];rfl
  rcases a5 with ⟨rfl,b⟩|⟨i0,id,b1,b2,b3,b4,b5⟩
  ·have bx: ∀o T,Eng.boxAt (H.set (h+1) o++T) h=some [.nil0]:=fun o T=>(q077 T (by simpa using hh)).trans ((q01p H (h+1) h o ne).trans b)
   have bx0: ∀o,Eng.boxAt (H.set (h+1) o) h=some [.nil0]:=fun o=>(q01p H (h+1) h o ne).trans b
   refine ⟨true,(((H.set (h+1) (q17b .busy h (eachV p))).set h (.box [.row H.length 1 0 1]))++[DObj.row 6 (upV [q148 x])]).set (h+1) (q17b .ready h (eachV p)),[h,h+1],H.length::A,?_,by simp,?_,?_,?_,fun _=> ?_,(fun e=>nomatch e)⟩
   ·refine q0e5 a4 rfl (env1:=[(2,.ptr h 0),(5,.lptr 5 0)]) (loc1:=[(5,cColm x)]) ?_ (x:= .normal) (env2:=[]) (loc2:=[]) (d2:=[h,h+1]) ?_ ?_
    ·simp [coEnv,q17f,q001,subs]
    ·simp [q17g,bx0,bx,q001,subs,hh,h1m,q148,okEl,upV]
     rfl
    ·rw [Zw (by simpa using hq),Zr (by omega)]
     exact ZX hq
   ·exact (((Keep.set A _ _ _ (.inl a2)).trans (Keep.set A _ _ _ (.inl a1)) (fun k hk=> .inl hk)).trans (Keep.app A _ _) (fun k hk=> .inl hk)).trans (Keep.set A _ _ _ (.inl a2)) (fun k hk=> .inl hk)
   ·intro k hk
    simp at hk
    rcases hk with rfl|rfl
    ·exact .inl a1
    ·exact .inl a2
   ·intro k hk
    rcases ZI.1 hk with rfl|hk
    ·exact .inr (.inr (Zm _))
    ·exact .inl hk
   ·refine ⟨by simp [a1],by simp [a2],fun k hk=> ?_,?_,.inr ⟨by omega,H.length,by simp,by omega,?_,?_,by omega⟩⟩
    ·simp only [List.length_set,Zt,List.length_singleton]
     rcases ZI.1 hk with rfl|hk
     ·omega
     ·have:=a3 k hk;omega
    ·exact ZX (by simp;omega)
    ·rw [q01p _ _ _ _ ne,q077 _ (by simpa using hh)]
     exact q07o _ _ _ (by simpa using hh)
    ·unfold Eng.rowAt
     rw [Zr (by omega),ZD (by simp),tk]
     simp
  ·have hidl:=q09d b4
   have bx0: ∀o,Eng.boxAt (H.set (h+1) o) h=some [.row id i 0 i]:=fun o=>(q01p H (h+1) h o ne).trans b3
   have rw0: ∀o,Eng.rowAt (H.set (h+1) o) id=some (6,upV ((L.take i).map q148)):=fun o=>by
    unfold Eng.rowAt at*
    rw [Zr (by omega)];exact b4
   have bx1: ∀o es,Eng.boxAt ((H.set (h+1) o).set id (.row 6 es)) h=some [.row id i 0 i]:=fun o es=>(q01p _ id h _ (by omega)).trans (bx0 o)
   have hm:i+1<most:=by unfold most;omega
   have hli:(upV ((L.take i).map q148)).length=i:=by simp [upV,ZC];omega
   refine ⟨true,(((H.set (h+1) (q17b .busy h (eachV p))).set id (.row 6 (upV ((L.take (i+1)).map q148)))).set h (.box [.row id (i+1) 0 (i+1)])).set (h+1) (q17b .ready h (eachV p)),[h,id,h+1],A,?_,by simp,?_,?_,fun k hk=> .inl hk,fun _=> ?_,(fun e=>nomatch e)⟩
   ·refine q0e5 a4 rfl (env1:=[(2,.ptr h 0),(5,.lptr 5 0)]) (loc1:=[(5,cColm x)]) ?_ (x:= .normal) (env2:=[]) (loc2:=[]) (d2:=[h,id,h+1]) ?_ ?_
    ·simp [coEnv,q17f,q001,subs]
    ·simp [q17g,bx0,bx1,rw0,q001,subs,hh,hm,hidl,Nat.min_eq_left b5,tk,q148,upV,okEl]
     rfl
    ·rw [Zr (by omega),Zr (by omega)]
     exact ZX hq
   ·exact (((Keep.set A _ _ _ (.inl a2)).trans (Keep.set A _ _ _ (.inl b1)) (fun k hk=> .inl hk)).trans (Keep.set A _ _ _ (.inl a1)) (fun k hk=> .inl hk)).trans (Keep.set A _ _ _ (.inl a2)) (fun k hk=> .inl hk)
   ·intro k hk
    simp at hk
    rcases hk with rfl|rfl|rfl
    ·exact .inl a1
    ·exact .inl b1
    ·exact .inl a2
   ·refine ⟨a1,a2,fun k hk=> ?_,?_,.inr ⟨by omega,id,b1,b2,?_,?_,by omega⟩⟩
    ·simp only [List.length_set]
     exact a3 k hk
    ·exact ZX (by simpa using hq)
    ·rw [q01p _ _ _ _ ne]
     exact q07o _ _ _ (by simpa using hh)
    ·unfold Eng.rowAt
     rw [Zr (by omega),Zr (by omega),ZX (by simpa using hidl)]
section
variable (j:Job) (w:wfJ j) (hf: ∀x∈j.items,fairI x) (s:Stt)
include w hf
theorem q19m (hlen:(q16q j s).length<=1000000000) (G:Heap) (p:Nat) (b1:Eng.boxAt G p=some [vW j]) (b2:Eng.boxAt G (p+1)=some (cStt s)):
  clD EE (.p (.fn 146)) [.nil0,eachV p] G=some (vCos (q16q j s),none):=by
 have hp:=q02y b1
 have hp2:=q02y b2
 obtain ⟨H1,hH1⟩: ∃H1,H1=G++[DObj.box [.nil0]]:=⟨_,rfl⟩
 have hl1:H1.length=G.length+1:=by simp [hH1]
 have e0:coR (q16q j s) G.length (eachV p) 0 [G.length,G.length+1] (H1++[q17b .ready G.length (eachV p)]):=by
  refine ⟨by simp,by simp,fun k hk=> ?_,?_,.inl ⟨rfl,?_⟩⟩
  ·simp at hk;simp [hl1];omega
  ·rw [<-hl1];simp
  ·simp [hH1,Zx]
 obtain ⟨r,h1,A',hk,hd,hs,hR⟩:=q1am j w hf s (q1bn (q16q j s) hlen G.length p) [G.length,G.length+1] (H1++[q17b .ready G.length (eachV p)]) (by simp [hl1]) p
  (by rw [q077 _ (by omega),hH1,q077 _ hp];exact b1) (by rw [q077 _ (by omega),hH1,q077 _ hp2];exact b2) rfl e0
 have hds:(dsOf r).foldr (addD G.length) []=[]:=q0bt fun k hk=>by
  rcases hd k hk with h|h
  ·simp at h;omega
  ·simp [hl1] at h;omega
 rw [q002 _ _ _ _ _ _ (noP _) fn146]
 have hv:(∃f,eachV p= .p (.fn f))\/ ∃f u v,eachV p= .fn (.func f) u v:= .inr ⟨_,_,_,rfl⟩
 have hloop:q17b .ready G.length (eachV p)= .loop .ready (outE [(2,.ptr G.length 0),(6,eachV p)]) [7] q17f q17g:=rfl
 rw [hloop,<-hl1] at h1
 rw [hloop] at hR
 rcases hR with ⟨-,-,a3,a4,a5⟩|hF
 ·have rg:=q0n9 (env:=[(2,.ptr G.length 0),(6,eachV p)]) (loc:=[]) (hp:=H1) (base:=G.length) (dirty:=[]) (x:= .t 6) (ps:=[7]) hv rfl h1 (by rw [hl1];exact a4) (by simp)
  rw [hds,hl1] at rg
  generalize hpOf (H1++[DObj.loop .ready (outE [(2,.ptr G.length 0),(6,eachV p)]) [7] q17f q17g]) r=K at*
  subst hH1
  rcases a5 with ⟨z,c3⟩|⟨-,id,c1,c2,c3,c4,c5⟩
  ·have bx: ∀ob,Eng.boxAt (K.set (G.length+1) ob) G.length=some [.nil0]:=fun ob=>(q01p _ _ _ _ (by omega)).trans c3
   rw [List.eq_nil_of_length_eq_zero z]
   simp [zEc,rg,exSt,bx]
  ·have bx: ∀ob,Eng.boxAt (K.set (G.length+1) ob) G.length=some [.row id (q16q j s).length 0 (q16q j s).length]:=fun ob=>(q01p _ _ _ _ (by omega)).trans c3
   rw [List.take_length] at c4
   have rw0: ∀ob,Eng.rowAt (K.set (G.length+1) ob) id=some (6,upV ((q16q j s).map q148)):=fun ob=>by
    unfold Eng.rowAt at*
    rw [Zr (by omega)];exact c4
   have hid:G.length<=id:=by omega
   simp [zEc,rg,exSt,bx,rw0,hid]
 ·exact hF.elim
theorem q1b1 (hlen:(q16q j s).length<=1000000000) (H:Heap):clD EE (.p (.fn 13)) [vW j,vStt s] H=some (vCos (q16q j s),none):=by
 have al:=fun H=>q1al j s H
 have ap:=q19m j w hf s hlen (H++[.box [vW j],.box (cStt s)]) H.length (by simp) (by simp [Eng.boxAt])
 have co:clD EE (.p (.fn 56)) [eachV H.length] (H++[.box [vW j],.box (cStt s)])=some (vCos (q16q j s),none):=by
  rw [q002 _ _ _ _ _ _ (noP _) fn56]
  simp [zEc,ap]
 rw [q002 _ _ _ _ _ _ (noP _) fn13]
 simp [zEc,al,co]
end
def leCo (a b:Int×Int):Prop:=a.1<b.1\/a.1=b.1/\a.2<=b.2
theorem q1b2 (a b:Int×Int):cmpCo a b<=0↔leCo a b:=by
 unfold cmpCo leCo lexC lexC lexC cmp1
 (repeat' split)<;>omega
theorem q19n (a b:Int×Int):cmpCo a b<0↔a.1<b.1\/a.1=b.1/\a.2<b.2:=by
 unfold cmpCo lexC lexC lexC cmp1
 (repeat' split)<;>omega
theorem q1an (a:Int×Int):leCo a a:= .inr ⟨rfl,ZS _⟩
theorem q17x {a b c:Int×Int} (h:leCo a b) (g:leCo b c):leCo a c:=by unfold leCo at*;omega
theorem q18j: ∀(l:List (Int×Int)) (y:Int×Int) (i:Nat),∃v,fold leO (some y) i l=some v/\leCo v y/\ ∀x∈l,leCo v x
 |[],y,_=>⟨y,rfl,q1an y,fun x hx=>by cases hx⟩
 |x::r,y,i=>by
  simp only [fold,leO]
  by_cases c:cmpCo x y<0
  ·rw [if_pos c]
   obtain ⟨v,h1,h2,h3⟩:=q18j r x (i+1)
   have xy:leCo x y:=by have:=(q19n x y).1 c;unfold leCo;omega
   refine ⟨v,h1,q17x h2 xy,fun z hz=> ?_⟩
   rcases ZI.1 hz with rfl|hz
   ·exact h2
   ·exact h3 z hz
  ·rw [if_neg c]
   obtain ⟨v,h1,h2,h3⟩:=q18j r y (i+1)
   have yx:leCo y x:=by
    have: ¬(x.1<y.1\/x.1=y.1/\x.2<y.2):=fun h=>c ((q19n x y).2 h)
    unfold leCo;omega
   refine ⟨v,h1,h2,fun z hz=> ?_⟩
   rcases ZI.1 hz with rfl|hz
   ·exact q17x h2 yx
   ·exact h3 z hz
theorem q1ao {l:List (Int×Int)} {x:Int×Int} (h:x∈l): ∃v,q177 l=some v/\v∈l/\ ∀y∈l,leCo v y:=by
 cases l with
 |nil=>cases h
 |cons y r=>
  obtain ⟨v,h1,h2,h3⟩:=q18j r y 1
  refine ⟨v,h1,?_,fun z hz=> ?_⟩
  ·rcases q183 (y::r) with ⟨-,e⟩|⟨a,b,e⟩
   ·unfold q177 at e;simp only [fold,leO] at e;rw [h1] at e;cases e
   ·have e1:q177 (y::r)=some v:=h1
    rw [e1] at e
    rw [Option.some.inj e]
    exact q05a a b
  ·rcases ZI.1 hz with rfl|hz
   ·exact h2
   ·exact h3 z hz
def q16r (n:Int) (c:Int×Int):Prop:=(0<=c.1/\c.1<=n)/\0<=c.2/\c.2<=1125899906842624
theorem q17m (o:Bool) (l:List Int):q16r 1 (q0Tp o l):=by
 unfold q16r
 rw [q0Ui,q14i]
 have:=q152 l
 cases o<;>simp<;>omega
theorem q19v {m n:Int} {a b:Int×Int} (ha:q16r m a) (hb:q16r n b) (h:m+n<=1000000):q16r (m+n) (addCo a b):=by
 unfold q16r at*
 unfold addCo addM heldN
 simp only
 omega
theorem q19w (j:Job) (hl:j.items.length<=1000): ∀(k:Nat) (a:Int),((j.items.length:Int)-a).toNat=k-> ∀v,fromX j a=some v->q16r (max ((j.items.length:Int)-a) 0) v:=by
 intro k
 induction k using Nat.strongRecOn with
 |ind k ih=>
  intro a hk v hv
  by_cases c:a<0\/(j.items.length:Int)<a
  ·rw [q1au j a c] at hv;cases hv
  by_cases e:a=j.items.length
  ·rw [e,q1at] at hv
   cases hv
   unfold q16r;simp only;omega
  ·rw [q19t j a (by omega) (by omega)] at hv
   split at hv
   ·rename_i tr
    rcases q183 ((brkF j.items a).filterMap (addO j a)) with ⟨-,e1⟩|⟨b1,b2,e1⟩
    ·rw [e1] at hv;cases hv
    ·rw [e1] at hv
     have hm:=q05a b1 b2
     rw [Option.some.inj hv] at hm
     obtain ⟨to,hb,ho⟩:=List.mem_filterMap.1 hm
     have bm:=q0Bd (l:=j.items) (a:=a) (by omega) hb
     unfold addO at ho
     obtain ⟨t,ht,rfl⟩:=Option.map_eq_some_iff.1 ho
     have st:q16r 1 t:=by
      unfold textX at ht
      split at ht
      ·cases ht
      ·cases ht;exact q17m _ _
     have tl:=q10y (l:=j.items) (n:=to) (by omega) bm.2.1
     have tu:=q0Zi j.items to
     have sr:q16r (max ((j.items.length:Int)-a-1) 0) ((fromX j (trimF j.items to)).getD (0,0)):=by
      cases q:fromX j (trimF j.items to) with
      |none=>unfold q16r;simp only [Option.getD_none];omega
      |some u=>
       have:=ih ((j.items.length:Int)-trimF j.items to).toNat (by omega) (trimF j.items to) rfl u q
       simp only [Option.getD_some]
       unfold q16r at*
       omega
     have:=q19v st sr (by omega)
     unfold q16r at*
     omega
   ·cases hv
def q16t (j:Job) (s:Stt):Int×Int:=if q01g j s=true then (fromX j s.at_).getD (0,0) else (0,0)
theorem q18d {j:Job} (hl:j.items.length<=1000) {s:Stt} (r:rightP j s):q16r 1000 ((fromX j s.at_).getD (0,0)):=by
 cases q:fromX j s.at_ with
 |none=>unfold q16r;simp
 |some u=>
  have:=q19w j hl _ s.at_ rfl u q
  have:=r.at0
  simp only [Option.getD_some]
  unfold q16r at*
  omega
theorem q1b3 {a b c:Int×Int} (h:leCo a b) (ha:q16r 1 a) (hb:q16r 1 b) (hc:q16r 1000 c):leCo (addCo a c) (addCo b c):=by
 unfold leCo q16r at*
 unfold addCo addM heldN
 simp only
 omega
theorem q1bt {b c:Int×Int} (hb:q16r 1 b) (hc:q16r 1000 c):leCo c (addCo b c):=by
 unfold leCo q16r at*
 unfold addCo addM heldN
 simp only
 omega
theorem q19x (j:Job) (s:Stt) (c:Colm):q16r 1 (costC j s c):=by
 unfold costC
 split
 ·exact q17m _ _
 ·unfold q16r;simp
theorem q19o {x:Int}: ∀ {l:List Int},x∈l->heldN x<=sumH l
 |y::r,h=>by
  have g:=q152 r
  have b:=q0Tq y
  simp only [sumH]
  rcases ZI.1 h with rfl|h
  ·omega
  ·have:=q19o h
   omega
theorem q1b4 {j:Job} (w:wfJ j) (q:lowJ j) {s:Stt} {c:Colm} (h:q06c j s c=0) (k1:c.k=1): ∃t,textX j s.at_ c.to=some t/\q16r 1 t/\leCo t (costC j s c):=by
 have o:=q1ac h
 obtain ⟨r,-⟩:=(q04a j s).1 o
 obtain ⟨m,hm,-,-⟩:=q0Yi w o
 have hover:=q1ad h
 rw [hm,Option.getD_some] at hover
 have h':=h
 unfold q06c at h
 by_cases he:endE j s c=true
 ·rw [if_pos he] at h;cases h
 rw [if_neg he] at h
 by_cases hk:kindE j s c≠0
 ·rw [if_pos hk] at h;exact absurd h hk
 have hk:kindE j s c=0:=by omega
 unfold kindE at hk
 rw [if_pos k1] at hk
 unfold textE at hk
 split at hk
 ·cases hk
 split at hk
 ·cases hk
 split at hk
 ·cases hk
 split at hk
 ·cases hk
 rename_i f1 f2 f3 f4
 simp only [Bool.not_eq_false,not_or] at f1 f2 f3 f4
 obtain ⟨n0,l0,n1,n2⟩:=q09w w r
 have hb:c.to∈brkF j.items s.at_:=by simpa using f2
 have bm:=q0Bd r.at0 hb
 have hp:=(q0ja _ _ _).1 f3
 have hl:c.notes.length<=100:=by
  rw [q0p6 r] at hp
  have:=q1a7 (s:=⟨s.note,s.line,q00z j c.to,decide (q00z j s.at_<q00z j c.to)⟩) (q03o w.w _) n0 hp
  have:=q.notes
  omega
 obtain ⟨z1,z2⟩:=q1ah q f4.2
 have rb:=q1bk w q r k1 hl z1 z2
 have hi:highS j s<=j.g.high:=by
  have:=w.high
  unfold highS
  rw [if_pos ((q02k j s).2 r)]
  split<;>omega
 have ov:overX j s.at_ c.to=true->(q02r j s c).over=true:=fun e=>by
  unfold overX at e
  simp only [decide_eq_true_eq] at e
  have h3:(setC j s c).how=3:=q1ag (Int.le_trans rb.2 hi) rb.1 e
  unfold q02r
  rw [if_pos ((q02k j s).2 r)]
  simp only
  rw [if_pos k1,h3]
  simp
 have ht:textX j s.at_ c.to=some (q0Tp (overX j s.at_ c.to) [paraF j.g j.items c.to]):=by
  unfold textX
  rw [if_neg]
  rintro ⟨e,ne⟩
  have hcm:=(q10j c m).1 (hover (ov e))
  have et:textC j s=some ⟨1,s.at_,q015 j.items s.at_,q05q j.notes (spotS j s (q015 j.items s.at_)),[],[]⟩:=by
   unfold textC;rw [if_pos ⟨o,f1,by omega⟩]
  have hl2:q04r j s=some ⟨1,s.at_,q015 j.items s.at_,q05q j.notes (spotS j s (q015 j.items s.at_)),[],[]⟩:=by unfold q04r;rw [et];rfl
  rw [hl2] at hm
  rw [hcm,<-Option.some.inj hm] at ne
  exact ne rfl
 refine ⟨_,ht,q17m _ _,?_⟩
 unfold costC leCo
 rw [if_pos ((q02k j s).2 r),q0Ui,q0Ui,q14i,q14i]
 have pm:paraF j.g j.items c.to∈q12c j s c:=by
  unfold q12c
  rw [if_pos k1]
  simp
 have:=q19o pm
 have e1:sumH [paraF j.g j.items c.to]=heldN (paraF j.g j.items c.to):=by simp [sumH]
 rw [e1]
 cases a:overX j s.at_ c.to with
 |true=>rw [ov a];simp;omega
 |false=>
  cases (q02r j s c).over
  ·simp;omega
  ·simp
theorem q1a9 {j:Job} (w:wfJ j) (q:lowJ j) (hl:j.items.length<=1000) {s:Stt} {c:Colm} (h:q06c j s c=0):leCo (q16t j s) (addCo (costC j s c) (q16t j (nextS j s c))):=by
 obtain ⟨r,g2,-⟩:=q0Y1 w h
 have cs:=q19x j s c
 have b2:=q18d hl g2
 unfold q16t
 rw [if_pos ((q02k j s).2 r),if_pos ((q02k j _).2 g2)]
 by_cases k1:c.k=1
 ·obtain ⟨t,ht,st,lt⟩:=q1b4 w q h k1
  have hb:c.to∈brkF j.items s.at_:=by
   unfold q06c at h
   by_cases he:endE j s c=true
   ·rw [if_pos he] at h;cases h
   rw [if_neg he] at h
   by_cases hk:kindE j s c≠0
   ·rw [if_pos hk] at h;exact absurd h hk
   have hk:kindE j s c=0:=by omega
   unfold kindE at hk
   rw [if_pos k1] at hk
   unfold textE at hk
   split at hk
   ·cases hk
   split at hk
   ·cases hk
   rename_i f1 f2
   simpa using f2
  have bm:=q0Bd r.at0 hb
  have en:(nextS j s c).at_=trimF j.items c.to:=by
   unfold nextS
   rw [if_pos ((q02k j s).2 r)]
   simp only [if_pos k1]
  rw [en] at b2⊢
  have hx:addCo t ((fromX j (trimF j.items c.to)).getD (0,0))∈(brkF j.items s.at_).filterMap (addO j s.at_):=by
   refine List.mem_filterMap.2 ⟨c.to,hb,?_⟩
   unfold addO
   rw [ht];rfl
  have tr:trimX j.items s.at_=true:=by
   unfold trimX
   simp only [Zb,decide_eq_true_eq]
   exact ⟨⟨r.at0,r.at1⟩,r.trim⟩
  have hf:=q19t j s.at_ r.at0 (by omega)
  rw [if_pos tr] at hf
  obtain ⟨v,hv,-,hle⟩:=q1ao hx
  rw [hf,hv,Option.getD_some]
  exact q17x (hle _ hx) (q1b3 lt st cs b2)
 ·have en:(nextS j s c).at_=s.at_:=by
   unfold nextS
   rw [if_pos ((q02k j s).2 r)]
   simp only [if_neg k1]
  rw [en]
  exact q1bt cs (q18d hl r)
theorem q18k {β:Type} (f:Int->List β) (K:Nat) (h0: ∀a,4<a->f a=[]) (h1: ∀a,0<=a->(f a).length<=K) (m:Int):((upI 0 m).flatMap f).length<=5*K:=by
 unfold upI
 have key: ∀n:Nat,(((List.range n).map fun k:Nat=>(0:Int)+k).flatMap f).length<=(min n 5)*K:=by
  intro n
  induction n with
  |zero=>simp
  |succ n ih=>
   rw [List.range_succ,List.map_append,List.flatMap_append,Zt]
   simp only [Zo,ZL,List.flatMap_cons,List.flatMap_nil,List.append_nil]
   by_cases c:n<5
   ·have:=h1 (0+(n:Int)) (by omega)
    rw [show min n 5=n by omega] at ih
    rw [show min (n+1) 5=n+1 by omega,Nat.add_mul]
    omega
   ·rw [h0 (0+(n:Int)) (by omega)]
    rw [show min n 5=5 by omega] at ih
    rw [show min (n+1) 5=5 by omega]
    simpa using ih
 exact Nat.le_trans (key _) (Zu _ (by omega))
theorem q18l {x m:Int} (h:x∈upI 0 m):0<=x:=(q1a2.1 h).1
theorem q1a5 (x:C3) {n:Int} (hn:n<=4):(upL x n).length<=125:=by
 unfold upL R1 R2 R3
 have e: ∀a b:Int,((upI 0 (capC x).c).map fun c=>(⟨a,b,c⟩:C3))=(upI 0 (capC x).c).flatMap fun c=>[⟨a,b,c⟩]:=fun a b=>List.map_eq_flatMap
 simp only [e,List.filter_flatMap]
 have g: ∀a b c:Int,4<a+b+c->List.filter (q16s n) [(⟨a,b,c⟩:C3)]=[]:=fun a b c h=>by
  simp [q16s];omega
 refine q18k _ 25 (fun a ha=> ?_) (fun a ha=> ?_) _
 ·rw [List.flatMap_eq_nil_iff]
  intro b hb
  rw [List.flatMap_eq_nil_iff]
  intro c hc
  have:=q18l hb
  have:=q18l hc
  exact g _ _ _ (by omega)
 ·refine q18k _ 5 (fun b hb=> ?_) (fun b hb=> ?_) _
  ·rw [List.flatMap_eq_nil_iff]
   intro c hc
   have:=q18l hc
   exact g _ _ _ (by omega)
  ·exact q18k _ 1 (fun c hc=>g _ _ _ (by omega)) (fun c hc=>List.length_filter_le _ _) _
theorem q1b5 {g:Geom} (tm:g.topMany<=4/\g.botMany<=4) (l:List Float) (h m:C3):(allP g l h m).length<=15625:=by
 have o: ∀c,(outer g l h (someC m) c).length<=125:=fun c=>by
  unfold outer
  split
  ·refine Nat.le_trans (q16u _ 1 (fun d=> ?_) _) ?_
   ·unfold inner
    split<;>simp
   ·have:=q1a5 (q129 c (someC m)) (n:=max (min g.botMany 48) 0) (by omega)
    omega
  ·simp
 have h1:=q16u (outer g l h (someC m)) 125 o (upL (someC m) (max (min g.topMany 48) 0))
 have h2:=q1a5 (someC m) (n:=max (min g.topMany 48) 0) (by omega)
 unfold allP
 omega
theorem q18e {l:List Note} {s:Spot} (o:spotB l s) (hx: ∀n∈l,n.lines.length<=100):(q00j l s).length<=102:=by
 unfold q00j
 rw [Zt]
 have h1:(if openN l s=0\/s.fresh=false then [([]:List Piece)] else []).length<=1:=by split<;>simp
 have h2:(if openN l s=0 then [] else (q01k (rd l (lastP s (openN l s))) (fromP s (openN l s))).map (oneP l s (openN l s))).length<=101:=by
  split
  ·simp
  ·rename_i c0
   rw [Z0]
   have e:=q08w o.b o.n0 o.li
   have hrm:rd l (lastP s (openN l s))∈l:=q05a (by unfold lastP;have:=o.n0;omega) (by unfold lastP;have:=o.b;omega)
   have h1:=q0cd (q02f (rd l (lastP s (openN l s))).lines (rd l (lastP s (openN l s))).pens (fromP s (openN l s))) ((rd l (lastP s (openN l s))).lines.length+1) 0
   have:=hx _ hrm
   unfold q01k;omega
 omega
section
variable {j:Job} (w:wfJ j) (q:lowJ j)
include w q
theorem q18f (hl:j.items.length<=100) (s:Stt):(q16q j s).length<=1000000000:=by
 unfold q16q
 cases hm:q04r j s with
 |none=>simp
 |some m=>
  simp only [Zt]
  have hx: ∀n∈j.notes,n.lines.length<=100:=fun n hn=>(q.each n hn).1
  have h1:(textO j s m).length<=159375000:=by
   unfold textO
   split
   ·refine Nat.le_trans (q16u _ 1593750 (fun to=> ?_) _) ?_
    ·unfold toO
     split
     ·simp
     ·refine Nat.le_trans (List.length_filter_le _ _) ?_
      unfold candO
      refine Nat.le_trans (q16u _ 15625 (fun p=> ?_) _) ?_
      ·rw [Z0];exact q1b5 q.many _ _ _
      ·have:=q18e (q08n j w s to) hx
       omega
    ·have:=q18m j.items s.at_
     omega
   ·simp
  have h2:(q16w j s).length<=35937:=by
   unfold q16w q175
   rw [Z0,Z0]
   exact Nat.le_trans (List.length_filter_le _ _) (q17a _ _)
  have h3:(noteO j s m).length<=102:=by
   unfold noteO
   split
   ·simp
   ·refine Nat.le_trans (List.length_filter_le _ _) ?_
    rw [Z0]
    exact q18e (q09f j w s _) hx
  omega
omit q in
theorem q19y {s:Stt} {c:Colm} (h:c∈q16q j s):c.notes.length<=1000000/\c.top.length<=1000000/\c.bot.length<=1000000:=by
 have tl:=q10q j.floats w.w.n3
 unfold q16q at h
 cases hm:q04r j s with
 |none=>rw [hm] at h;cases h
 |some m=>
  rw [hm] at h
  simp only [ZY] at h
  rcases h with h|h|h
  ·unfold textO at h
   split at h
   ·obtain ⟨to,-,h⟩:=ZQ.1 h
    unfold toO at h
    split at h
    ·cases h
    ·obtain ⟨h,-⟩:=List.mem_filter.1 h
     unfold candO at h
     obtain ⟨p,hp,h⟩:=ZQ.1 h
     obtain ⟨x,hx,rfl⟩:=ZJ.1 h
     obtain ⟨c,d,_,_,_,_,rfl⟩:=q18g.1 hx
     exact ⟨q0d0 (q08n j w s to) p hp,tl _ _,tl _ _⟩
   ·cases h
  ·unfold q16w q175 at h
   obtain ⟨ids,hi,rfl⟩:=ZJ.1 h
   obtain ⟨n,-,rfl⟩:=ZJ.1 hi
   exact ⟨by simp,tl _ _,by simp⟩
  ·unfold noteO at h
   split at h
   ·cases h
   ·obtain ⟨h,-⟩:=List.mem_filter.1 h
    obtain ⟨p,hp,rfl⟩:=ZJ.1 h
    exact ⟨q0d0 (q09f j w s _) p hp,by simp,by simp⟩
end
theorem q1bu {j:Job} (r:Right j) (sm:small j):lowJ (snapG j):=by
 have hg:=q0bp r.g
 have hm:=q0u3 r.g
 have sms:=q0r9 sm
 refine ⟨sms.notes,fun n hn=>⟨(sms.each n hn).1,?_⟩,?_,?_⟩
 ·unfold snapG at hn
  split at hn
  ·intro x hx
   have:=(q0pu (r.notes n hn)).2.2 x hx
   omega
  ·obtain ⟨m,hm2,rfl⟩:=ZJ.1 hn
   intro x hx
   obtain ⟨y,hy,rfl⟩:=ZJ.1 hx
   have:=(q0pu (r.notes m hm2)).2.2 y hy
   exact (q09l (by omega) (by omega) (by omega) (by omega)).2
 ·unfold snapG
  split
  ·omega
  ·exact (q09l (n:=j.g.rule) (s:=j.g.grid) (by omega) (by omega) (by omega) (by omega)).2
 ·unfold snapG
  split<;>exact ⟨by first|exact hm.2.2.2.2.2.2.1|omega,by first|exact hm.2.2.2.2.2.2.2.1|omega⟩
def q0Yg (j:Job):Bool:=q0bl j||decide (16<(j.items.length:Int))||decide (3<(j.notes.length:Int))||decide (4<(j.floats.length:Int))||decide (4<j.g.topMany)||decide (4<j.g.botMany)
theorem q0Zv (j:Job) (H:Heap):clD EE (.p (.fn 9)) [vJob j] H=some (vB (q0Yg j),none):=by
 rw [q002 _ _ _ _ _ _ (noP _) fn9]
 have l1:=fun H=>q0yo j H
 unfold q0Yg
 simp only [vJob,cGeom,Zd,Zf] at l1⊢
 cases b1:q0bl j with
 |true=>rw [b1] at l1;simp [zEc,l1]
 |false=>
  rw [b1] at l1
  by_cases h1:(16:Int)<j.items.length
  ·simp [zEc,l1,h1]
  by_cases h2:(3:Int)<j.notes.length
  ·simp [zEc,l1,h1,h2]
  by_cases h3:(4:Int)<j.floats.length
  ·simp [zEc,l1,h1,h2,h3]
  by_cases h4:(4:Int)<j.g.topMany
  ·simp [zEc,l1,h1,h2,h3,h4]
  simp [zEc,l1,h1,h2,h3,h4]
theorem q1aa {j:Job} (h:q0Yg j=false):q0bl j=false:=by
 unfold q0Yg at h
 simp only [Bool.or_eq_false_iff] at h
 exact h.1.1.1.1.1
section
variable (j:Job) (w:wfJ j) (hf: ∀x∈j.items,fairI x) (s:Stt)
include w in
theorem q18o (K:Heap) (q p:Nat) (h1:Eng.boxAt K q=some [vW j,.map p]) (h2:mapAt K p=some (encM (fromT j j.items.length))):clD EE (.p (.fn 28)) [.ptr q 0,vStt s] K=some (vCost (q16t j s).1 (q16t j s).2,none):=by
 rw [q002 _ _ _ _ _ _ (noP _) fn28]
 have ri:=fun H=>q03r j w.w s H
 have k4:=q1bb K q p _ _ s.at_ h1 h2
 change clD EE _ _ _=some (vCO (fromX j s.at_),none) at k4
 unfold q16t
 simp only [vStt,cStt] at ri⊢
 cases b:q01g j s with
 |false=>rw [b] at ri;simp [zEc,h1,ri]
 |true=>
  rw [b] at ri
  generalize fromX j s.at_=F at*
  cases F<;>simp [zEc,h1,ri,k4]
def rxsE (q:Nat) (L:List Colm) (K:Heap) (i:Nat):St:=⟨[(3,.lptr 3 0),(5,vW j),(7,.ptr q 0),(8,vCos L),(9,vI i)],[(3,cStt s)],K,0,[]⟩
def rxsX (q:Nat) (L:List Colm) (K:Heap):Ex×St:=(.exit 0,⟨[(3,.lptr 3 0),(5,vW j),(7,.ptr q 0),(8,vCos L),(9,vI L.length),(30,vB false)],[(3,cStt s)],K,0,[]⟩)
include w hf in
theorem q1bv (lo:lowJ j) (hl:j.items.length<=100) (K:Heap) (q p:Nat) (h1:Eng.boxAt K q=some [vW j,.map p]) (h2:mapAt K p=some (encM (fromT j j.items.length))):
  evD EE lp5_0 (rxsE j s q (q16q j s) K 0)=some (rxsX j s q (q16q j s) K):=by
 have hn:=q18f w lo hl s
 unfold lp5_0
 refine Eq.trans (q00u (q16q j s) (fun (_:Unit) i=>rxsE j s q (q16q j s) K i) (fun _ _=>True) (fun _ _ _=>()) (fun _=>rxsX j s q (q16q j s) K) (fun _ _=>rfl) ?_ ?_ () 0 trivial (Zj _)) rfl
 ·rintro _ i c-hx
  refine ⟨?_,trivial⟩
  have hlt:=(Za.1 hx).1
  have hm:=Zp hx
  have hix:=fun H k=>q00c H q148 (k:=k) (s:=6) hx rfl
  simp only [q148] at hix
  have w1:IntKind.i64.wrap ((i:Int)+1)=((i+1:Nat):Int):=w64 (by omega) (by omega)
  obtain ⟨c1,c2,c3⟩:=q19y w hm
  have co:=fun H=>q13b j w.w hf s c c1 c2 c3 H
  have nx:=fun H=>q0Z3 j w.w s c c1 c2 c3 H
  have b1:=q18o j w s K q p h1 h2
  have b2:=q18o j w (nextS j s c) K q p h1 h2
  have ad:=fun a b c d H=>q0Tv a b c d H
  have cm:=fun H=>q0U6 (q16t j s) (addCo (costC j s c) (q16t j (nextS j s c))) H
  have st:=(q1b2 _ _).2 (q1a9 w lo (by omega) (q195 w hm))
  have st2: ¬0<cmpCo (q16t j s) (addCo (costC j s c) (q16t j (nextS j s c))):=by omega
  generalize cmpCo (q16t j s) (addCo (costC j s c) (q16t j (nextS j s c)))=z at*
  unfold addCo at cm
  generalize q16t j (nextS j s c)=B2 at*
  generalize nextS j s c=n at*
  generalize costC j s c=C at*
  generalize q16t j s=B at*
  simp only [vStt,cStt,vColm,cColm] at co nx b1 b2
  simp only [rxsE,cStt]
  generalize q16q j s=L at*
  simp [hlt,hix,subs,q001,w1,co,nx,b1,b2,ad,cm,st2]
 ·rintro _-
  refine ⟨?_,by simp [rxsX]⟩
  simp only [rxsE,rxsX,cStt]
  simp
end
theorem relaxStep_ev (j:Job) (hj:jobI j) (s:Stt):clD EE (.p (.fn 5)) [vJob j,vStt s] []=some (.p (.bool true),none):=by
 rw [q002 _ _ _ _ _ _ (noP _) fn5]
 have l1:=fun H=>q0Zv j H
 have aw:=fun H=>q1av H
 simp only [vJob,cGeom,Zd,Zf] at l1
 cases b1:q0Yg j with
 |true=>simp [zEc,l1,b1,aw]
 |false=>
  have sm:=q0ym (q1aa b1)
  have ok:=q0mo hj sm
  have sms:=q0r9 sm
  have okS:=q0mo (q0vm hj) sms
  have hw:=q0Cs j ok okS (fun n hn=>by have:=sms.each n hn;omega)
  by_cases h:(q02q j).1=0
  ·have r:=(q0it j).1 h
   have w:=wf_of r sms
   have lo:=q1bu r sm
   have hf:=q0iz r
   obtain ⟨K,q,p,n1,n2,n3⟩:=q1bq (snapG j) w.w.n1 hf []
   have al:=fun H=>q1b1 (snapG j) w hf s (q18f w lo sms.items s) H
   have lp:=q1bv (snapG j) w hf s lo sms.items K q p n2 n3
   simp only [if_pos h] at hw
   simp only [vJob,cJobW,cGeom,Zd,Zf] at hw
   simp only [rxsE,rxsX,cStt,Int.natCast_zero] at lp
   generalize q16q (snapG j) s=L at*
   simp [zEc,fldvV,solN,sd,l1,b1,aw,hw,n1,al,lp]
  ·simp only [if_neg h] at hw
   simp only [vJob,cGeom,Zd,Zf] at hw
   simp [zEc,fldvV,solN,sd,l1,b1,aw,hw]
end Go.EnvOf
