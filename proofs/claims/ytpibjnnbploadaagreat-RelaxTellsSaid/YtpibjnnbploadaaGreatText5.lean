/- Jobs that may be, by the document. -/
import Derived.Test.YtpibjnnbploadaaGreatText4
set_option linter.unusedSimpArgs false
set_option linter.unusedVariables false
namespace Go.EnvOf
open Go Go.Eng
def vE (j:Job) (H:Heap) (t:Nat) (i:Nat):St:=⟨[(1,.lptr 1 0),(2,.lptr 2 0),(t,vI i)],[(1,cGeom j.g++[q004 j.items,q00j j.notes,q00g j.floats]),(2,[vI 0,vI 0])],H,H.length,[]⟩
def vX (j:Job) (H:Heap) (t x e:Nat) (n:Nat):Ex×St:=(.exit e,⟨[(1,.lptr 1 0),(2,.lptr 2 0),(t,vI n),(x,vB false)],[(1,cGeom j.g++[q004 j.items,q00j j.notes,q00g j.floats]),(2,[vI 0,vI 0])],H,H.length,[]⟩)
def vR (H:Heap) (e:Int) (i:Int):Ex×St:=(.ret,⟨[(2,.lptr 2 0)],[(2,[vI e,vI i])],H,H.length,[]⟩)
theorem v_lp0 (j:Job) (ok:okJob j) (H:Heap):evD EE q0gc (vE j H 4 0)=some (if 0≤idxF (fun x=> !q00x x) 0 j.items then vR H 8 (idxF (fun x=> !q00x x) 0 j.items) else vX j H 4 37 0 j.items.length):=by
 unfold q0gc
 refine Eq.trans (q01g j.items (fun (_:Unit) i=>vE j H 4 i) (fun _ _=>True) (stepH (fun x=> !q00x x) (vR H 8)) (fun _=>vX j H 4 37 0 j.items.length) (fun _ _=>rfl) ?_ ?_ () 0 trivial (Nat.zero_le _)) (by rw [q06y];rfl)
 ·rintro _ i x-hx
  have hlt:=(List.getElem?_eq_some_iff.1 hx).1
  have hn:=ok.n1
  have w:IntKind.i64.wrap ((i:Int)+1)=((i+1:Nat):Int):=w64 (by omega) (by omega)
  have hix:=fun H k=>q00o H q003 (k:=k) (s:=7) hx rfl
  have h:=q0nv x H
  simp only [q003] at hix
  cases e:q00x x with
  |true=>rw [e] at h;simp [stepH,e,vE,hlt,hix,subs,q001,h,w]
  |false=>rw [e] at h;simp [stepH,e,vE,vR,hlt,hix,subs,q001,h]
 ·rintro _-
  simp [vE,vX,subs]
theorem v_lp1 (j:Job) (ok:okJob j) (H:Heap):evD EE q0gd (vE j H 5 0)=some (if 0≤idxF (fun x=>q01k x.lines x.pens) 0 j.notes then vR H 9 (idxF (fun x=>q01k x.lines x.pens) 0 j.notes) else vX j H 5 53 2 j.notes.length):=by
 unfold q0gd
 refine Eq.trans (q01g j.notes (fun (_:Unit) i=>vE j H 5 i) (fun _ _=>True) (stepH (fun (x:Note)=>q01k x.lines x.pens) (vR H 9)) (fun _=>vX j H 5 53 2 j.notes.length) (fun _ _=>rfl) ?_ ?_ () 0 trivial (Nat.zero_le _)) (by rw [q06y];rfl)
 ·rintro _ i x-hx
  have hlt:=(List.getElem?_eq_some_iff.1 hx).1
  have hn:=ok.n2
  have w:IntKind.i64.wrap ((i:Int)+1)=((i+1:Nat):Int):=w64 (by omega) (by omega)
  have hix:=fun H k=>q00o H q00h (k:=k) (s:=2) hx rfl
  have hb:=(ok.notes x (List.mem_of_getElem? hx)).2
  have h:=q0nx x.lines x.pens H hb.1 hb.2
  simp only [q00h] at hix
  simp only [note] at h
  cases e:q01k x.lines x.pens with
  |false=>rw [e] at h;simp at h;simp [stepH,e,vE,hlt,hix,subs,q001,h,w]
  |true=>rw [e] at h;simp at h;simp [stepH,e,vE,vR,hlt,hix,subs,q001,h]
 ·rintro _-
  simp [vE,vX,subs]
theorem v_lp2 (j:Job) (ok:okJob j) (H:Heap):evD EE q0ge (vE j H 6 0)=some (if 0≤idxF (fun x=> !q019 x) 0 j.floats then vR H 10 (idxF (fun x=> !q019 x) 0 j.floats) else vX j H 6 69 4 j.floats.length):=by
 unfold q0ge
 refine Eq.trans (q01g j.floats (fun (_:Unit) i=>vE j H 6 i) (fun _ _=>True) (stepH (fun x=> !q019 x) (vR H 10)) (fun _=>vX j H 6 69 4 j.floats.length) (fun _ _=>rfl) ?_ ?_ () 0 trivial (Nat.zero_le _)) (by rw [q06y];rfl)
 ·rintro _ i x-hx
  have hlt:=(List.getElem?_eq_some_iff.1 hx).1
  have hn:=ok.n3
  have w:IntKind.i64.wrap ((i:Int)+1)=((i+1:Nat):Int):=w64 (by omega) (by omega)
  have hix:=fun H k=>q00o H q00a (k:=k) (s:=3) hx rfl
  have h:=q0de x H
  simp only [q00a] at hix
  cases e:q019 x with
  |true=>rw [e] at h;simp [stepH,e,vE,hlt,hix,subs,q001,h,w]
  |false=>rw [e] at h;simp [stepH,e,vE,vR,hlt,hix,subs,q001,h]
 ·rintro _-
  simp [vE,vX,subs]
def v9E (j:Job) (H:Heap) (i:Nat):St:=⟨[(2,.lptr 2 0),(9,.lptr 9 0),(10,vI i)],[(2,[vI 0,vI 0]),(9,cGeom j.g++[q004 j.items,q00j j.notes,q00g j.floats])],H,H.length,[]⟩
def v9X (j:Job) (H:Heap) (n:Nat):Ex×St:=(.exit 6,⟨[(2,.lptr 2 0),(9,.lptr 9 0),(10,vI n),(116,vB false)],[(2,[vI 0,vI 0]),(9,cGeom j.g++[q004 j.items,q00j j.notes,q00g j.floats])],H,H.length,[]⟩)
theorem v_lp3 (j:Job) (hn:j.floats.length≤1000000) (H:Heap):evD EE q0gf (v9E j H 0)=some (if 0≤idxF (fun f=>decide (j.g.first<f.h)) 0 j.floats then vR H 12 (idxF (fun f=>decide (j.g.first<f.h)) 0 j.floats) else v9X j H j.floats.length):=by
 unfold q0gf
 refine Eq.trans (q01g j.floats (fun (_:Unit) i=>v9E j H i) (fun _ _=>True) (stepH (fun f=>decide (j.g.first<f.h)) (vR H 12)) (fun _=>v9X j H j.floats.length) (fun _ _=>rfl) ?_ ?_ () 0 trivial (Nat.zero_le _)) (by rw [q06y];rfl)
 ·rintro _ i x-hx
  have hlt:=(List.getElem?_eq_some_iff.1 hx).1
  have w:IntKind.i64.wrap ((i:Int)+1)=((i+1:Nat):Int):=w64 (by omega) (by omega)
  have hix:=fun H k=>q00o H q00a (k:=k) (s:=3) hx rfl
  simp only [q00a] at hix
  by_cases e:j.g.first<x.h
  ·simp [stepH,e,v9E,vR,hlt,hix,subs,q001]
  ·simp [stepH,e,v9E,hlt,hix,subs,q001,w]
 ·rintro _-
  simp [v9E,v9X,subs]
theorem q0o8 (g:Geom):geomF g=0∨geomF g=6∨geomF g=7:=by
 unfold geomF
 repeat' split
 all_goals first|exact .inl rfl|exact .inr (.inl rfl)|exact .inr (.inr rfl)
def q071 (j:Job):Int×Int:=
 if 4096<(j.items.length:Int) then (3,0) else if 256<(j.floats.length:Int) then (4,0) else if 512<(j.notes.length:Int) then (5,0)
 else if geomF j.g≠0 then (geomF j.g,0)
 else if 0≤idxF (fun x=> !q00x x) 0 j.items then (8,idxF (fun x=> !q00x x) 0 j.items)
 else if 0≤idxF (fun x=>q01k x.lines x.pens) 0 j.notes then (9,idxF (fun x=>q01k x.lines x.pens) 0 j.notes)
 else if 0≤idxF (fun x=> !q019 x) 0 j.floats then (10,idxF (fun x=> !q019 x) 0 j.floats)
 else if 0≤refF 5 j.notes.length 0 0 j.items∧(refF 6 j.floats.length 0 0 j.items<0∨refF 5 j.notes.length 0 0 j.items≤refF 6 j.floats.length 0 0 j.items) then (11,refF 5 j.notes.length 0 0 j.items)
 else if 0≤refF 6 j.floats.length 0 0 j.items then (11,refF 6 j.floats.length 0 0 j.items)
 else if 0≤tallF j then (12,tallF j) else (0,0)
theorem q0rk (a b:Int) (R:Int×Int):(if 0≤a∧(b<0∨a≤b) then ((11:Int),a) else if 0≤b then (11,b) else R)=if 0≤(if a<0∨b<0 then max a b else min a b) then (11,if a<0∨b<0 then max a b else min a b) else R:=by
 by_cases ha:a<0
 ·have h1: ¬(0≤a∧(b<0∨a≤b)):=by omega
  have h2:a<0∨b<0:= .inl ha
  rw [if_neg h1]
  simp only [if_pos h2]
  by_cases hb:b<0
  ·have h3: ¬0≤b:=by omega
   have h4: ¬0≤max a b:=by omega
   rw [if_neg h3,if_neg h4]
  ·have e:max a b=b:=by omega
   rw [e]
 ·by_cases hb:b<0
  ·have e:max a b=a:=by omega
   have h2:a<0∨b<0:= .inr hb
   have h3:0≤a∧(b<0∨a≤b):=⟨by omega,.inl hb⟩
   rw [if_pos h3]
   simp only [if_pos h2,e,if_pos h3.1]
  ·have h2: ¬(a<0∨b<0):=by omega
   simp only [if_neg h2]
   by_cases hab:a≤b
   ·have e:min a b=a:=by omega
    have h3:0≤a∧(b<0∨a≤b):=⟨by omega,.inr hab⟩
    rw [if_pos h3]
    simp only [e,if_pos h3.1]
   ·have e:min a b=b:=by omega
    have h3: ¬(0≤a∧(b<0∨a≤b)):=by omega
    rw [if_neg h3,e]
theorem q0ec (j:Job):q071 j=q023 j:=by
 unfold q071 q023 q01m
 rw [q0rk]
 simp only [q03p,yes,q0cc]
 by_cases c1:4096<(j.items.length:Int)
 ·simp [c1]
 ·by_cases c2:256<(j.floats.length:Int)
  ·simp [c1,c2]
  ·by_cases c3:512<(j.notes.length:Int)
   ·simp [c1,c2,c3]
   ·rcases q0o8 j.g with g|g|g
    ·simp [c1,c2,c3,g]
     rfl
    ·simp [c1,c2,c3,g]
    ·simp [c1,c2,c3,g]
theorem q0df (j:Job) (ok:okJob j) (n3:(snapG j).floats.length≤1000000) (H:Heap):clD EE (.p (.fn 79)) [vJob j] H=some (.agg [vI (q023 j).1,vI (q023 j).2],none):=by
 rw [q002 _ _ _ _ _ _ (noP _) fn79,←q0ec]
 unfold q071
 have hg:=q0f1 j.g H
 have k0:=v_lp0 j ok H
 have k1:=v_lp1 j ok H
 have k2:=v_lp2 j ok H
 have ha:=q0af j.items 5 j.notes.length H ok.n1
 have hb:=q0af j.items 6 j.floats.length H ok.n1
 have hs:=q0hf j ok H
 have k3:=v_lp3 (snapG j) n3 H
 have et:idxF (fun f=>decide ((snapG j).g.first<f.h)) 0 (snapG j).floats=tallF j:=rfl
 rw [et] at k3
 generalize snapG j=s at*
 generalize idxF (fun x=> !q00x x) 0 j.items=i1 at*
 generalize idxF (fun x=>q01k x.lines x.pens) 0 j.notes=i2 at*
 generalize idxF (fun x=> !q019 x) 0 j.floats=i3 at*
 generalize tallF j=t at*
 simp only [vE,vX,vR,v9E,v9X] at k0 k1 k2 k3
 simp only [vJob,cGeom,List.cons_append,List.nil_append] at hs
 by_cases c1:4096<(j.items.length:Int)
 ·simp [St.enter,q000,subs,q001,c1]
 ·by_cases c2:256<(j.floats.length:Int)
  ·simp [St.enter,q000,subs,q001,c1,c2]
  ·by_cases c3:512<(j.notes.length:Int)
   ·simp [St.enter,q000,subs,q001,c1,c2,c3]
   ·by_cases c4:geomF j.g=0
    ·rw [c4] at hg
     by_cases d1:0≤i1
     ·rw [if_pos d1] at k0
      simp at k0
      simp [St.enter,q000,subs,q001,c1,c2,c3,c4,hg,k0,d1]
     ·rw [if_neg d1] at k0
      by_cases d2:0≤i2
      ·rw [if_pos d2] at k1
       simp at k0 k1
       simp [St.enter,q000,subs,q001,c1,c2,c3,c4,hg,k0,k1,d1,d2]
      ·rw [if_neg d2] at k1
       by_cases d3:0≤i3
       ·rw [if_pos d3] at k2
        simp at k0 k1 k2
        simp [St.enter,q000,subs,q001,c1,c2,c3,c4,hg,k0,k1,k2,d1,d2,d3]
       ·rw [if_neg d3] at k2
        simp at k0 k1 k2
        generalize refF 5 j.notes.length 0 0 j.items=a at*
        generalize refF 6 j.floats.length 0 0 j.items=b at*
        by_cases e1:0≤a
        ·by_cases e2:b<0
         ·simp [St.enter,q000,subs,q001,c1,c2,c3,c4,hg,k0,k1,k2,d1,d2,d3,ha,hb,e1,e2]
         ·by_cases e3:a≤b
          ·simp [St.enter,q000,subs,q001,c1,c2,c3,c4,hg,k0,k1,k2,d1,d2,d3,ha,hb,e1,e2,e3]
          ·have e4:0≤b:=by omega
           simp [St.enter,q000,subs,q001,c1,c2,c3,c4,hg,k0,k1,k2,d1,d2,d3,ha,hb,e1,e2,e3,e4]
        ·by_cases e4:0≤b
         ·simp [St.enter,q000,subs,q001,c1,c2,c3,c4,hg,k0,k1,k2,d1,d2,d3,ha,hb,e1,e4]
         ·by_cases d4:0≤t
          ·rw [if_pos d4] at k3
           simp at k3
           simp [St.enter,q000,subs,q001,c1,c2,c3,c4,hg,k0,k1,k2,d1,d2,d3,ha,hb,e1,e4,hs,k3,d4]
          ·rw [if_neg d4] at k3
           simp at k3
           simp [St.enter,q000,subs,q001,c1,c2,c3,c4,hg,k0,k1,k2,d1,d2,d3,ha,hb,e1,e4,hs,k3,d4]
    ·simp [St.enter,q000,subs,q001,c1,c2,c3,c4,hg]
end Go.EnvOf
