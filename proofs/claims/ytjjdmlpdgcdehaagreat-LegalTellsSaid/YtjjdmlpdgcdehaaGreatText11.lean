/- The program's functions and the document's, evaluated. -/
import Derived.Test.YtjjdmlpdgcdehaaGreatText10
import Derived.Test.YtjjdmlpdgcdehaaGreatText8
import Derived.Test.YtjjdmlpdgcdehaaGreatText9
import Derived.Test.YtjjdmlpdgcdehaaGreatText3
set_option linter.unusedSimpArgs false
set_option linter.unusedVariables false
namespace Go.EnvOf
open Go Go.Eng
set_option maxRecDepth 100000
theorem q0lq (g:Geom) (fs:List Float) (a b:List Int) (ha:a.length≤1000000) (hb:b.length≤1000000) (H:Heap):clD EE (.p (.fn 152)) [vGeom g,q005 fs,.agg [sli a,sli b]] H=some (vI (highA g fs a b),none):=by
 rw [q002 _ _ _ _ _ _ (noP _) fn152]
 have h1:=fun H=>q06k fs a g.sep H ha
 have h2:=fun H=>q06k fs b g.sep H hb
 unfold highA
 simp [St.enter,q000,subs,q001,h1,h2]
theorem q0jm (g:Geom) (fs:List Float) (a:List Int) (ha:a.length≤1000000) (H:Heap):clD EE (.p (.fn 153)) [vGeom g,q005 fs,sli a] H=some (vI (q05p g fs a),none):=by
 rw [q002 _ _ _ _ _ _ (noP _) fn153]
 have h1:=fun H=>q06k fs a g.sep H ha
 have e:max 0 (min g.sep 1125899906842624)=min (max g.sep 0) 1125899906842624:=by omega
 unfold q05p
 by_cases c:highQ fs a g.sep=0<;>simp [St.enter,q000,subs,q001,h1,c,e]
section
variable (j:Job) (w:okW j)
include w in
theorem q0qz (s:Stt) (H:Heap):clD EE (.p (.fn 154)) [vJob j,vStt s] H=some (vI (highS j s),none):=by
 rw [q002 _ _ _ _ _ _ (noP _) fn154]
 have hr:=fun H=>q025 j w s H
 unfold highS
 simp only [vJob,cGeom,List.cons_append,List.nil_append] at hr⊢
 cases c:q01g j s with
 |false=>
  rw [c] at hr
  simp [St.enter,q000,subs,q001,hr]
 |true=>
  rw [c] at hr
  by_cases h:s.col<j.g.cols
  ·simp [St.enter,q000,subs,q001,hr,h]
  ·simp [St.enter,q000,subs,q001,hr,h]
include w in
end
theorem q0r0 (l:List Item) (c:Colm):lastC l c=(decide (c.k=1)&&(decide (c.to=l.length)||mustV l c.to)):=by
 unfold lastC mustV
 cases q02g l c.to with
 |none=>rfl
 |some x=>
  have:decide (0<c.to)=decide (1≤c.to):=by congr 1
  simp only [this]
theorem q0i7 (j:Job) (w:okW j) (hf: ∀x∈j.items,fairI x) (s:Stt) (c:Colm) (c1:c.notes.length≤1000000) (c2:c.top.length≤1000000) (c3:c.bot.length≤1000000) (H:Heap):
  clD EE (.p (.fn 69)) [vJob j,vStt s,vColm c] H=some (vFcts (q02r j s c),none):=by
 rw [q002 _ _ _ _ _ _ (noP _) fn69]
 have r:=fun H=>q025 j w s H
 have sh:=fun H=>q0jw j.notes c.notes j.g.rule w.lines c1 H
 have ah:=fun H=>q0lq j.g j.floats c.top c.bot c2 c3 H
 have as:=fun H=>q0jm j.g j.floats c.top c2 H
 have hi:=fun H=>q0qz j w s H
 have mu:=fun H=>q0n2 j.items c.to H
 have la:=q0r0 j.items c
 have so:=fun H=>q0ti j.items w.n1 hf s.at_ c.to H
 have gs:=fun H=>q0qx (sumT j.items s.at_ c.to) (roomC j s c) (lastC j.items c) H
 unfold q02r
 simp only [vJob,vGeom,cGeom,List.cons_append,List.nil_append] at r ah as hi⊢
 cases b:q01g j s with
 |false=>
  rw [b] at r
  simp [St.enter,q000,subs,q001,r,zeroF,zeroG]
 |true=>
  rw [b] at r
  have e:setC j s c=q07f (sumT j.items s.at_ c.to) (roomC j s c) (lastC j.items c):=rfl
  rw [←e] at gs
  have hr:roomC j s c=IntKind.i64.wrap (IntKind.i64.wrap (highS j s-highP j.notes c.notes j.g.rule)-q05b j c):=rfl
  generalize setC j s c=G at*
  have hfu:fullC j c=(decide (0<c.notes.length)&&decide (j.g.noteMost<highP j.notes c.notes j.g.rule)):=rfl
  have hfl:q05b j c=if c.k=1 then highA j.g j.floats c.top c.bot else if c.k=2 then q05p j.g j.floats c.top else 0:=rfl
  generalize lastC j.items c=L at*
  generalize mustV j.items c.to=M at*
  generalize highA j.g j.floats c.top c.bot=A1 at*
  generalize q05p j.g j.floats c.top=A2 at*
  generalize sumT j.items s.at_ c.to=T at*
  generalize roomC j s c=R at*
  generalize highP j.notes c.notes j.g.rule=hp at*
  generalize highS j s=hs at*
  generalize q05b j c=F at*
  generalize fullC j c=U at*
  have hn:(0:Int)<c.notes.length↔0<c.notes.length:=by omega
  by_cases k1:c.k=1
  ·rw [if_pos k1] at hfl
   subst hfl
   by_cases n0:0<c.notes.length
   ·simp only [n0,decide_true,Bool.true_and] at hfu
    by_cases e1:c.to=j.items.length
    ·simp only [k1,e1,decide_true,Bool.true_and,Bool.true_or] at la
     subst la
     by_cases q:j.g.noteMost<hp<;>simp only [q,decide_true,decide_false] at hfu<;>subst hfu<;>
      simp [St.enter,q000,subs,q001,fldvV,r,sh,ah,hi,←e1,so,gs,k1,hn,n0,←hr,q]
    ·simp only [k1,e1,decide_true,decide_false,Bool.true_and,Bool.false_or] at la
     subst la
     by_cases q:j.g.noteMost<hp<;>simp only [q,decide_true,decide_false] at hfu<;>subst hfu<;>
      simp [St.enter,q000,subs,q001,fldvV,r,sh,ah,hi,e1,mu,so,gs,k1,hn,n0,←hr,q]
   ·simp only [n0,decide_false,Bool.false_and] at hfu
    subst hfu
    by_cases e1:c.to=j.items.length
    ·simp only [k1,e1,decide_true,Bool.true_and,Bool.true_or] at la
     subst la
     simp [St.enter,q000,subs,q001,fldvV,r,sh,ah,hi,←e1,so,gs,k1,hn,n0,←hr]
    ·simp only [k1,e1,decide_true,decide_false,Bool.true_and,Bool.false_or] at la
     subst la
     simp [St.enter,q000,subs,q001,fldvV,r,sh,ah,hi,e1,mu,so,gs,k1,hn,n0,←hr]
  ·rw [if_neg k1] at hfl
   simp only [k1,decide_false,Bool.false_and] at la
   subst la
   by_cases k2:c.k=2
   ·rw [if_pos k2] at hfl
    subst hfl
    by_cases n0:0<c.notes.length
    ·simp only [n0,decide_true,Bool.true_and] at hfu
     by_cases q:j.g.noteMost<hp<;>simp only [q,decide_true,decide_false] at hfu<;>subst hfu<;>
      simp [St.enter,q000,subs,q001,fldvV,r,sh,as,hi,k1,k2,hn,n0,←hr,q,zeroG]
    ·simp only [n0,decide_false,Bool.false_and] at hfu
     subst hfu
     simp [St.enter,q000,subs,q001,fldvV,r,sh,as,hi,k1,k2,hn,n0,←hr,zeroG]
   ·rw [if_neg k2] at hfl
    subst hfl
    rw [Int.sub_zero] at hr
    by_cases n0:0<c.notes.length
    ·simp only [n0,decide_true,Bool.true_and] at hfu
     by_cases q:j.g.noteMost<hp<;>simp only [q,decide_true,decide_false] at hfu<;>subst hfu<;>
      simp [St.enter,q000,subs,q001,fldvV,r,sh,hi,k1,k2,hn,n0,←hr,q,zeroG]
    ·simp only [n0,decide_false,Bool.false_and] at hfu
     subst hfu
     simp [St.enter,q000,subs,q001,fldvV,r,sh,hi,k1,k2,hn,n0,←hr,zeroG]
def encPs (p:List Piece):List PV:=[.sl (p.map q00g)]
abbrev vPss (l:List (List Piece)):V:= .p (.sl (l.map encPs))
theorem q0x7 (l:List Note) (s:Spot) (hl:l.length≤1000000) (hn:s.note≤1000000) (H:Heap):clD EE (.p (.fn 333)) [q00b l,vSpot s] H=some (vI (openN l s),none):=by
 rw [q002 _ _ _ _ _ _ (noP _) fn333]
 unfold openN
 by_cases c1:s.note<0
 ·simp [St.enter,q000,subs,q001,c1]
 ·by_cases c2:s.line<0
  ·simp [St.enter,q000,subs,q001,c1,c2]
  ·have e0:max 0 (min s.begun (l.length:Int))=max (min s.begun (l.length:Int)) 0:=by omega
   have w:IntKind.i64.wrap (max (min s.begun l.length) 0-s.note)=max (min s.begun l.length) 0-s.note:=w64 (by omega) (by omega)
   have e:max 0 (max (min s.begun (l.length:Int)) 0-s.note)=max (max (min s.begun (l.length:Int)) 0-s.note) 0:=by omega
   have e2:(((max (max (min s.begun (l.length:Int)) 0-s.note) 0).toNat:Nat):Int)=max (max (min s.begun (l.length:Int)) 0-s.note) 0:=by omega
   simp [St.enter,q000,subs,q001,c1,c2,w,e0,e]
def Rows (b:Nat) (H:Heap) (id:Nat) (ps:List (List Piece)):Prop:=
 ∃vs:List V,Eng.rowAt H id=some (1,vs.map fun v=>[v])∧vs.length=ps.length∧ ∀(k:Nat) (v:V) (p:List Piece),vs[k]? =some v→ps[k]? =some p→ ∃B,repP p v H B∧ ∀k∈B,b≤k∧k≠id
theorem q0lr {b:Nat} {H:Heap} {id:Nat} {ps:List (List Piece)} (h:Rows b H id ps) (hb:b≤id):frz b H 3 (.row id ps.length 0 ps.length)=some (.sl (ps.map encPs)):=by
 obtain ⟨vs,h1,h2,h3⟩:=h
 rw [q056,if_pos hb,h1]
 simp only [frzK]
 rw [if_pos (by simpa using h2),List.drop_zero,List.take_of_length_le (by simp [h2])]
 have key: ∀(vs:List V) (ps:List (List Piece)),vs.length=ps.length→(∀(k:Nat) (v:V) (p:List Piece),vs[k]? =some v→ps[k]? =some p→ ∃B,repP p v H B∧ ∀k∈B,b≤k∧k≠id)→allO (allO (frz b H 2)) (vs.map fun v=>[v])=some (ps.map encPs):=by
  intro vs
  induction vs with
  |nil=>intro ps h _;cases ps with|nil=>rfl|cons=>cases h
  |cons v r ih=>
   intro ps hl h
   cases ps with
   |nil=>cases hl
   |cons p q=>
    obtain ⟨B,hr,hB⟩:=h 0 v p rfl rfl
    have h0:=frz_rep hr (fun k hk=>(hB k hk).1) 1
    have h1:=ih q (by simpa using hl) fun k v p hv hp=>h (k+1) v p (by simpa using hv) (by simpa using hp)
    simp only [List.map_cons,allO,h0,h1]
    rfl
 rw [key vs ps h2 h3]
 rfl
def rkE (l:List Note) (n:Nat) (s:Spot) (c:Nat) (i5 i7:Nat) (H:Heap) (B:Nat) (acc:List Piece) (i:Nat):St:=
 ⟨[(0,q00b l),(3,.lptr 3 0),(5,.row i5 c 0 c),(6,vI n),(7,.row i7 acc.length 0 acc.length),(8,vI (if i=0 then s.line else 0)),(9,vI (s.note+i))],[(3,cSpot s)],H++[DObj.row 3 (upV (acc.map q00g))],B,[]⟩
def rkX (l:List Note) (n:Nat) (s:Spot) (c:Nat) (i5 i7:Nat) (H:Heap) (B:Nat) (acc:List Piece) (i:Nat):Ex×St:=
 (.exit 0,⟨[(0,q00b l),(3,.lptr 3 0),(5,.row i5 c 0 c),(6,vI n),(7,.row i7 acc.length 0 acc.length),(8,vI (if i=0 then s.line else 0)),(9,vI (s.note+i)),(40,vB false)],[(3,cSpot s)],H++[DObj.row 3 (upV (acc.map q00g))],B,[]⟩)
theorem q0tn (l:List Note) (hl:l.length≤1000000) (hx: ∀x∈l,x.lines.length≤1000000) (n:Nat) (hn:1≤n) (s:Spot) (h0:0≤s.note) (h1:s.note+n≤l.length) (c:Nat) (i5:Nat) (H:Heap) (B:Nat) (hB:B≤H.length):
  evD EE q0X4 (rkE l n s c i5 H.length H B [] 0)=some (rkX l n s c i5 H.length H B (q01j l (n-1) s.note s.line) (n-1)):=by
 have hsl:((l.drop s.note.toNat).take (n-1)).length=n-1:=by rw [List.length_take,List.length_drop];omega
 rw [←q0ft l s (n-1) h0 (by omega)]
 unfold q0X4
 refine Eq.trans (q00u ((l.drop s.note.toNat).take (n-1)) (fun acc i=>rkE l n s c i5 H.length H B acc i) (fun acc i=>acc.length=i) (q03y s) (fun acc=>rkX l n s c i5 H.length H B acc (n-1)) (fun _ _=>rfl) ?_ ?_ [] 0 rfl (Nat.zero_le _)) (by rw [List.drop_zero])
 ·rintro acc i x hi hx'
  refine ⟨?_,by simp [q03y,hi]⟩
  have hlt:=(List.getElem?_eq_some_iff.1 hx').1
  rw [hsl] at hlt
  have hg:l[(s.note+i).toNat]? =some x:=by
   rw [List.getElem?_take,if_pos hlt,List.getElem?_drop] at hx'
   rw [show (s.note+i).toNat=s.note.toNat+i by omega];exact hx'
  have hix:=fun H k=>q024 H q00e (k:=k) (s:=2) (show 0≤s.note+i by omega) hg rfl
  simp only [q00e] at hix
  have w1:IntKind.i64.wrap (s.note+n)=s.note+n:=w64 (by omega) (by omega)
  have w2:IntKind.i64.wrap (s.note+n-1)=s.note+n-1:=w64 (by omega) (by omega)
  have w3:IntKind.i64.wrap (s.note+i+1)=s.note+((i+1:Nat):Int):=by rw [w64 (by omega) (by omega)];push_cast;omega
  have c1:s.note+(i:Int)<s.note+n-1:=by omega
  have hm:acc.length+1<most:=by unfold most;omega
  have hd:addD B H.length []=[]:=by unfold addD;rw [if_neg (by omega)]
  simp [rkE,hix,subs,q001,w1,w2,w3,c1,hm,hd,hB,q03y,q00g]
 ·rintro acc hi
  rw [hsl] at hi⊢
  have w1:IntKind.i64.wrap (s.note+n)=s.note+n:=w64 (by omega) (by omega)
  have w2:IntKind.i64.wrap (s.note+n-1)=s.note+n-1:=w64 (by omega) (by omega)
  have c1: ¬s.note+((n-1:Nat):Int)<s.note+n-1:=by omega
  simp [rkE,rkX,subs,q001,w1,w2,c1]
def rkbE (i5 i7 c k:Nat) (frm last:Int) (T:List Int) (B:Nat) (H:Heap) (i:Nat):St:=
 ⟨[(5,.row i5 c 0 c),(7,.row i7 k 0 k),(8,vI frm),(10,vI last),(11,sli T),(12,vI i)],[],H,B,[]⟩
def rkbR (i5 i7 B:Nat) (w:List Piece) (frm last:Int) (T:List Int) (pre:List (List Piece)) (i:Nat) (S:St):Prop:=
 ∃H,S=rkbE i5 i7 (pre.length+i) w.length frm last T B H i∧Rows B H i5 (pre++(T.take i).map fun t=>w++[⟨last,frm,t⟩])∧Eng.rowAt H i7=some (3,upV (w.map q00g))∧B≤i5∧B≤i7∧i5≠i7∧i5<H.length
def rkbF (i5 B:Nat) (ps:List (List Piece)) (r:Ex×St):Prop:= ∃H env,r=(.exit 2,⟨env,[],H,B,[]⟩)∧getE env 5= .row i5 ps.length 0 ps.length∧Rows B H i5 ps
theorem q0x8 {b:Nat} {H:Heap} {id:Nat} {ps:List (List Piece)} (h:Rows b H id ps) (p:List Piece) (hb:b≤H.length) (hid:id<H.length):
  ∃vs:List V,Eng.rowAt H id=some (1,vs.map fun v=>[v])∧vs.length=ps.length∧
   Rows b ((H++[DObj.row 3 (upV (p.map q00g))]).set id (DObj.row 1 ((vs.map fun v=>[v])++[[.row H.length p.length 0 p.length]]))) id (ps++[p]):=by
 obtain ⟨vs,h1,h2,h3⟩:=h
 refine ⟨vs,h1,h2,vs++[.row H.length p.length 0 p.length],?_,by simp [h2],?_⟩
 ·rw [q0hx _ _ _ _ (by simp;omega)];simp
 ·intro k v q hv hq
  by_cases hk:k<ps.length
  ·rw [List.getElem?_append_left (by omega)] at hv
   rw [List.getElem?_append_left hk] at hq
   obtain ⟨B,hr,hB⟩:=h3 k v q hv hq
   refine ⟨B,q07p (q07p hr (Stay.app _ _ _ (q0Ba hr))) (Stay.set _ _ _ _ fun h=>(hB _ h).2 rfl),hB⟩
  ·have e:k=ps.length:=by
    have:=(List.getElem?_eq_some_iff.1 hq).1
    simp at this;omega
   subst e
   rw [←h2,List.getElem?_append_right (Nat.le_refl _)] at hv
   rw [List.getElem?_append_right (Nat.le_refl _)] at hq
   simp at hv hq
   subst hv hq
   refine ⟨[H.length],.inr ⟨H.length,rfl,?_,rfl⟩,fun k hk=>by simp at hk;omega⟩
   rw [q05l _ _ _ _ (by omega)]
   simp [Eng.rowAt]
theorem q0to (i5 i7 B:Nat) (w:List Piece) (hw:w.length≤1000000) (frm last:Int) (T:List Int) (hT:T.length≤10000000) (pre:List (List Piece)) (hp:pre.length≤1000000) (S:St) (hS:rkbR i5 i7 B w frm last T pre 0 S):
  ∃r,evD EE q0X5 S=some r∧rkbF i5 B (pre++T.map fun t=>w++[⟨last,frm,t⟩]) r:=by
 unfold q0X5
 refine q0j2 T (rkbR i5 i7 B w frm last T pre) (rkbF i5 B (pre++T.map fun t=>w++[⟨last,frm,t⟩])) ?_ ?_ ?_ _ 0 S rfl hS (Nat.zero_le _)
 ·rintro i S ⟨H,rfl,-⟩;rfl
 ·rintro i x S ⟨H,rfl,hR,hr,b5,b7,ne,l5⟩ hx
  have hlt:=(List.getElem?_eq_some_iff.1 hx).1
  have w1:IntKind.i64.wrap ((i:Int)+1)=((i+1:Nat):Int):=w64 (by omega) (by omega)
  have hix:=fun H k=>q00c H encI (k:=k) (s:=1) hx rfl
  simp only [encI] at hix
  have l7:=q09d hr
  obtain ⟨vs,g1,g2,g3⟩:=q0x8 hR (w++[⟨last,frm,x⟩]) (by omega) l5
  have el:(pre++(T.take i).map fun t=>w++[(⟨last,frm,t⟩:Piece)]).length=pre.length+i:=by simp;omega
  rw [el] at g2
  have et:(pre++(T.take i).map fun t=>w++[(⟨last,frm,t⟩:Piece)])++[w++[⟨last,frm,x⟩]]=pre++(T.take (i+1)).map fun t=>w++[(⟨last,frm,t⟩:Piece)]:=by
   rw [q03n hx];simp
  rw [et] at g3
  refine ⟨rkbE i5 i7 (pre.length+(i+1)) w.length frm last T B ((H++[DObj.row 3 (upV ((w++[(⟨last,frm,x⟩:Piece)]).map q00g))]).set i5 (DObj.row 1 ((vs.map fun v=>[v])++[[.row H.length (w++[(⟨last,frm,x⟩:Piece)]).length 0 (w++[(⟨last,frm,x⟩:Piece)]).length]]))) (i+1),?_,_,rfl,g3,?_,b5,b7,ne,by simp;omega⟩
  ·have hm1:w.length+1<most:=by unfold most;omega
   have hm0:w.length<most:=by unfold most;omega
   have hm2:pre.length+i+1<most:=by unfold most;omega
   have hd:addD B H.length []=[]:=by unfold addD;rw [if_neg (by omega)]
   have hd5:addD B i5 []=[]:=by unfold addD;rw [if_neg (by omega)]
   have g1': ∀T,Eng.rowAt (H++T) i5=some (1,vs.map fun v=>[v]):=fun T=>(q03h T l5).trans g1
   have hr': ∀T,Eng.rowAt (H++T) i7=some (3,upV (w.map q00g)):=fun T=>(q03h T l7).trans hr
   have he:=fun T=>(show elems (H++T) (.row i7 w.length 0 w.length)=some (upV (w.map q00g)) by simp [elems,hr',List.take_of_length_le])
   have hok:=q0lk q00g 3 (fun _=>rfl) w
   simp [-List.all_eq_true,rkbE,hlt,hix,subs,q001,he,hok,hm0,hm1,hm2,g1',g2,hd,hd5,q00g,okEl,show¬H.length<B by omega,show¬i5<B by omega]
   exact ⟨by omega,by rw [w1];push_cast;rfl⟩
  ·rw [q05l _ _ _ _ ne,q03h _ l7];exact hr
 ·rintro S ⟨H,rfl,hR,hr,b5,b7,ne,l5⟩
  rw [List.take_length] at hR
  refine ⟨(.exit 2,⟨[(5,.row i5 (pre.length+T.length) 0 (pre.length+T.length)),(7,.row i7 w.length 0 w.length),(8,vI frm),(10,vI last),(11,sli T),(12,vI T.length),(69,vB false)],[],H,B,[]⟩),?_,by simp,H,_,rfl,by simp,hR⟩
  simp [rkbE]
theorem q081 (l:List Note) (s:Spot) (o:spotB l s) (H:Heap):clD EE (.p (.fn 268)) [q00b l,vSpot s] H=some (vPss (q00j l s),none):=by
 rw [q002 _ _ _ _ _ _ (noP _) fn268]
 have op:=fun H=>q0x7 l s o.l1 o.n1 H
 have e:=q08w o.b o.n0 o.li
 have hch:q00j l s=(if openN l s=0∨s.fresh=false then [[]] else [])++if openN l s=0 then [] else (q01k (rd l (lastP s (openN l s))) (fromP s (openN l s))).map (oneP l s (openN l s)):=rfl
 generalize hN:openN l s=n at*
 have h1:1<most:=by decide
 have hok:okEl 1 [V.nils]=true:=rfl
 have hd:addD H.length H.length []=[]:=by unfold addD;rw [if_neg (by omega)]
 by_cases c0:n=0
 ·subst c0
  rw [hch]
  simp [St.enter,q000,subs,q001,op,h1,hok,hd,frzK]
  simp [upV,allO,frz,encPs]
 ·have hlt:s.note<s.begun:=by omega
  have hnn:(n:Int)=s.begun-s.note:=by omega
  have hnl:s.note+n≤l.length:=by have:=o.b;omega
  have hlast:lastP s n=s.note+n-1:=rfl
  have hrl:=q026 l (s.note+n-1) (by have:=o.n0;omega) (by omega)
  have hix:=fun H k=>q024 H q00e (k:=k) (s:=2) (show 0≤s.note+n-1 by have:=o.n0;omega) hrl rfl
  simp only [q00e] at hix
  have hrm:rd l (s.note+n-1)∈l:=q05a (by have:=o.n0;omega) (by omega)
  have hst: ∀f H,clD EE (.p (.fn 334)) [vNote (rd l (s.note+n-1)),vI f] H=some (sli (q01k (rd l (s.note+n-1)) f),none):=fun f H=>q0uo (rd l (s.note+n-1)).lines (rd l (s.note+n-1)).pens f H (o.l2 _ hrm)
  have hTl:(q01k (rd l (s.note+n-1)) (fromP s n)).length≤10000000:=by
   have h1:=q0cd (q02f (rd l (s.note+n-1)).lines (rd l (s.note+n-1)).pens (fromP s n)) ((rd l (s.note+n-1)).lines.length+1) 0
   have:=o.l2 _ hrm
   unfold q01k;omega
  have hwl:(q01j l (n-1) s.note s.line).length=n-1:=by
   have: ∀(k:Nat) (a b:Int),(q01j l k a b).length=k:=by
    intro k
    induction k with
    |zero=>intro a b;rfl
    |succ k ih=>intro a b;simp [q01j,ih]
   exact this _ _ _
  have hfr:(if n-1=0 then s.line else 0)=fromP s n:=by
   unfold fromP
   by_cases z:n=1
   ·rw [if_pos z,if_pos (by omega)]
   ·rw [if_neg z,if_neg (by omega)]
  have w1:IntKind.i64.wrap (s.note+n)=s.note+n:=w64 (by have:=o.n0;omega) (by have:=o.n1;have:=o.l1;omega)
  have w2:IntKind.i64.wrap (s.note+n-1)=s.note+n-1:=w64 (by have:=o.n0;omega) (by have:=o.n1;have:=o.l1;omega)
  have hcn: ¬(n:Int)=0:=by omega
  have hl1:=o.l1
  by_cases fr:s.fresh=false
  ·have op: ∀H,clD EE (.p (.fn 333)) [q00b l,.agg [vI s.note,vI s.line,vI s.begun,vB false]] H=some (vI n,none):=fun H=>by rw [←fr];exact op H
   have hch2:q00j l s=[[]]++(q01k (rd l (s.note+n-1)) (fromP s n)).map (oneP l s n):=by
    rw [hch,if_neg c0,if_pos (.inr fr)];rfl
   have k0:=q0tn l o.l1 o.l2 n (by omega) s o.n0 hnl 1 H.length (H++[DObj.row 1 (upV [[PV.sl []]])]) H.length (by simp)
   obtain ⟨r,k1,H',env,rfl,k2,k3⟩:=q0to H.length (H.length+1) H.length (q01j l (n-1) s.note s.line) (by rw [hwl];have:=o.n0;omega) (fromP s n) (s.note+n-1) (q01k (rd l (s.note+n-1)) (fromP s n)) hTl [[]] (by simp) _
    ⟨H++[DObj.row 1 (upV [[PV.sl []]])]++[DObj.row 3 (upV ((q01j l (n-1) s.note s.line).map q00g))],rfl,⟨[q00v []],by simp [Eng.rowAt,upV],rfl,fun k v p hv hp=>by
     cases k with
     |zero=>simp at hv hp;subst hv hp;exact ⟨[],.inl ⟨rfl,rfl⟩,by simp⟩
     |succ k=>simp at hv⟩,by simp [Eng.rowAt],by omega,by omega,by omega,by simp⟩
   change Rows H.length H' H.length ([[]]++(q01k (rd l (s.note+n-1)) (fromP s n)).map (oneP l s n)) at k3
   rw [←hch2] at k3
   have fz:=q0lr k3 (Nat.le_refl _)
   rw [q056,if_pos (Nat.le_refl _)] at fz
   have hlen:(q00j l s).length=1+(q01k (rd l (s.note+n-1)) (fromP s n)).length:=by rw [hch2];simp;omega
   have k2':getE env 5= .row H.length (q00j l s).length 0 (q00j l s).length:=by rw [k2,hlen];simp;omega
   simp only [rkE,rkX,hfr] at k0
   simp only [rkbE] at k1
   simp at k1
   simp [cSpot,fr] at k0
   simp [St.enter,q000,subs,q001,op,h1,hok,hd,c0,hcn,fr,k0,k1,k2',w1,w2,hix,hst,fz]
  ·have op: ∀H,clD EE (.p (.fn 333)) [q00b l,.agg [vI s.note,vI s.line,vI s.begun,vB true]] H=some (vI n,none):=fun H=>by rw [←(show s.fresh=true by simpa using fr)];exact op H
   have hch2:q00j l s=[]++(q01k (rd l (s.note+n-1)) (fromP s n)).map (oneP l s n):=by
    rw [hch,if_neg c0,if_neg (fun h=>h.elim c0 fr)];rfl
   have k0:=q0tn l o.l1 o.l2 n (by omega) s o.n0 hnl 0 H.length (H++[DObj.row 1 []]) H.length (by simp)
   obtain ⟨r,k1,H',env,rfl,k2,k3⟩:=q0to H.length (H.length+1) H.length (q01j l (n-1) s.note s.line) (by rw [hwl];have:=o.n0;omega) (fromP s n) (s.note+n-1) (q01k (rd l (s.note+n-1)) (fromP s n)) hTl [] (by simp) _
    ⟨H++[DObj.row 1 []]++[DObj.row 3 (upV ((q01j l (n-1) s.note s.line).map q00g))],rfl,⟨[],by simp [Eng.rowAt],rfl,fun k v p hv hp=>by simp at hv⟩,by simp [Eng.rowAt],by omega,by omega,by omega,by simp⟩
   change Rows H.length H' H.length ([]++(q01k (rd l (s.note+n-1)) (fromP s n)).map (oneP l s n)) at k3
   rw [←hch2] at k3
   have fz:=q0lr k3 (Nat.le_refl _)
   rw [q056,if_pos (Nat.le_refl _)] at fz
   have hlen:(q00j l s).length=(q01k (rd l (s.note+n-1)) (fromP s n)).length:=by rw [hch2];simp
   have k2':getE env 5= .row H.length (q00j l s).length 0 (q00j l s).length:=by rw [k2,hlen];simp
   simp only [rkE,rkX,hfr] at k0
   simp only [rkbE] at k1
   simp at k1
   simp [cSpot,fr] at k0
   simp [St.enter,q000,subs,q001,op,h1,hok,hd,c0,hcn,fr,k0,k1,k2',w1,w2,hix,hst,fz]
def rmE (x:List Piece) (L:List (List Piece)) (H:Heap) (i:Nat):St:=⟨[(2,q00v x),(7,vPss L),(8,vI i)],[],H,H.length,[]⟩
def rmX (x:List Piece) (L:List (List Piece)) (H:Heap):Ex×St:=(.exit 0,⟨[(2,q00v x),(7,vPss L),(8,vI L.length),(15,vB false)],[],H,H.length,[]⟩)
def rmB (H:Heap):Ex×St:=(.ret,⟨[(6,vB true)],[],H,H.length,[]⟩)
theorem rm_lp (x:List Piece) (L:List (List Piece)) (hl:L.length≤100000000) (hp: ∀p∈L,p.length≤1000000) (H:Heap):evD EE q0X0 (rmE x L H 0)=some (if L.any (fun q=>decide (q=x))=true then rmB H else rmX x L H):=by
 unfold q0X0
 refine Eq.trans (q013 L (fun (_:Unit) i=>rmE x L H i) (fun _ _=>True) (stepB (fun q=>decide (q=x)) (rmB H)) (fun _=>rmX x L H) (fun _ _=>rfl) ?_ ?_ () 0 trivial (Nat.zero_le _)) (by rw [List.drop_zero,q043])
 ·rintro _ i p-hx
  have hlt:=(List.getElem?_eq_some_iff.1 hx).1
  have w1:IntKind.i64.wrap ((i:Int)+1)=((i+1:Nat):Int):=w64 (by omega) (by omega)
  have hix:=fun H k=>q00c H encPs (k:=k) (s:=1) hx rfl
  simp only [encPs] at hix
  have sm:=fun H=>q0fr p x H (hp p (List.mem_of_getElem? hx))
  unfold stepB
  by_cases c:p=x
  ·subst c
   simp [rmE,rmB,hlt,hix,subs,sm]
  ·simp [rmE,hlt,hix,subs,sm,c,w1]
 ·rintro _-
  simp [rmE,rmX]
theorem q0nx {l:List Note} {s:Spot} (o:spotB l s):(q00j l s).length≤100000000:=by
 unfold q00j
 rw [List.length_append]
 have h1:(if openN l s=0∨s.fresh=false then [([]:List Piece)] else []).length≤1:=by split<;>simp
 have h2:(if openN l s=0 then [] else (q01k (rd l (lastP s (openN l s))) (fromP s (openN l s))).map (oneP l s (openN l s))).length≤10000000:=by
  split
  ·simp
  ·rename_i c0
   rw [List.length_map]
   have e:=q08w o.b o.n0 o.li
   have hrm:rd l (lastP s (openN l s))∈l:=q05a (by unfold lastP;have:=o.n0;omega) (by unfold lastP;have:=o.b;omega)
   have h1:=q0cd (q02f (rd l (lastP s (openN l s))).lines (rd l (lastP s (openN l s))).pens (fromP s (openN l s))) ((rd l (lastP s (openN l s))).lines.length+1) 0
   have:=o.l2 _ hrm
   unfold q01k;omega
 omega
theorem q0i8 (l:List Note) (s:Spot) (o:spotB l s) (x:List Piece) (H:Heap):clD EE (.p (.fn 202)) [q00b l,vSpot s,q00v x] H=some (vB (mayPc l s x),none):=by
 rw [q002 _ _ _ _ _ _ (noP _) fn202]
 have ch:=fun H=>q081 l s o H
 have k:=rm_lp x (q00j l s) (q0nx o) (q0d0 o) H
 unfold mayPc
 simp only [rmE,rmX,rmB] at k
 cases q:(q00j l s).any (fun q=>decide (q=x)) with
 |true=>simp [q] at k;simp [St.enter,q000,subs,q001,ch,k]
 |false=>simp [q] at k;simp [St.enter,q000,subs,q001,ch,k]
def rgE (l:List Float) (c:Int) (H:Heap) (out:List Int) (i:Nat):St:=⟨[(0,q005 l),(1,vI c),(5,.row H.length out.length 0 out.length),(6,vI i)],[],H++[.row 1 (upV (out.map encI))],H.length,[]⟩
def rgX (l:List Float) (c:Int) (H:Heap) (out:List Int):Ex×St:=(.exit 0,⟨[(0,q005 l),(1,vI c),(5,.row H.length out.length 0 out.length),(6,vI l.length),(10,vB false)],[],H++[.row 1 (upV (out.map encI))],H.length,[]⟩)
theorem q0tp (l:List Float) (c:Int) (H:Heap) (hl:l.length≤1000000):clD EE (.p (.fn 335)) [q005 l,vI c] H=some (sli (figOf c 0 l),none):=by
 rw [q002 _ _ _ _ _ _ (noP _) fn335]
 have k:evD EE q0Xa (rgE l c H [] 0)=some (rgX l c H (figOf c 0 l)):=by
  unfold q0Xa
  refine Eq.trans (q00u l (fun out i=>rgE l c H out i) (fun out i=>out.length≤i) (figS c) (fun out=>rgX l c H out) (fun _ _=>rfl) ?_ ?_ [] 0 (by simp) (Nat.zero_le _)) (by rw [List.drop_zero,q0b6,List.nil_append])
  ·rintro out i f hi hx
   have hlt:=(List.getElem?_eq_some_iff.1 hx).1
   have w1:IntKind.i64.wrap ((i:Int)+1)=((i+1:Nat):Int):=w64 (by omega) (by omega)
   have hix:=fun H k=>q00c H q009 (k:=k) (s:=3) hx rfl
   simp only [q009] at hix
   have hm:out.length+1<most:=by unfold most;omega
   unfold figS
   by_cases e:f.c=c
   ·refine ⟨?_,by simp [e];omega⟩
    simp [rgE,hlt,hix,subs,w1,e,hm,encI]
   ·refine ⟨?_,by simp [e];omega⟩
    simp [rgE,hlt,hix,subs,w1,e]
  ·rintro out-
   simp [rgE,rgX]
 simp only [rgE,rgX] at k
 simp at k
 have hfr:(figOf c 0 l).length<9223372036854775807:=by have:=q02d c l 0;omega
 simp [St.enter,q000,k]
def hd3 (x:C3) (c:Int):Int:=if c=0 then x.a else if c=1 then x.b else x.c
def tkT (x y:C3):C3→Nat→List Float→List Int
 |_,_,[]=>[]
 |at_,i,f::r=>if 0≤f.c∧f.c<3 then (if hd3 x f.c≤hd3 at_ f.c∧hd3 at_ f.c<hd3 x f.c+hd3 y f.c then [(i:Int)] else [])++tkT x y (bump at_ f.c) (i+1) r else tkT x y at_ (i+1) r
def sg (F:List Int) (lo hi:Int):List Int:=(F.take hi.toNat).drop lo.toNat
theorem q0gx (z:Int) (F:List Int) (lo hi:Int):sg (z::F) lo hi=(if lo≤0∧0<hi then [z] else [])++sg F (lo-1) (hi-1):=by
 unfold sg
 by_cases h1:0<hi
 ·have e1:hi.toNat=(hi-1).toNat+1:=by omega
  rw [e1,List.take_succ_cons]
  by_cases h2:lo≤0
  ·rw [if_pos ⟨h2,h1⟩,show lo.toNat=0 by omega,show (lo-1).toNat=0 by omega];simp
  ·rw [if_neg (fun h=>h2 h.1),show lo.toNat=(lo-1).toNat+1 by omega,List.drop_succ_cons];simp
 ·rw [if_neg (fun h=>h1 h.2),show hi.toNat=0 by omega,show (hi-1).toNat=0 by omega];simp
theorem q0ls (F:List Int) (u w:Int) (hu:0≤u) (hw:0≤w):sg F u (u+w)=seg F u w:=by
 unfold sg seg
 rw [show (u+w).toNat=u.toNat+w.toNat by omega,List.take_add,List.drop_append,List.drop_take]
 simp
 rcases Nat.le_total u.toNat F.length with h|h
 ·rw [Nat.min_eq_left h];simp
 ·rw [List.drop_eq_nil_of_le h];simp
theorem q0lt (x y:C3): ∀(l:List Float) (a:C3) (i:Nat),∀z∈tkT x y a i l,(i:Int)≤z
 |[],_,_,z,h=>by cases h
 |f::r,a,i,z,h=>by
  unfold tkT at h
  split at h
  ·rcases List.mem_append.1 h with h|h
   ·split at h
    ·simp at h;omega
    ·cases h
   ·have:=q0lt x y r _ _ z h;push_cast at this;omega
  ·have:=q0lt x y r _ _ z h;push_cast at this;omega
theorem q06l (x y:C3): ∀(l:List Float) (a:C3) (i:Nat),(tkT x y a i l).Pairwise (· < ·)
 |[],_,_=> .nil
 |f::r,a,i=>by
  unfold tkT
  split
  ·split
   ·rw [List.singleton_append]
    exact List.pairwise_cons.2 ⟨fun z hz=>by have:=q0lt x y r _ _ z hz;push_cast at this;omega,q06l x y r _ _⟩
   ·exact q06l x y r _ _
  ·exact q06l x y r _ _
theorem q0gy (x y:C3) (z:Int): ∀(l:List Float) (a:C3) (i:Nat),z∈tkT x y a i l↔
  z∈sg (figOf 0 i l) (x.a-a.a) (x.a+y.a-a.a)∨z∈sg (figOf 1 i l) (x.b-a.b) (x.b+y.b-a.b)∨z∈sg (figOf 2 i l) (x.c-a.c) (x.c+y.c-a.c)
 |[],a,i=>by simp [tkT,figOf,sg]
 |f::r,a,i=>by
  unfold tkT
  by_cases c:0≤f.c∧f.c<3
  ·rw [if_pos c,List.mem_append,q0gy x y z r]
   have h3:f.c=0∨f.c=1∨f.c=2:=by omega
   simp only [figOf]
   rcases h3 with e|e|e
   ·simp only [e,bump,hd3]
    simp only [if_true,List.singleton_append,q0gx,List.mem_append,show¬((0:Int)=1) by omega,show¬((0:Int)=2) by omega,if_false,List.nil_append]
    rw [show x.a-a.a-1=x.a-(a.a+1) by omega,show x.a+y.a-a.a-1=x.a+y.a-(a.a+1) by omega]
    have:(x.a≤a.a∧a.a<x.a+y.a)↔(x.a-a.a≤0∧0<x.a+y.a-a.a):=by omega
    simp only [this]
    constructor
    ·rintro (h|h|h|h)
     ·exact .inl (.inl h)
     ·exact .inl (.inr h)
     ·exact .inr (.inl h)
     ·exact .inr (.inr h)
    ·rintro ((h|h)|h|h)
     ·exact .inl h
     ·exact .inr (.inl h)
     ·exact .inr (.inr (.inl h))
     ·exact .inr (.inr (.inr h))
   ·simp only [e,bump,hd3]
    simp only [if_true,List.singleton_append,q0gx,List.mem_append,show¬((1:Int)=0) by omega,show¬((1:Int)=2) by omega,if_false,List.nil_append]
    rw [show x.b-a.b-1=x.b-(a.b+1) by omega,show x.b+y.b-a.b-1=x.b+y.b-(a.b+1) by omega]
    have:(x.b≤a.b∧a.b<x.b+y.b)↔(x.b-a.b≤0∧0<x.b+y.b-a.b):=by omega
    simp only [this]
    constructor
    ·rintro (h|h|h|h)
     ·exact .inr (.inl (.inl h))
     ·exact .inl h
     ·exact .inr (.inl (.inr h))
     ·exact .inr (.inr h)
    ·rintro (h|(h|h)|h)
     ·exact .inr (.inl h)
     ·exact .inl h
     ·exact .inr (.inr (.inl h))
     ·exact .inr (.inr (.inr h))
   ·simp only [e,bump,hd3]
    simp only [if_true,List.singleton_append,q0gx,List.mem_append,show¬((2:Int)=0) by omega,show¬((2:Int)=1) by omega,if_false,List.nil_append]
    rw [show x.c-a.c-1=x.c-(a.c+1) by omega,show x.c+y.c-a.c-1=x.c+y.c-(a.c+1) by omega]
    have:(x.c≤a.c∧a.c<x.c+y.c)↔(x.c-a.c≤0∧0<x.c+y.c-a.c):=by omega
    simp only [this]
    constructor
    ·rintro (h|h|h|h)
     ·exact .inr (.inr (.inl h))
     ·exact .inl h
     ·exact .inr (.inl h)
     ·exact .inr (.inr (.inr h))
    ·rintro (h|h|h|h)
     ·exact .inr (.inl h)
     ·exact .inr (.inr (.inl h))
     ·exact .inl h
     ·exact .inr (.inr (.inr h))
  ·rw [if_neg c,q0gy x y z r]
   simp only [figOf,show¬f.c=0 by omega,show¬f.c=1 by omega,show¬f.c=2 by omega,if_false,List.nil_append]
theorem q0f4: ∀ {l m:List Int},l.Pairwise (· < ·)→m.Pairwise (· < ·)→(∀z,z∈l↔z∈m)→l=m
 |[],[],_,_,_=>rfl
 |[],y::m,_,_,h=>by have:=(h y).2 (by simp);cases this
 |x::l,[],_,_,h=>by have:=(h x).1 (by simp);cases this
 |x::l,y::m,hl,hm,h=>by
  obtain ⟨h1,h2⟩:=List.pairwise_cons.1 hl
  obtain ⟨g1,g2⟩:=List.pairwise_cons.1 hm
  have e:x=y:=by
   have a:=(h x).1 (by simp)
   have b:=(h y).2 (by simp)
   simp only [List.mem_cons] at a b
   rcases a with a|a
   ·exact a
   ·rcases b with b|b
    ·exact b.symm
    ·have:=g1 x a
     have:=h1 y b
     omega
  subst e
  rw [q0f4 h2 g2 fun z=> ?_]
  constructor
  ·intro hz
   have:=(h z).1 (by simp [hz])
   simp only [List.mem_cons] at this
   rcases this with rfl|this
   ·have:=h1 z hz;omega
   ·exact this
  ·intro hz
   have:=(h z).2 (by simp [hz])
   simp only [List.mem_cons] at this
   rcases this with rfl|this
   ·have:=g1 z hz;omega
   ·exact this
theorem q0tq (z:Int) (l:List Int):z∈isort l↔z∈l:=by
 rw [←List.count_pos_iff,←List.count_pos_iff,q0d3]
theorem q0x9 (l:List Float) (x y:C3) (ok:okT l x y):tkT x y ⟨0,0,0⟩ 0 l=takeL l x y:=by
 refine q0f4 (q06l x y l _ _) (q0m4 l x y) fun z=> ?_
 obtain ⟨⟨a1,a2,-⟩,⟨b1,b2,-⟩,⟨c1,c2,-⟩⟩:=ok
 rw [q0gy]
 unfold takeL raw
 rw [q0tq,List.mem_append,List.mem_append]
 simp only [Int.sub_zero]
 rw [q0ls _ _ _ a1 a2,q0ls _ _ _ b1 b2,q0ls _ _ _ c1 c2,or_assoc]
def q0f5 (l:List Float) (x y:C3):V:=if okT l x y then .agg [sli (takeL l x y),vB true] else .agg [sli [],vB false]
def rtkE (l:List Float) (x y a:C3) (H:Heap) (out:List Int) (i:Nat):St:=
 ⟨[(0,q005 l),(4,.lptr 4 0),(5,.lptr 5 0),(6,.lptr 6 0),(7,.lptr 7 0),(8,.row H.length out.length 0 out.length),(10,vI i)],[(4,[vI x.a,vI x.b,vI x.c]),(5,[vI y.a,vI y.b,vI y.c]),(6,[.nils,vB false]),(7,[vI a.a,vI a.b,vI a.c])],H++[.row 1 (upV (out.map encI))],H.length,[]⟩
def rtkX (l:List Float) (x y a:C3) (H:Heap) (out:List Int):Ex×St:=
 (.exit 2,⟨[(0,q005 l),(4,.lptr 4 0),(5,.lptr 5 0),(6,.lptr 6 0),(7,.lptr 7 0),(8,.row H.length out.length 0 out.length),(10,vI l.length),(54,vB false)],[(4,[vI x.a,vI x.b,vI x.c]),(5,[vI y.a,vI y.b,vI y.c]),(6,[.nils,vB false]),(7,[vI a.a,vI a.b,vI a.c])],H++[.row 1 (upV (out.map encI))],H.length,[]⟩)
def rtkS (x y:C3) (st:C3×List Int) (i:Nat) (f:Float):C3×List Int:=
 if 0≤f.c∧f.c<3 then (bump st.1 f.c,st.2++if hd3 x f.c≤hd3 st.1 f.c∧hd3 st.1 f.c<hd3 x f.c+hd3 y f.c then [(i:Int)] else []) else st
theorem q0b5 (x y:C3): ∀(l:List Float) (a:C3) (out:List Int) (i:Nat),(fold (rtkS x y) (a,out) i l).2=out++tkT x y a i l
 |[],_,_,_=>by simp [fold,tkT]
 |f::r,a,out,i=>by
  simp only [fold]
  unfold tkT rtkS
  by_cases c:0≤f.c∧f.c<3
  ·simp only [if_pos c]
   rw [show fold (fun st i f=>if 0≤f.c∧f.c<3 then (bump st.1 f.c,st.2++if hd3 x f.c≤hd3 st.1 f.c∧hd3 st.1 f.c<hd3 x f.c+hd3 y f.c then [(i:Int)] else []) else st)=fold (rtkS x y) from rfl,q0b5 x y r,List.append_assoc]
  ·simp only [if_neg c]
   exact q0b5 x y r a out (i+1)
structure c3b (q:C3) (i:Nat):Prop where
 a:0≤q.a∧q.a≤i
 b:0≤q.b∧q.b≤i
 c:0≤q.c∧q.c≤i
theorem q0xa {a:C3} {i:Nat} (h:c3b a i) (c:Int):c3b (bump a c) (i+1):=by
 obtain ⟨h1,h2,h3⟩:=h
 unfold bump
 (repeat' split)<;>constructor<;>(try simp only)<;>omega
theorem q0xb {a:C3} {i:Nat} (h:c3b a i):c3b a (i+1):=⟨by have:=h.a;omega,by have:=h.b;omega,by have:=h.c;omega⟩
set_option maxHeartbeats 1000000 in
theorem q0Dt (l:List Float) (hl:l.length≤100000) (x y:C3) (ok:okT l x y) (H:Heap): ∃a,evD EE q0X6 (rtkE l x y ⟨0,0,0⟩ H [] 0)=some (rtkX l x y a H (takeL l x y)):=by
 have g0:=q02d 0 l 0
 have g1:=q02d 1 l 0
 have g2:=q02d 2 l 0
 have hb: ∀c:Int,c=0∨c=1∨c=2→0≤hd3 x c∧0≤hd3 y c∧hd3 x c+hd3 y c≤100000:=by
  unfold okT okU at ok
  rintro c (rfl|rfl|rfl)<;>simp only [hd3]<;>simp<;>omega
 refine ⟨(fold (rtkS x y) (⟨0,0,0⟩,[]) 0 l).1,?_⟩
 have e2:=q0b5 x y l ⟨0,0,0⟩ [] 0
 rw [q0x9 l x y ok,List.nil_append] at e2
 rw [←e2]
 unfold q0X6
 refine Eq.trans (q00u l (fun (st:C3×List Int) i=>rtkE l x y st.1 H st.2 i) (fun st i=>c3b st.1 i∧st.2.length≤i) (rtkS x y) (fun st=>rtkX l x y st.1 H st.2) (fun _ _=>rfl) ?_ ?_ (⟨0,0,0⟩,[]) 0 ⟨⟨by simp,by simp,by simp⟩,by simp⟩ (Nat.zero_le _)) (by rw [List.drop_zero])
 ·rintro ⟨a,out⟩ i f ⟨hi,ho⟩ hx
  have hlt:=(List.getElem?_eq_some_iff.1 hx).1
  have w1:IntKind.i64.wrap ((i:Int)+1)=((i+1:Nat):Int):=w64 (by omega) (by omega)
  have hix:=fun H k=>q00c H q009 (k:=k) (s:=3) hx rfl
  simp only [q009] at hix
  have hm:out.length+1<most:=by unfold most;simp only at ho;omega
  obtain ⟨f1,f2,f3⟩:=f
  simp only at hi
  obtain ⟨⟨a1,a2⟩,⟨b1,b2⟩,⟨c1,c2⟩⟩:=hi
  by_cases c:0≤f1∧f1<3
  ·have h3:f1=0∨f1=1∨f1=2:=by omega
   refine ⟨?_,?_⟩
   ·unfold rtkS
    simp only [if_pos c]
    have hbb:=hb f1 h3
    rcases h3 with rfl|rfl|rfl
    ·simp only [hd3,if_true,bump] at hbb⊢
     have wa:IntKind.i64.wrap (a.a+1)=a.a+1:=w64 (by omega) (by omega)
     have ws:IntKind.i64.wrap (x.a+y.a)=x.a+y.a:=w64 (by omega) (by omega)
     by_cases d1:x.a≤a.a
     ·by_cases d2:a.a<x.a+y.a
      ·simp [rtkE,hlt,hix,subs,q001,ixaV,q007,w1,wa,ws,d1,d2,hm,encI]
      ·simp [rtkE,hlt,hix,subs,q001,ixaV,q007,w1,wa,ws,d1,d2]
     ·simp [rtkE,hlt,hix,subs,q001,ixaV,q007,w1,wa,ws,d1]
    ·simp only [hd3,if_true,bump,show¬((1:Int)=0) by omega,if_false] at hbb⊢
     have wa:IntKind.i64.wrap (a.b+1)=a.b+1:=w64 (by omega) (by omega)
     have ws:IntKind.i64.wrap (x.b+y.b)=x.b+y.b:=w64 (by omega) (by omega)
     by_cases d1:x.b≤a.b
     ·by_cases d2:a.b<x.b+y.b
      ·simp [rtkE,hlt,hix,subs,q001,ixaV,q007,w1,wa,ws,d1,d2,hm,encI]
      ·simp [rtkE,hlt,hix,subs,q001,ixaV,q007,w1,wa,ws,d1,d2]
     ·simp [rtkE,hlt,hix,subs,q001,ixaV,q007,w1,wa,ws,d1]
    ·simp only [hd3,if_true,bump,show¬((2:Int)=0) by omega,show¬((2:Int)=1) by omega,if_false] at hbb⊢
     have wa:IntKind.i64.wrap (a.c+1)=a.c+1:=w64 (by omega) (by omega)
     have ws:IntKind.i64.wrap (x.c+y.c)=x.c+y.c:=w64 (by omega) (by omega)
     by_cases d1:x.c≤a.c
     ·by_cases d2:a.c<x.c+y.c
      ·simp [rtkE,hlt,hix,subs,q001,ixaV,q007,w1,wa,ws,d1,d2,hm,encI]
      ·simp [rtkE,hlt,hix,subs,q001,ixaV,q007,w1,wa,ws,d1,d2]
     ·simp [rtkE,hlt,hix,subs,q001,ixaV,q007,w1,wa,ws,d1]
   ·unfold rtkS
    simp only [if_pos c]
    refine ⟨q0xa ⟨⟨a1,a2⟩,⟨b1,b2⟩,⟨c1,c2⟩⟩ _,?_⟩
    simp only at ho
    rw [List.length_append]
    split<;>simp<;>omega
  ·refine ⟨?_,?_⟩
   ·unfold rtkS
    simp only [if_neg c]
    by_cases d:0≤f1
    ·have d2: ¬f1<3:=fun h=>c ⟨d,h⟩
     simp [rtkE,hlt,hix,subs,q001,w1,d,d2]
    ·simp [rtkE,hlt,hix,subs,q001,w1,d]
   ·unfold rtkS
    simp only [if_neg c]
    exact ⟨q0xb ⟨⟨a1,a2⟩,⟨b1,b2⟩,⟨c1,c2⟩⟩,by simp only at ho;omega⟩
 ·rintro ⟨a,out⟩-
  simp [rtkE,rtkX]
theorem q0lu (l:List Float) (x y:C3) (hl:l.length≤100000) (H:Heap):clD EE (.p (.fn 269)) [q005 l,vC x,vC y] H=some (q0f5 l x y,none):=by
 rw [q002 _ _ _ _ _ _ (noP _) fn269]
 have f:=fun c H=>q0tp l c H (by omega)
 have g0:=q02d 0 l 0
 have g1:=q02d 1 l 0
 have g2:=q02d 2 l 0
 have w0:IntKind.i64.wrap 1=1:=by decide
 have w1:IntKind.i64.wrap 2=2:=by decide
 have w2:IntKind.i64.wrap 3=3:=by decide
 have step: ∀(n:Nat) (u w:Int),n≤100000→(okU n u w↔ ¬(u<0∨w<0∨(n:Int)<w∨(n:Int)-w<u)):=fun n u w _=>by unfold okU;omega
 unfold q0f5
 by_cases ok:okT l x y
 ·rw [if_pos ok]
  obtain ⟨a,k⟩:=q0Dt l hl x y ok H
  obtain ⟨⟨p1,p2,p3,p4⟩,⟨q1,q2,q3,q4⟩,⟨r1,r2,r3,r4⟩⟩:=ok
  have v0:IntKind.i64.wrap (((figOf 0 0 l).length:Int)-y.a)=(figOf 0 0 l).length-y.a:=w64 (by omega) (by omega)
  have v1:IntKind.i64.wrap (((figOf 1 0 l).length:Int)-y.b)=(figOf 1 0 l).length-y.b:=w64 (by omega) (by omega)
  have v2:IntKind.i64.wrap (((figOf 2 0 l).length:Int)-y.c)=(figOf 2 0 l).length-y.c:=w64 (by omega) (by omega)
  simp only [rtkE,rtkX] at k
  simp at k
  simp [St.enter,q000,subs,q001,q0Vp,q003,ixaV,q007,w0,w1,w2,f,v0,v1,v2,k,
   show¬x.a<0 by omega,show¬x.b<0 by omega,show¬x.c<0 by omega,show¬y.a<0 by omega,show¬y.b<0 by omega,show¬y.c<0 by omega,
   show¬((figOf 0 0 l).length:Int)<y.a by omega,show¬((figOf 1 0 l).length:Int)<y.b by omega,show¬((figOf 2 0 l).length:Int)<y.c by omega,
   show¬((figOf 0 0 l).length:Int)-y.a<x.a by omega,show¬((figOf 1 0 l).length:Int)-y.b<x.b by omega,show¬((figOf 2 0 l).length:Int)-y.c<x.c by omega]
 ·rw [if_neg ok]
  by_cases e01:x.a<0
  ·simp [St.enter,q000,subs,q001,q0Vp,q003,ixaV,q007,w0,w1,w2,f,e01]
  by_cases e02:y.a<0
  ·simp [St.enter,q000,subs,q001,q0Vp,q003,ixaV,q007,w0,w1,w2,f,e01,e02]
  by_cases e03:((figOf 0 0 l).length:Int)<y.a
  ·simp [St.enter,q000,subs,q001,q0Vp,q003,ixaV,q007,w0,w1,w2,f,e01,e02,e03]
  have v0:IntKind.i64.wrap (((figOf 0 0 l).length:Int)-y.a)=((figOf 0 0 l).length:Int)-y.a:=w64 (by omega) (by omega)
  by_cases e04:((figOf 0 0 l).length:Int)-y.a<x.a
  ·simp [St.enter,q000,subs,q001,q0Vp,q003,ixaV,q007,w0,w1,w2,f,e01,e02,e03,e04,v0]
  by_cases e11:x.b<0
  ·simp [St.enter,q000,subs,q001,q0Vp,q003,ixaV,q007,w0,w1,w2,f,e01,e02,e03,e04,v0,e11]
  by_cases e12:y.b<0
  ·simp [St.enter,q000,subs,q001,q0Vp,q003,ixaV,q007,w0,w1,w2,f,e01,e02,e03,e04,v0,e11,e12]
  by_cases e13:((figOf 1 0 l).length:Int)<y.b
  ·simp [St.enter,q000,subs,q001,q0Vp,q003,ixaV,q007,w0,w1,w2,f,e01,e02,e03,e04,v0,e11,e12,e13]
  have v1:IntKind.i64.wrap (((figOf 1 0 l).length:Int)-y.b)=((figOf 1 0 l).length:Int)-y.b:=w64 (by omega) (by omega)
  by_cases e14:((figOf 1 0 l).length:Int)-y.b<x.b
  ·simp [St.enter,q000,subs,q001,q0Vp,q003,ixaV,q007,w0,w1,w2,f,e01,e02,e03,e04,v0,e11,e12,e13,e14,v1]
  by_cases e21:x.c<0
  ·simp [St.enter,q000,subs,q001,q0Vp,q003,ixaV,q007,w0,w1,w2,f,e01,e02,e03,e04,v0,e11,e12,e13,e14,v1,e21]
  by_cases e22:y.c<0
  ·simp [St.enter,q000,subs,q001,q0Vp,q003,ixaV,q007,w0,w1,w2,f,e01,e02,e03,e04,v0,e11,e12,e13,e14,v1,e21,e22]
  by_cases e23:((figOf 2 0 l).length:Int)<y.c
  ·simp [St.enter,q000,subs,q001,q0Vp,q003,ixaV,q007,w0,w1,w2,f,e01,e02,e03,e04,v0,e11,e12,e13,e14,v1,e21,e22,e23]
  have v2:IntKind.i64.wrap (((figOf 2 0 l).length:Int)-y.c)=((figOf 2 0 l).length:Int)-y.c:=w64 (by omega) (by omega)
  by_cases e24:((figOf 2 0 l).length:Int)-y.c<x.c
  ·simp [St.enter,q000,subs,q001,q0Vp,q003,ixaV,q007,w0,w1,w2,f,e01,e02,e03,e04,v0,e11,e12,e13,e14,v1,e21,e22,e23,e24,v2]
  exact absurd ⟨by unfold okU;omega,by unfold okU;omega,by unfold okU;omega⟩ ok
def rnxE (p q:List Int) (H:Heap) (i:Nat):St:=⟨[(2,sli p),(7,.lptr 7 0),(8,vI i)],[(7,[sli q,vB true])],H,H.length,[]⟩
def rnxX (p q:List Int) (H:Heap):Ex×St:=(.exit 0,⟨[(2,sli p),(7,.lptr 7 0),(8,vI p.length),(29,vB false)],[(7,[sli q,vB true])],H,H.length,[]⟩)
def rnxB (H:Heap):Ex×St:=(.ret,⟨[(6,vB false)],[],H,H.length,[]⟩)
theorem q0Du (p q:List Int) (h:p.length=q.length) (hp:p.length≤1000000) (H:Heap):evD EE q08j (rnxE p q H 0)=some (rng (step2 (fun x y=>decide (x=y)) q (rnxB H)) (fun _=>rnxX p q H) () 0 p):=by
 unfold q08j
 refine q013 p (fun (_:Unit) i=>rnxE p q H i) (fun _ _=>True) _ (fun _=>rnxX p q H) (fun _ _=>rfl) ?_ ?_ () 0 trivial (Nat.zero_le _)
 ·rintro _ i x-hx
  have hlt:=(List.getElem?_eq_some_iff.1 hx).1
  have hy:q[i]? =some (q[i]'(by omega)):=List.getElem?_eq_getElem (by omega)
  generalize (q[i]'(by omega))=y at hy
  have w:IntKind.i64.wrap ((i:Int)+1)=((i+1:Nat):Int):=w64 (by omega) (by omega)
  have hix:=fun H k=>q00c H encI (k:=k) (s:=1) hx rfl
  have hiy:=fun H k=>q00c H encI (k:=k) (s:=1) hy rfl
  rw [q04n hy]
  by_cases hxy:x=y
  ·subst hxy
   simp [rnxE,hlt,hix,hiy,w,encI,subs]
  ·simp [rnxE,rnxB,hlt,hix,hiy,hxy,encI,subs,Ne.symm hxy]
 ·rintro _-
  simp [rnxE,rnxX]
theorem q0i9 (l:List Float) (x:C3) (p:List Int) (H:Heap) (hl:l.length≤100000) (hp:p.length≤1000000):clD EE (.p (.fn 280)) [q005 l,vC x,sli p] H=some (vB (nextQ l x p),none):=by
 rw [q002 _ _ _ _ _ _ (noP _) fn280]
 have h1:=fun H=>q0n0 l p hp H
 have h2:=fun H=>q0lu l x (ofL l p) hl H
 unfold nextQ
 generalize ofL l p=y at*
 unfold q0f5 at h2
 by_cases h:okT l x y
 ·rw [if_pos h] at h2
  by_cases e:p.length=(takeL l x y).length
  ·have key:=q0Du p (takeL l x y) e hp H
   rw [q05w (fun x y=>decide (x=y)) (takeL l x y) (rnxB H) (rnxX p (takeL l x y) H) p 0 (by omega),List.drop_zero,q06s p (takeL l x y) e] at key
   have e':((takeL l x y).length:Int)=p.length:=by omega
   generalize takeL l x y=T at*
   by_cases q:p=T
   ·rw [if_pos (by simpa using q)] at key
    subst q
    simp [rnxE,rnxX] at key
    simp [St.enter,q000,subs,q001,h1,h2,key,h]
   ·rw [if_neg (by simpa using q)] at key
    simp [rnxE,rnxB] at key
    simp [St.enter,q000,subs,q001,h1,h2,key,h,e',Ne.symm q]
  ·have e': ¬((takeL l x y).length:Int)=p.length:=by omega
   have q: ¬takeL l x y=p:=fun q=>e (by rw [q])
   simp [St.enter,q000,subs,q001,h1,h2,h,e',q]
 ·rw [if_neg h] at h2
  simp [St.enter,q000,subs,q001,h1,h2,h]
def rduE (l:List Item) (fs:List Float) (n:Int) (H:Heap) (d:C3) (i:Nat):St:=⟨[(0,q006 l),(1,q005 fs),(2,vI n),(6,.lptr 6 0),(7,.lptr 7 0),(8,vI i)],[(6,[vI 0,vI 0,vI 0]),(7,[vI d.a,vI d.b,vI d.c])],H,H.length,[]⟩
def rduX (l:List Item) (fs:List Float) (n:Int) (H:Heap) (d:C3):Ex×St:=(.exit 0,⟨[(0,q006 l),(1,q005 fs),(2,vI n),(6,.lptr 6 0),(7,.lptr 7 0),(8,vI l.length),(12,vB false)],[(6,[vI 0,vI 0,vI 0]),(7,[vI d.a,vI d.b,vI d.c])],H,H.length,[]⟩)
def rduS (l:List Item) (fs:List Float) (n:Int) (d:C3) (i:Nat) (x:Item):C3:=if (i:Int)<n∧x.k=7 then q00n fs (l.take i) else d
theorem q0xc (l:List Item) (fs:List Float) (n:Int):fold (rduS l fs n) ⟨0,0,0⟩ 0 l=dueP fs (l.take (putN l n)):=by
 have key: ∀m,m≤l.length→fold (rduS l fs n) ⟨0,0,0⟩ 0 (l.take m)=dueP fs (l.take (min (max n 0).toNat m)):=by
  intro m
  induction m with
  |zero=>intro _;simp [fold,dueP]
  |succ m ih=>
   intro h
   have hx:l[m]? =some l[m]:=List.getElem?_eq_getElem (by omega)
   rw [q0fn _ l _ 0 m _ hx,ih (by omega),Nat.zero_add]
   unfold rduS
   by_cases c:(m:Int)<n
   ·have e1:min (max n 0).toNat (m+1)=m+1:=by omega
    have e2:min (max n 0).toNat m=m:=by omega
    rw [e1,e2,q03n hx,q0bo]
    by_cases k:l[m].k=7
    ·rw [if_pos ⟨c,k⟩,if_pos k]
    ·rw [if_neg (fun h=>k h.2),if_neg k]
   ·have e:min (max n 0).toNat (m+1)=min (max n 0).toNat m:=by omega
    rw [if_neg (fun h=>c h.1),e]
 have h:=key l.length (Nat.le_refl _)
 rw [List.take_length] at h
 rw [h]
 congr 2
 unfold putN;omega
theorem q0p7 (l:List Item) (fs:List Float) (n:Int) (hl:l.length≤1000000) (H:Heap):clD EE (.p (.fn 175)) [q006 l,q005 fs,vI n] H=some (vC (dueP fs (l.take (putN l n))),none):=by
 rw [q002 _ _ _ _ _ _ (noP _) fn175]
 have k:evD EE q0Wy (rduE l fs n H ⟨0,0,0⟩ 0)=some (rduX l fs n H (dueP fs (l.take (putN l n)))):=by
  unfold q0Wy
  refine Eq.trans (q00u l (fun d i=>rduE l fs n H d i) (fun _ _=>True) (rduS l fs n) (fun d=>rduX l fs n H d) (fun _ _=>rfl) ?_ ?_ ⟨0,0,0⟩ 0 trivial (Nat.zero_le _)) (by rw [List.drop_zero,q0xc])
  ·rintro d i x-hx
   refine ⟨?_,trivial⟩
   have hlt:=(List.getElem?_eq_some_iff.1 hx).1
   have w1:IntKind.i64.wrap ((i:Int)+1)=((i+1:Nat):Int):=w64 (by omega) (by omega)
   have hix:=fun H k=>q00c H q004 (k:=k) (s:=7) hx rfl
   simp only [q004] at hix
   have ah:=fun H=>q07u l fs i hl H
   have ep:putN l (i:Int)=i:=by unfold putN;omega
   rw [ep] at ah
   unfold rduS
   by_cases c:(i:Int)<n
   ·by_cases k7:x.k=7
    ·rw [if_pos ⟨c,k7⟩]
     simp [rduE,hlt,hix,subs,q001,w1,c,k7,ah]
    ·rw [if_neg (fun h=>k7 h.2)]
     simp [rduE,hlt,hix,subs,q001,w1,c,k7]
   ·rw [if_neg (fun h=>c h.1)]
    simp [rduE,hlt,hix,subs,q001,w1,c]
  ·rintro d-
   simp [rduE,rduX]
 simp only [rduE,rduX] at k
 simp at k
 simp [St.enter,q000,subs,q001,k]
theorem q06f (j:Job) (w:okW j) (s:Stt) (H:Heap):clD EE (.p (.fn 173)) [vJob j,vStt s] H=some (vB (q022 j s),none):=by
 rw [q002 _ _ _ _ _ _ (noP _) fn173]
 have hr:=fun H=>q025 j w s H
 have hd:=fun H=>q0p7 j.items j.floats s.at_ w.n1 H
 change∀H,clD EE _ _ H=some (vC (dueF j s.at_),none) at hd
 have re:=fun H=>q0f7 (dueF j s.at_) s.h H
 unfold q022
 simp only [vJob,cGeom,List.cons_append,List.nil_append] at hr⊢
 cases c:q01g j s with
 |false=>rw [c] at hr;simp [St.enter,q000,subs,q001,hr]
 |true=>rw [c] at hr;simp [St.enter,q000,subs,q001,hr,hd,re]
theorem q0p8: ∀(fs:List Float) (i:Nat),(∀f∈fs,0≤f.c∧f.c≤2)→(figOf 0 i fs).length+(figOf 1 i fs).length+(figOf 2 i fs).length=fs.length
 |[],_,_=>rfl
 |f::r,i,h=>by
  have ih:=q0p8 r (i+1) fun g hg=>h g (by simp [hg])
  have hf:=h f (by simp)
  have h3:f.c=0∨f.c=1∨f.c=2:=by omega
  simp only [figOf,List.length_append,List.length_cons]
  rcases h3 with e|e|e<;>simp [e]<;>omega
theorem q09h (j:Job) (w:wfJ j) (s:Stt) (H:Heap):clD EE (.p (.fn 86)) [vJob j,vStt s] H=some (vB (doneS j s),none):=by
 rw [q002 _ _ _ _ _ _ (noP _) fn86]
 have hr:=fun H=>q025 j w.w s H
 simp only [vJob,cGeom,List.cons_append,List.nil_append] at hr⊢
 cases c:q01g j s with
 |false=>
  rw [c] at hr
  have:doneS j s=false:=by unfold doneS;rw [c];rfl
  rw [this]
  simp [St.enter,q000,subs,q001,hr]
 |true=>
  rw [c] at hr
  have r:=(q02k j s).1 c
  have cb:=q09w w r
  have h0:=r.h0
  have h1:=r.h1
  have bd:=q0wx w.w s.at_
  have all:=q0Cw w.six
  have sm:=q0p8 j.floats 0 (fun f hf=>(w.fl f hf).1)
  have hh:=q0hy w r
  unfold leC zeroC at h0
  unfold leC at h1
  simp only at h0
  have w1:IntKind.i64.wrap (s.h.a+s.h.b)=s.h.a+s.h.b:=w64 (by omega) (by omega)
  have w2:IntKind.i64.wrap (s.h.a+s.h.b+s.h.c)=s.h.a+s.h.b+s.h.c:=w64 (by omega) (by omega)
  have e:doneS j s=(decide (s.at_=j.items.length)&&decide (s.note=j.notes.length)&&decide (s.h.a+s.h.b+s.h.c=j.floats.length)):=by
   unfold doneS
   rw [c,Bool.true_and]
   by_cases a1:s.at_=j.items.length
   ·by_cases a2:s.note=j.notes.length
    ·have a3:s.line=0:=by
      by_cases z:s.line=0
      ·exact z
      ·have:=(cb.2.2.2 z).1;omega
     have a4:(s.h=allS j)↔(s.h.a+s.h.b+s.h.c=j.floats.length):=by
      rw [all]
      unfold leC allC at*
      simp only at hh
      constructor
      ·intro h;rw [h];simp only;omega
      ·intro h
       obtain ⟨⟨x,y,z⟩,hx⟩: ∃q,q=s.h:=⟨_,rfl⟩
       rw [←hx] at h hh⊢
       simp only [C3.mk.injEq] at*
       omega
     simp only [a1,a2,a3,decide_true,Bool.true_and]
     rw [decide_eq_decide];exact a4
    ·simp [a1,a2]
   ·simp [a1]
  rw [e]
  by_cases a1:s.at_=j.items.length
  ·have a1:=eq_true a1
   by_cases a2:s.note=j.notes.length
   ·have a2:=eq_true a2
    simp [St.enter,q000,subs,q001,ixaV,q007,hr,a1,a2,w1,w2]
   ·simp [St.enter,q000,subs,q001,hr,a1,a2]
  ·simp [St.enter,q000,subs,q001,hr,a1]
abbrev vRC (o:Option Colm):V:= .agg [vI (o.getD q014).k,vI (o.getD q014).frm,vI (o.getD q014).to,q00v (o.getD q014).notes,sli (o.getD q014).top,sli (o.getD q014).bot,vB o.isSome]
section
variable (j:Job) (w:wfJ j)
include w in
theorem q0tr (s:Stt) (H:Heap):clD EE (.p (.fn 172)) [vJob j,vStt s] H=some (vRC (textC j s),none):=by
 rw [q002 _ _ _ _ _ _ (noP _) fn172]
 have ri:=fun H=>q025 j w.w s H
 have dn:=fun H=>q09h j w s H
 have fl:=fun H=>q06f j w.w s H
 have fb:=fun H=>q0qs j.items w.w.n1 s.at_ H
 have sp:=fun H=>q06o j w.w s (q015 j.items s.at_) H
 have ch:=fun H=>q081 j.notes (spotS j s (q015 j.items s.at_)) (q08n j w s _) H
 unfold textC openS
 simp only [vJob,cGeom,List.cons_append,List.nil_append] at ri dn fl sp⊢
 cases c1:q01g j s with
 |false=>rw [c1] at ri;simp [St.enter,q000,subs,q001,ri,q014]
 |true=>
  rw [c1] at ri
  have r:=(q02k j s).1 c1
  cases c2:doneS j s with
  |true=>rw [c2] at dn;simp [St.enter,q000,subs,q001,ri,dn,q014]
  |false=>
   rw [c2] at dn
   by_cases c3:s.at_=j.items.length
   ·have c4: ¬s.at_<j.items.length:=by omega
    have c3:=eq_true c3
    simp [St.enter,q000,subs,q001,ri,dn,c3,c4,q014]
   ·have c4:s.at_<j.items.length:=by have:=r.at1;omega
    cases c5:q022 j s with
    |false=>rw [c5] at fl;simp [St.enter,q000,subs,q001,ri,dn,fl,c3,q014]
    |true=>
     rw [c5] at fl
     have hne:q00j j.notes (spotS j s (q015 j.items s.at_))≠[]:=by
      obtain ⟨n0,l0,n1,n2⟩:=q09w w r
      rw [q0p6 r]
      refine q0fs (q03o w.w _) n0 l0 w.notes fun h=> ?_
      simp only at h⊢
      by_cases z:s.line=0
      ·rw [z]
       have:=w.notes (rd j.notes s.note) (q05a n0 (by have:=q03o w.w (q015 j.items s.at_);omega))
       omega
      ·exact (n2 z).2
     unfold q05q
     generalize q015 j.items s.at_=t at*
     generalize spotS j s t=q at*
     cases hc:q00j j.notes q with
     |nil=>exact absurd hc hne
     |cons p ps=>
      rw [hc] at ch
      have hix: ∀H,ixsI H (vPss (p::ps)) (vI 0) 1=some (.eptr ((encPs p).map .p) 0):=fun H=>q00c H encPs (i:=0) rfl rfl
      simp only [vPss,List.map_cons,encPs] at ch hix
      simp [St.enter,q000,subs,q001,ri,dn,fl,c3,c4,fb,sp,ch,hix]
include w in
theorem q0f6 {s:Stt} (r:rightP j s) {n:C3} (hn:leC n (q01i j s.at_)) (H:Heap):clD EE (.p (.fn 174)) [vJob j,vStt s,vC n] H=some (vRC (q03i j s n),none):=by
 rw [q002 _ _ _ _ _ _ (noP _) fn174]
 have ok:=q0i0 j w r hn
 have w1:IntKind.i64.wrap 1=1:=by decide
 have w2:IntKind.i64.wrap 2=2:=by decide
 have w3:IntKind.i64.wrap 3=3:=by decide
 have t1:=fun y H=>q0lu j.floats s.h y w.w.n3 H
 unfold q0f5 at t1
 unfold q03i
 simp only [vJob,cGeom,List.cons_append,List.nil_append]
 by_cases c1:s.h.a<n.a
 ·have t:=fun H=>t1 ⟨1,0,0⟩ H
  simp only [if_pos (ok.1 c1)] at t
  generalize takeL j.floats s.h ⟨1,0,0⟩=T at*
  simp [St.enter,q000,subs,q001,fldvV,q0W2,q003,ixaV,ixvV,q007,w1,w2,w3,c1,t]
 ·by_cases c2:s.h.b<n.b
  ·have t:=fun H=>t1 ⟨0,1,0⟩ H
   simp only [if_pos (ok.2.1 c2)] at t
   generalize takeL j.floats s.h ⟨0,1,0⟩=T at*
   simp [St.enter,q000,subs,q001,fldvV,q0W2,q003,ixaV,ixvV,q007,w1,w2,w3,c1,c2,t]
  ·by_cases c3:s.h.c<n.c
   ·have t:=fun H=>t1 ⟨0,0,1⟩ H
    simp only [if_pos (ok.2.2 c3)] at t
    generalize takeL j.floats s.h ⟨0,0,1⟩=T at*
    simp [St.enter,q000,subs,q001,fldvV,q0W2,q003,ixaV,ixvV,q007,w1,w2,w3,c1,c2,c3,t]
   ·simp [St.enter,q000,subs,q001,q0W2,q003,ixaV,ixvV,q007,w1,w2,w3,c1,c2,c3,q014]
include w in
theorem q0r1 (s:Stt) (o:openS j s=true) (H:Heap):clD EE (.p (.fn 177)) [vJob j,vStt s] H=some (vRC (q08m j s),none):=by
 rw [q002 _ _ _ _ _ _ (noP _) fn177]
 have ri:=fun H=>q025 j w.w s H
 have dn:=fun H=>q09h j w s H
 have ah:=fun H=>q07u j.items j.floats s.at_ w.w.n1 H
 change∀H,clD EE _ _ H=some (vC (q01i j s.at_),none) at ah
 obtain ⟨r,d⟩:=(q04a j s).1 o
 have al:=fun H=>q0f6 j w r (q0e6 (q01i j s.at_)) H
 unfold q08m
 rw [if_pos o]
 rw [(q02k j s).2 r] at ri
 rw [d] at dn
 simp only [vJob,cGeom,List.cons_append,List.nil_append] at ri dn al⊢
 simp [St.enter,q000,subs,q001,ri,dn,ah,al]
include w in
theorem q0ts (s:Stt) (o:openS j s=true) (H:Heap):clD EE (.p (.fn 176)) [vJob j,vStt s] H=some (vRC (noteC j s),none):=by
 rw [q002 _ _ _ _ _ _ (noP _) fn176]
 have ri:=fun H=>q025 j w.w s H
 have sp:=fun H=>q06o j w.w s s.at_ H
 have ch:=fun H=>q081 j.notes (q02h (spotS j s s.at_)) (q09f j w s _) H
 obtain ⟨r,d⟩:=(q04a j s).1 o
 have hne:q00j j.notes (q02h (spotS j s s.at_))≠[]:=by
  obtain ⟨n0,l0,n1,n2⟩:=q09w w r
  rw [q0p6 r]
  refine q0fs (q03o w.w _) n0 l0 w.notes fun h=> ?_
  simp only [q02h] at h⊢
  by_cases z:s.line=0
  ·rw [z]
   have:=w.notes (rd j.notes s.note) (q05a n0 (by have:=q03o w.w s.at_;omega))
   omega
  ·exact (n2 z).2
 unfold noteC
 rw [(q02k j s).2 r] at ri
 have h1:=r.at1
 simp only [vJob,cGeom,List.cons_append,List.nil_append] at ri sp⊢
 by_cases c2:s.at_<j.items.length
 ·have c3: ¬s.at_=j.items.length:=by omega
  simp [St.enter,q000,subs,q001,ri,c2,c3,q014]
 ·have c3:s.at_=j.items.length:=by omega
  have c3:=eq_true c3
  by_cases c4:s.note=j.notes.length
  ·have c4:=eq_true c4
   simp [St.enter,q000,subs,q001,ri,c2,c3,c4,q014]
  ·unfold q05q
   generalize spotS j s s.at_=q at*
   unfold q02h at*
   cases hc:q00j j.notes ⟨q.note,q.line,q.begun,true⟩ with
   |nil=>exact absurd hc hne
   |cons p ps=>
    rw [hc] at ch
    have hix: ∀H,ixsI H (vPss (p::ps)) (vI 0) 1=some (.eptr ((encPs p).map .p) 0):=fun H=>q00c H encPs (i:=0) rfl rfl
    simp only [vPss,List.map_cons,encPs] at ch hix
    simp [St.enter,q000,subs,q001,ri,sp,ch,hix,c2,c3,c4,o]
include w in
theorem q0tt (s:Stt) (o:openS j s=true) (H:Heap):clD EE (.p (.fn 87)) [vJob j,vStt s] H=some (vRC (q04r j s),none):=by
 rw [q002 _ _ _ _ _ _ (noP _) fn87]
 have ri:=fun H=>q025 j w.w s H
 have fl:=fun H=>q06f j w.w s H
 have du:=fun H=>q0p7 j.items j.floats s.at_ w.w.n1 H
 change∀H,clD EE _ _ H=some (vC (dueF j s.at_),none) at du
 obtain ⟨r,d⟩:=(q04a j s).1 o
 have t1:=fun H=>q0tr j w s H
 have t2:=fun H=>q0f6 j w r (q0vq j.floats (j.items.take (putN j.items s.at_))) H
 change∀H,clD EE _ [vJob j,vStt s,vC (dueF j s.at_)] H=some (vRC (q03i j s (dueF j s.at_)),none) at t2
 have t3:=fun H=>q0ts j w s o H
 have t4:=fun H=>q0r1 j w s o H
 rw [(q02k j s).2 r] at ri
 unfold q04r
 have e2:dueC j s=q03i j s (dueF j s.at_):=by unfold dueC;rw [if_pos o]
 simp only [vJob,cGeom,List.cons_append,List.nil_append] at ri fl t1 t2 t3 t4⊢
 cases a1:textC j s with
 |some c=>rw [a1] at t1;simp [St.enter,q000,subs,q001,fldvV,t1]
 |none=>
  rw [a1] at t1
  cases f:q022 j s with
  |false=>
   rw [f] at fl
   have hne: ¬leC (dueF j s.at_) s.h:=fun h=>by rw [(q0hz r).2 h] at f;cases f
   obtain ⟨c,hc⟩:=q0qp (j:=j) hne
   rw [hc] at t2
   rw [e2,hc]
   simp [St.enter,q000,subs,q001,fldvV,t1,ri,fl,du,t2]
  |true=>
   rw [f] at fl
   have e3:q03i j s (dueF j s.at_)=none:=by
    have hle:=(q0hz r).1 f
    unfold leC at hle
    unfold q03i
    rw [if_neg (by omega),if_neg (by omega),if_neg (by omega)]
   rw [e2,e3]
   cases a3:noteC j s with
   |some c=>rw [a3] at t3;simp [St.enter,q000,subs,q001,fldvV,t1,ri,fl,t3]
   |none=>rw [a3] at t3;simp [St.enter,q000,subs,q001,fldvV,t1,ri,fl,t3,t4]
def rinE (l:List Int) (x:Int) (H:Heap) (i:Nat):St:=⟨[(0,sli l),(1,vI x),(5,vI i)],[],H,H.length,[]⟩
theorem q0xd (l:List Int) (x:Int) (hl:l.length≤1000000) (H:Heap):clD EE (.p (.fn 200)) [sli l,vI x] H=some (vB (l.contains x),none):=by
 rw [q002 _ _ _ _ _ _ (noP _) fn200]
 have k:evD EE q0Wz (rinE l x H 0)=some (if l.any (fun y=>decide (y=x))=true then (.ret,⟨[(4,vB true)],[],H,H.length,[]⟩) else (.exit 0,⟨[(0,sli l),(1,vI x),(5,vI l.length),(9,vB false)],[],H,H.length,[]⟩)):=by
  unfold q0Wz
  refine Eq.trans (q013 l (fun (_:Unit) i=>rinE l x H i) (fun _ _=>True) (stepB (fun y=>decide (y=x)) (.ret,⟨[(4,vB true)],[],H,H.length,[]⟩)) (fun _=>(.exit 0,⟨[(0,sli l),(1,vI x),(5,vI l.length),(9,vB false)],[],H,H.length,[]⟩)) (fun _ _=>rfl) ?_ ?_ () 0 trivial (Nat.zero_le _)) (by rw [List.drop_zero,q043])
  ·rintro _ i y-hx
   have hlt:=(List.getElem?_eq_some_iff.1 hx).1
   have w1:IntKind.i64.wrap ((i:Int)+1)=((i+1:Nat):Int):=w64 (by omega) (by omega)
   have hix:=fun H k=>q00c H encI (k:=k) (s:=1) hx rfl
   simp only [encI] at hix
   unfold stepB
   by_cases c:y=x
   ·simp [rinE,hlt,hix,subs,c]
   ·simp [rinE,hlt,hix,subs,c,w1]
  ·rintro _-
   simp [rinE]
 have e:l.any (fun y=>decide (y=x))=l.contains x:=by
  rw [Bool.eq_iff_iff]
  simp
 rw [e] at k
 simp only [rinE] at k
 cases q:l.contains x with
 |true=>rw [q] at k;simp at k;simp [St.enter,q000,k]
 |false=>rw [q] at k;simp at k;simp [St.enter,q000,k]
end
section
variable (j:Job) (n1:j.items.length≤1000000) (hf: ∀x∈j.items,fairI x)
include n1 hf in
include n1 in
end
theorem q0tu (l:List Int) (x:Int) (hl:l.length≤1000000) (H:Heap):evD EE q0X7 ⟨[(0,sli l),(1,vI x),(7,vI l.length),(8,vI 0)],[],H,H.length,[]⟩=
  some (rng (fun (_:Unit) i y=>if x=y then .inr (Ex.ret,(⟨[(4,vI i)],[],H,H.length,[]⟩:St)) else .inl ()) (fun _=>(Ex.exit 0,(⟨[(0,sli l),(1,vI x),(7,vI l.length),(8,vI l.length),(9,vB false)],[],H,H.length,[]⟩:St))) () 0 l):=by
 unfold q0X7
 refine q013 l (fun (_:Unit) i=>⟨[(0,sli l),(1,vI x),(7,vI l.length),(8,vI i)],[],H,H.length,[]⟩) (fun _ _=>True) _ _ (fun _ _=>rfl) ?_ ?_ () 0 trivial (Nat.zero_le _)
 ·rintro _ i y-hx
  have hlt:=(List.getElem?_eq_some_iff.1 hx).1
  have w:IntKind.i64.wrap ((i:Int)+1)=((i+1:Nat):Int):=w64 (by omega) (by omega)
  have hix:=fun H k=>q00c H encI (k:=k) (s:=1) hx rfl
  simp only [encI] at hix
  by_cases c:x=y
  ·simp [hlt,hix,encI,subs,c]
  ·simp [hlt,hix,encI,subs,c,w]
 ·rintro _-
  simp
theorem q09i (x:Int) (H:Heap) (fin:Ex×St): ∀(l:List Int) (i:Nat),(l.contains x=false→rng (fun (_:Unit) i y=>if x=y then .inr (Ex.ret,(⟨[(4,vI i)],[],H,H.length,[]⟩:St)) else .inl ()) (fun _=>fin) () i l=fin)∧
  (l.contains x=true→ ∃k:Nat,rng (fun (_:Unit) i y=>if x=y then .inr (Ex.ret,(⟨[(4,vI i)],[],H,H.length,[]⟩:St)) else .inl ()) (fun _=>fin) () i l=(Ex.ret,⟨[(4,vI k)],[],H,H.length,[]⟩))
 |[],i=>by simp [rng]
 |y::r,i=>by
  have ih:=q09i x H fin r (i+1)
  simp only [rng]
  by_cases c:x=y
  ·subst c
   simp only [if_true]
   refine ⟨fun h=>by simp at h,fun _=>⟨i,rfl⟩⟩
  ·simp only [if_neg c]
   have e:(y::r).contains x=r.contains x:=by simp [c]
   rw [e];exact ih
theorem q0tv (l:List Int) (x:Int) (hl:l.length≤1000000) (H:Heap):clD EE (.p (.fn 183)) [sli l,vI x] H=some (vB (l.contains x),none):=by
 rw [q002 _ _ _ _ _ _ (noP _) fn183]
 have key:=fun H=>q0tu l x hl H
 cases c:l.contains x with
 |false=>
  have i: ∀H,clD EE (.p (.fn 270)) [sli l,vI x] H=some (vI (-1),none):=by
   intro H
   rw [q002 _ _ _ _ _ _ (noP _) fn270]
   have k:=key H
   rw [(q09i x H _ l 0).1 c] at k
   simp [St.enter,q000,k]
  simp [St.enter,q000,i]
 |true=>
  have i: ∀H,∃k:Nat,clD EE (.p (.fn 270)) [sli l,vI x] H=some (vI k,none):=by
   intro H
   rw [q002 _ _ _ _ _ _ (noP _) fn270]
   have k:=key H
   obtain ⟨z,hz⟩:=(q09i x H (Ex.exit 0,⟨[(0,sli l),(1,vI x),(7,vI l.length),(8,vI l.length),(9,vB false)],[],H,H.length,[]⟩) l 0).2 c
   rw [hz] at k
   exact ⟨z,by simp [St.enter,q000,k]⟩
  obtain ⟨z,hz⟩:=i H
  have z0:(0:Int)≤z:=by omega
  simp [St.enter,q000,hz,z0]
section
variable (j:Job) (n1:j.items.length≤1000000) (hf: ∀x∈j.items,fairI x)
include n1 hf in
include n1 hf in
end
end Go.EnvOf
