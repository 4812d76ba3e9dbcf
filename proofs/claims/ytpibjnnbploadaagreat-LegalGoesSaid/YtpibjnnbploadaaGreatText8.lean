/- The program's functions and the document's, evaluated. -/
import Derived.Test.YtpibjnnbploadaaGreatText7
import Derived.Test.YtpibjnnbploadaaGreatText5
set_option linter.unusedSimpArgs false
set_option linter.unusedVariables false
namespace Go.EnvOf
open Go Go.Eng
set_option maxRecDepth 100000
def repP (p:List Piece) (v:V) (H:Heap) (B:List Nat):Prop:=
 (v=q018 p∧B=[])∨ ∃id,v= .row id p.length 0 p.length∧Eng.rowAt H id=some (3,upV (p.map q00c))∧B=[id]
theorem q0yz (l:List Note) (s:Spot) (hl:l.length≤1000000) (hn:s.note≤1000000) (H:Heap):clD EE (.p (.fn 424)) [vSpot s,q00q l] H=some (vI (openN l s),none):=by
 rw [q002 _ _ _ _ _ _ (noP _) fn424]
 unfold openN
 by_cases c1:s.note<0
 ·simp [St.enter,q000,subs,q001,c1]
 ·by_cases c2:s.line<0
  ·simp [St.enter,q000,subs,q001,c1,c2]
  ·have w:IntKind.i64.wrap (max (min s.begun l.length) 0-s.note)=max (min s.begun l.length) 0-s.note:=w64 (by omega) (by omega)
   have e:(((max (max (min s.begun (l.length:Int)) 0-s.note) 0).toNat:Nat):Int)=max (max (min s.begun (l.length:Int)) 0-s.note) 0:=by omega
   simp [St.enter,q000,subs,q001,c1,c2,w]
abbrev cSpot (s:Spot):List V:=[vI s.note,vI s.line,vI s.begun,vB s.fresh]
def allV (p:Nat):V:= .fn (.func 423) [] [.ptr (p+1) 0,.ptr p 0]
@[simp] theorem q0K8 (p:Nat):V.notL (allV p)=true:=_root_.id rfl
@[simp] theorem q0Fp (p k:Nat):q00p (allV p) k=true:=_root_.id rfl
@[simp] theorem q0K9 (p:Nat):V.outB (allV p)=true:=_root_.id rfl
@[simp] theorem q0Ka (p:Nat):outL (allV p)=allV p:=_root_.id rfl
@[simp] theorem q0Fq (p:Nat):normA (allV p)=allV p:=_root_.id rfl
theorem q0cb (l:List Note) (s:Spot) (H:Heap):clD EE (.p (.fn 365)) [q00q l,vSpot s] H=some (allV H.length,some (H++[.box [q00q l],.box (cSpot s)],[])):=by
 rw [q002 _ _ _ _ _ _ (noP _) fn365]
 simp [St.enter,q000,subs,q001,allV]
def q05f (s:Spot) (acc:List Piece) (i:Nat) (x:Note):List Piece:=acc++[⟨s.note+i,if i=0 then s.line else 0,x.lines.length⟩]
theorem q0cc (l:List Note) (s:Spot): ∀(k i:Nat) (acc:List Piece),i≠0→0≤s.note→s.note+i+k≤l.length→fold (q05f s) acc i ((l.drop (s.note+i).toNat).take k)=acc++q01y l k (s.note+i) 0
 |0,i,acc,_,_,_=>by simp [fold,q01y]
 |k+1,i,acc,hi,h0,h=>by
  have hlt:(s.note+i).toNat<l.length:=by omega
  have hx:=q03y l (s.note+i) (by omega) (by omega)
  have hd:l.drop (s.note+i).toNat=rd l (s.note+i)::l.drop (s.note+i+1).toNat:=by
   rw [List.drop_eq_getElem_cons hlt]
   have e:l[(s.note+i).toNat]=rd l (s.note+i):=by
    rw [List.getElem?_eq_getElem hlt] at hx;simpa using hx
   rw [e,show (s.note+i).toNat+1=(s.note+i+1).toNat by omega]
  have ih:=q0cc l s k (i+1) (q05f s acc i (rd l (s.note+i))) (by omega) h0 (by push_cast;omega)
  rw [hd,List.take_succ_cons,fold]
  rw [show (s.note+i+1).toNat=(s.note+(i+1:Nat)).toNat by push_cast;rw [Int.add_assoc],ih]
  unfold q05f
  rw [if_neg hi,q01y,List.append_assoc,List.singleton_append]
  rw [show s.note+((i+1:Nat):Int)=s.note+i+1 by push_cast;omega]
theorem q0p7 (l:List Note) (s:Spot) (k:Nat) (h0:0≤s.note) (h:s.note+k≤l.length):fold (q05f s) [] 0 ((l.drop s.note.toNat).take k)=q01y l k s.note s.line:=by
 cases k with
 |zero=>simp [fold,q01y]
 |succ k=>
  have hlt:s.note.toNat<l.length:=by omega
  have hx:=q03y l s.note (by omega) (by omega)
  have hd:l.drop s.note.toNat=rd l s.note::l.drop (s.note+(1:Nat)).toNat:=by
   rw [List.drop_eq_getElem_cons hlt]
   have e:l[s.note.toNat]=rd l s.note:=by
    rw [List.getElem?_eq_getElem hlt] at hx;simpa using hx
   rw [e,show s.note.toNat+1=(s.note+(1:Nat)).toNat by omega]
  rw [hd,List.take_succ_cons,fold,q0cc l s k 1 _ (by omega) h0 (by push_cast at*;omega)]
  unfold q05f
  rw [if_pos rfl,q01y]
  simp
def alE (q p n:Nat) (s:Spot) (seg:List Note) (G:Heap) (B:Nat) (d:List Nat) (acc:List Piece) (i:Nat):St:=
 ⟨[(0,.yld q),(1,.ptr (p+1) 0),(2,.ptr p 0),(4,vI n),(5,.row G.length acc.length 0 acc.length),(6,vI (if i=0 then s.line else 0)),(42,q00q seg),(43,vI seg.length),(44,vI i)],[],G++[.row 3 (upV (acc.map q00c))],B,d⟩
def alX (q p n:Nat) (s:Spot) (seg:List Note) (G:Heap) (B:Nat) (d:List Nat) (acc:List Piece):Ex×St:=
 (.exit 0,⟨[(0,.yld q),(1,.ptr (p+1) 0),(2,.ptr p 0),(4,vI n),(5,.row G.length acc.length 0 acc.length),(6,vI (if seg.length=0 then s.line else 0)),(42,q00q seg),(43,vI seg.length),(44,vI seg.length),(45,vB false)],[],G++[.row 3 (upV (acc.map q00c))],B,d⟩)
theorem q0B5 (q p n:Nat) (s:Spot) (hs:0≤s.note∧s.note≤1000000) (seg:List Note) (hl:seg.length≤1000000) (hn: ∀x∈seg,x.lines.length≤1000000) (G:Heap) (B:Nat) (hB:B≤G.length) (d:List Nat) (b2:Eng.boxAt G (p+1)=some (cSpot s)):
  evD EE q0bd (alE q p n s seg G B d [] 0)=some (alX q p n s seg G B d (fold (q05f s) [] 0 seg)):=by
 unfold q0bd
 refine Eq.trans (q028 seg (fun acc i=>alE q p n s seg G B d acc i) (fun acc i=>acc.length=i) (q05f s) (fun acc=>alX q p n s seg G B d acc) (fun _ _=>rfl) ?_ ?_ [] 0 rfl (Nat.zero_le _)) (by rw [List.drop_zero])
 ·rintro acc i x hi hx
  refine ⟨?_,by simp [q05f,hi]⟩
  have hlt:=(List.getElem?_eq_some_iff.1 hx).1
  have w:IntKind.i64.wrap ((i:Int)+1)=((i+1:Nat):Int):=w64 (by omega) (by omega)
  have w2:IntKind.i64.wrap (s.note+(i:Int))=s.note+i:=w64 (by omega) (by omega)
  have hix:=fun H k=>q00z H q00f (k:=k) (s:=2) hx rfl
  simp only [q00f] at hix
  have hb:=fun T=>(q06u T (q02s b2)).trans b2
  have hm:acc.length+1<most:=by unfold most;omega
  have hd:addD B G.length d=d:=by unfold addD;rw [if_neg (by omega)]
  simp [alE,hlt,hix,hb,subs,q001,w,w2,hm,hd,hB,q05f,q00c]
 ·rintro acc hi
  simp [alE,alX]
def bE (q id k:Nat) (frm last:Int) (T:List Int) (B:Nat) (H:Heap) (d:List Nat) (i:Nat):St:=
 ⟨[(0,.yld q),(5,.row id k 0 k),(6,vI frm),(9,vI last),(72,sli T),(73,vI T.length),(74,vI i)],[],H,B,d⟩
structure Came (R:Nat→List Nat→Heap→Prop) (A:List Nat) (H0:Heap) (q c:Nat) (A':List Nat) (H':Heap) (d:List Nat):Prop where
 r:R c A' H'
 keep:Keep A H0 H'
 sub: ∀k∈A',k∈A∨H0.length≤k
 dirty: ∀k∈d,k∈A∨H0.length≤k
 q:q∈d∨(c=0∧A'=A)
def bR (R:Nat→List Nat→Heap→Prop) (A:List Nat) (H0:Heap) (q id c0:Nat) (w:List Piece) (frm last:Int) (T:List Int) (i:Nat) (S:St):Prop:=
 ∃A' H' d,S=bE q id w.length frm last T H0.length H' d i∧Came R A H0 q (c0+i) A' H' d∧Eng.rowAt H' id=some (3,upV (w.map q00c))∧id∉A'
def bF (R:Nat→List Nat→Heap→Prop) (F:List Nat→Heap→Prop) (A:List Nat) (H0:Heap) (q c:Nat) (r:Ex×St):Prop:=
 ∃A' H' d env,(r=(.exit 2,⟨env,[],H',H0.length,d⟩)∧Came R A H0 q c A' H' d)∨(r=(.ret,⟨env,[],H',H0.length,d⟩)∧F A' H'∧Keep A H0 H'∧(∀k∈A',k∈A∨H0.length≤k)∧(∀k∈d,k∈A∨H0.length≤k)∧q∈d)
theorem q0kn {P:Nat→Prop} {B:Nat} {ds d:List Nat} (h1: ∀k∈ds,P k) (h2: ∀k∈d,P k): ∀k∈ds.foldr (addD B) d,P k:=fun k hk=>by
 rcases q060 hk with h|h
 ·exact h1 k h
 ·exact h2 k h
theorem b_lp (L:List (List Piece)) (R:Nat→List Nat→Heap→Prop) (F:List Nat→Heap→Prop) (q:Nat) (he:Eats repP q L R F) (A:List Nat) (H0:Heap) (hq:q<H0.length) (id c0:Nat) (w:List Piece) (hw:w.length≤1000000) (frm last:Int) (T:List Int) (hT:T.length≤10000000)
  (hL: ∀i t,T[i]? =some t→L[c0+i]? =some (w++[⟨last,frm,t⟩])) (S:St) (hS:bR R A H0 q id c0 w frm last T 0 S):
  ∃r,evD EE q0be S=some r∧bF R F A H0 q (c0+T.length) r:=by
 unfold q0be
 refine q0s7 T (bR R A H0 q id c0 w frm last T) (bF R F A H0 q (c0+T.length)) (by rintro i S ⟨A',H',d,rfl,-⟩;rfl) ?_ ?_ _ 0 S rfl hS (Nat.zero_le _)
 ·rintro i x S ⟨A',H',d,rfl,hC,hr,hid⟩ hx
  have hlt:=(List.getElem?_eq_some_iff.1 hx).1
  have w1:IntKind.i64.wrap ((i:Int)+1)=((i+1:Nat):Int):=w64 (by omega) (by omega)
  have hix:=fun H k=>q00z H encI (k:=k) (s:=1) hx rfl
  simp only [encI] at hix
  have hbel:=he.bel _ _ _ hC.r
  have hidl:=q0je hr
  have hH0:=hC.keep.1
  have hr2:Eng.rowAt (H'++[.row 3 (upV ((w++[(⟨last,frm,x⟩:Piece)]).map q00c))]) H'.length=some (3,upV ((w++[(⟨last,frm,x⟩:Piece)]).map q00c)):=by simp [Eng.rowAt]
  obtain ⟨b,H3,ds,A3,hc,hqd,k3,d3,s3,ht,hf⟩:=he.step (c0+i) A' _ _ (.row H'.length (w++[(⟨last,frm,x⟩:Piece)]).length 0 (w++[(⟨last,frm,x⟩:Piece)]).length) [H'.length] (hL i x hx)
   (he.stay _ _ _ _ hC.r (Stay.app _ _ [.row 3 (upV ((w++[(⟨last,frm,x⟩:Piece)]).map q00c))] hbel)) (.inr ⟨_,rfl,hr2,rfl⟩) (fun k hk=>by
    simp at hk;subst hk
    exact ⟨fun h=>by have:=hbel _ h;omega,by omega⟩)
  have kk:Keep A H0 H3:=(hC.keep.trans (Keep.app A' H' _) (fun k hk=>hC.sub k hk)).trans k3 hC.sub
  have dd: ∀k∈ds.foldr (addD H0.length) d,k∈A∨H0.length≤k:=q0kn (fun k hk=>by
   rcases d3 k hk with h|h
   ·exact hC.sub k h
   ·simp at h;omega) hC.dirty
  have ss: ∀k∈A3,k∈A∨H0.length≤k:=fun k hk=>by
   rcases s3 k hk with h|h|h
   ·exact hC.sub k h
   ·simp at h;omega
   ·simp at h;omega
  have qq:q∈ds.foldr (addD H0.length) d:=q099 hqd hq
  have hd:addD H0.length H'.length d=d:=by unfold addD;rw [if_neg (by omega)]
  have hm:w.length+1<most:=by unfold most;omega
  have h1:1<most:=by decide
  have row3:Eng.rowAt H3 id=some (3,upV (w.map q00c)):=by
   refine Keep.row k3 ?_ hid
   rw [q0jd _ hidl];exact hr
  have id3:id∉A3:=fun h=>by
   rcases s3 id h with h|h|h
   ·exact hid h
   ·simp at h;omega
   ·simp at h;omega
  have hcl:=fun H=>q0dv EE 426 3 [vI 0,vI 0,vI 0] H (.row id 0 0 0) (noP _) fn426 rfl
  have hcr: ∀y ys,w=y::ys→clD EE (.p (.fn 426)) [.row id (ys.length+1) 0 (ys.length+1)] H'=some (.row H'.length (ys.length+1) 0 (ys.length+1),some (H'++[.row 3 (upV ((y::ys).map q00c))],[])):=by
   rintro y ys rfl
   have:=q0s8 EE 426 3 [vI 0,vI 0,vI 0] H' id _ (noP _) fn426 hr (by simp [upV]) (q0tu q00c 3 (fun _=>rfl) _) (by simp [upV];simp at hm;omega)
   simpa [upV] using this
  cases b with
  |true=>
   refine .inl ⟨bE q id w.length frm last T H0.length H3 (ds.foldr (addD H0.length) d) (i+1),?_,A3,H3,_,rfl,⟨ht rfl,kk,ss,dd,.inl qq⟩,row3,id3⟩
   cases w with
   |nil=>
    simp [q00c] at hc
    simp [bE,hlt,hix,subs,q001,hcl,h1,hc,w1]
   |cons y ys=>
    have hcr:=hcr y ys rfl
    simp [q00c,q04n] at hc hcr hm
    simp [bE,hlt,hix,subs,q001,hcr,hm,hd,hH0,hc,w1,q04n,okEl,show¬H'.length<H0.length by omega]
  |false=>
   refine .inr ⟨(.ret,⟨[(0,.yld q),(5,.row id w.length 0 w.length),(6,vI frm),(9,vI last),(72,sli T),(73,vI T.length),(74,vI i),(89,vB true)],[],H3,H0.length,ds.foldr (addD H0.length) d⟩),?_,by simp,A3,H3,_,_,.inr ⟨rfl,hf rfl,kk,ss,dd,qq⟩⟩
   cases w with
   |nil=>
    simp [q00c] at hc
    simp [bE,hlt,hix,subs,q001,hcl,h1,hc,w1]
   |cons y ys=>
    have hcr:=hcr y ys rfl
    simp [q00c,q04n] at hc hcr hm
    simp [bE,hlt,hix,subs,q001,hcr,hm,hd,hH0,hc,w1,q04n,okEl,show¬H'.length<H0.length by omega]
 ·rintro S ⟨A',H',d,rfl,hC,hr,hid⟩
  refine ⟨(.exit 2,⟨[(0,.yld q),(5,.row id w.length 0 w.length),(6,vI frm),(9,vI last),(72,sli T),(73,vI T.length),(74,vI T.length),(75,vB false)],[],H',H0.length,d⟩),?_,by simp,A',H',d,_,.inl ⟨rfl,hC⟩⟩
  simp [bE]
theorem q0B6 (l:List Note) (a:Int) (n:Nat) (H:Heap) (h0:0≤a) (h:a+n≤l.length) (hn:1≤n):
  slcI H 2 (q00q l) (some (vI a)) (some (vI (a+n-1)))=some (q00q ((l.drop a.toNat).take (n-1))):=by
 have e:(a+n-1-a).toNat=n-1:=by omega
 have hh:q05w 2 (l.map q00f)=true:=by cases l<;>rfl
 have g:a≤a+n-1:=by omega
 have g2:a+n-1≤(l.length:Int):=by omega
 simp [slcI,slcV,e,hh,h0,g,g2,List.map_take,List.map_drop]
theorem q0vo {R:Nat→List Nat→Heap→Prop} {F:List Nat→Heap→Prop} {L:List (List Piece)} {q:Nat} (he:Eats repP q L R F) {A A1:List Nat} {H H1:Heap} {c:Nat} {d:List Nat} (h:Came R A H q c A1 H1 d) (o:DObj):Came R A H q c A1 (H1++[o]) d:=
 ⟨he.stay _ _ _ _ h.r (Stay.app _ _ _ (he.bel _ _ _ h.r)),h.keep.trans (Keep.app A1 H1 [o]) h.sub,h.sub,h.dirty,h.q⟩
theorem q09n (l:List Note) (s:Spot) (hl:l.length≤1000000) (hx: ∀n∈l,n.lines.length≤1000000) (hb:s.begun≤l.length) (hn:0≤s.note) (hn2:s.note≤1000000) (hli:0≤s.line) (p q:Nat)
  {R:Nat→List Nat→Heap→Prop} {F:List Nat→Heap→Prop} {A:List Nat} {H:Heap} (he:Eats repP q (q00j l s) R F) (h0:R 0 A H) (hq:q<H.length)
  (b1:Eng.boxAt H p=some [q00q l]) (b2:Eng.boxAt H (p+1)=some (cSpot s)) (a1:p∉A) (a2:p+1∉A):
  ∃r,clD EE (allV p) [.yld q] H=some (.tup [],r)∧Gave (q00j l s) R F A H r:=by
 have op:=fun H=>q0yz l s hl hn2 H
 have e:=q0bk hb hn hli
 have hch:q00j l s=(if openN l s=0∨s.fresh=false then [[]] else [])++if openN l s=0 then [] else (q03o (rd l (lastP s (openN l s))) (fromP s (openN l s))).map (oneP l s (openN l s)):=rfl
 have first:(openN l s=0∨s.fresh=false)→ ∃b H' ds A',clD EE (.yld q) [.p (.sl [])] H=some (vB b,some (H',ds))∧q∈ds∧Keep A H H'∧(∀k∈ds,k∈A∨H.length≤k)∧(∀k∈A',k∈A∨H.length≤k)∧(b=true→R 1 A' H')∧(b=false→F A' H'):=by
  intro c
  have hL:(q00j l s)[0]? =some []:=by rw [hch,if_pos c];rfl
  obtain ⟨b,H',ds,A',g1,g2,g3,g4,g5,g6,g7⟩:=he.step 0 A H [] (q018 []) [] hL h0 (.inl ⟨rfl,rfl⟩) (by simp)
  exact ⟨b,H',ds,A',g1,g2,g3,g4,fun k hk=>by have:=g5 k hk;simpa using this,g6,g7⟩
 rw [allV,q02e,q002 _ _ _ _ _ _ (noP _) fn423]
 generalize hN:openN l s=n at*
 have ne_of: ∀ {ds:List Nat},q∈ds→ ¬ds.foldr (addD H.length) []=[]:=fun hd h0=>by
  have:=q099 (B:=H.length) (d:=[]) hd hq
  rw [h0] at this;cases this
 by_cases c0:n=0
 ·subst c0
  obtain ⟨b,H',ds,A',g1,g2,g3,g4,g5,g6,g7⟩:=first (.inl rfl)
  have hlen:(q00j l s).length=1:=by rw [hch];simp
  refine ⟨some (H',ds.foldr (addD H.length) []),?_,A',g3,fun k hk=> ?_,g5,?_⟩
  ·cases b<;>simp [St.enter,q000,subs,q001,b1,b2,op,g1,ne_of g2]
  ·rcases q060 hk with h|h
   ·exact g4 k h
   ·cases h
  ·rw [hlen]
   cases b with
   |true=>exact .inl (g6 rfl)
   |false=>exact .inr (g7 rfl)
 ·have hlt:s.note<s.begun:=by omega
  have hnn:(n:Int)=s.begun-s.note:=by omega
  have hlast:=q0bl hlt
  rw [←e] at hlast
  have hlastN:s.note+n-1=s.begun-1:=by omega
  obtain ⟨seg,hseg⟩: ∃seg,seg=(l.drop s.note.toNat).take (n-1):=⟨_,rfl⟩
  have hsl:seg.length=n-1:=by rw [hseg,List.length_take,List.length_drop];omega
  have slc:=fun H=>q0B6 l s.note n H hn (by omega) (by omega)
  rw [←hseg] at slc
  have hwf:=q0p7 l s (n-1) hn (by omega)
  rw [←hseg] at hwf
  have hfr:(if seg.length=0 then s.line else 0)=fromP s n:=by
   unfold fromP
   by_cases z:n=1
   ·rw [if_pos z,if_pos (by omega)]
   ·rw [if_neg z,if_neg (by omega)]
  have hfr2:(if seg=[] then s.line else 0)=fromP s n:=by
   rw [←hfr]
   by_cases z:seg=[]
   ·rw [if_pos z,z];rfl
   ·rw [if_neg z,if_neg (fun h=>z (List.eq_nil_of_length_eq_zero h))]
  have hrl:=q03y l (s.note+n-1) (by omega) (by omega)
  have hix:=fun H k=>q04e H q00f (k:=k) (s:=2) (show 0≤s.note+n-1 by omega) hrl rfl
  simp only [q00f] at hix
  have hrm:rd l (s.note+n-1)∈l:=q05n (by omega) (by omega)
  have hst: ∀f H,clD EE (.p (.fn 425)) [vNote (rd l (s.note+n-1)),vI f] H=some (sli (q03o (rd l (s.note+n-1)) f),none):=fun f H=>by
   have:=q0uo (rd l (s.note+n-1)).lines (rd l (s.note+n-1)).pens f H (hx _ hrm)
   rw [q0od] at this
   exact this
  have hTl:(q03o (rd l (s.note+n-1)) (fromP s n)).length≤10000000:=by
   have h1:=q0n2 (q06x (rd l (s.note+n-1)).lines (rd l (s.note+n-1)).pens (fromP s n)) ((rd l (s.note+n-1)).lines.length+1) 0
   have:=hx _ hrm
   unfold q03o;omega
  have hch2:q00j l s=(if s.fresh=false then [[]] else [])++(q03o (rd l (s.note+n-1)) (fromP s n)).map (oneP l s n):=by
   rw [hch,if_neg c0]
   congr 1
   by_cases z:s.fresh=false
   ·rw [if_pos (.inr z),if_pos z]
   ·rw [if_neg (fun h=>h.elim c0 z),if_neg z]
  have hsegl:seg.length≤1000000:=by rw [hsl];omega
  have hsegx: ∀x∈seg,x.lines.length≤1000000:=fun x h=>hx x (by rw [hseg] at h;exact List.mem_of_mem_drop (List.mem_of_mem_take h))
  have hwl:(q01y l (n-1) s.note s.line).length≤1000000:=by
   have: ∀(k:Nat) (a b:Int),(q01y l k a b).length=k:=by
    intro k
    induction k with
    |zero=>intro a b;rfl
    |succ k ih=>intro a b;simp [q01y,ih]
   rw [this];omega
  have rest: ∀(c:Nat) (A1:List Nat) (H1:Heap) (d:List Nat),Came R A H q c A1 H1 d→(q00j l s).length=c+(q03o (rd l (s.note+n-1)) (fromP s n)).length→
    (∀i t,(q03o (rd l (s.note+n-1)) (fromP s n))[i]? =some t→(q00j l s)[c+i]? =some (oneP l s n t))→
    evD EE q0bd (alE q p n s seg H1 H.length d [] 0)=some (alX q p n s seg H1 H.length d (q01y l (n-1) s.note s.line))∧
    ∃r,evD EE q0be (bE q H1.length (q01y l (n-1) s.note s.line).length (fromP s n) (s.note+n-1) (q03o (rd l (s.note+n-1)) (fromP s n)) H.length (H1++[.row 3 (upV ((q01y l (n-1) s.note s.line).map q00c))]) d 0)=some r∧bF R F A H q (q00j l s).length r∧
     (∀T,Eng.boxAt (H1++T) p=some [q00q l])∧ ∀T,Eng.boxAt (H1++T) (p+1)=some (cSpot s):=by
   intro c A1 H1 d hC hlen hL
   have hb1:=hC.keep.box b1 a1
   have hb2:=hC.keep.box b2 a2
   refine ⟨?_,?_⟩
   ·have:=q0B5 q p n s ⟨hn,hn2⟩ seg hsegl hsegx H1 H.length hC.keep.1 d hb2
    rw [hwf] at this
    exact this
   ·have hC2:=q0vo he hC (.row 3 (upV ((q01y l (n-1) s.note s.line).map q00c)))
    obtain ⟨r,h1,h2⟩:=b_lp (q00j l s) R F q he A H hq H1.length c (q01y l (n-1) s.note s.line) hwl (fromP s n) (s.note+n-1) (q03o (rd l (s.note+n-1)) (fromP s n)) hTl
     (fun i t ht=>hL i t ht) _ ⟨A1,_,d,rfl,hC2,by simp [Eng.rowAt],fun h=>by have:=he.bel _ _ _ hC.r _ h;omega⟩
    rw [←hlen] at h2
    exact ⟨r,h1,h2,fun T=>(q06u T (q02s hb1)).trans hb1,fun T=>(q06u T (q02s hb2)).trans hb2⟩
  have w1:IntKind.i64.wrap (s.note+n)=s.note+n:=w64 (by omega) (by omega)
  have w2:IntKind.i64.wrap (s.note+n-1)=s.note+n-1:=w64 (by omega) (by omega)
  have fin: ∀r,bF R F A H q (q00j l s).length r→ ∃(A':List Nat) (H':Heap) (d:List Nat) (env:List (Nat×V)),(r=(.exit 2,⟨env,[],H',H.length,d⟩)∨r=(.ret,⟨env,[],H',H.length,d⟩))∧Gave (q00j l s) R F A H (if d=[] then none else some (H',d)):=by
   rintro r ⟨A',H',d,env,⟨rfl,hC⟩|⟨rfl,h1,h2,h3,h4,h5⟩⟩
   ·refine ⟨A',H',d,env,.inl rfl,?_⟩
    by_cases z:d=[]
    ·rw [if_pos z]
     rcases hC.q with h|⟨h,-⟩
     ·rw [z] at h;cases h
     ·exact ⟨A,Keep.refl _ _,(fun k hk=>nomatch hk),fun k hk=> .inl hk,.inl (by rw [h];exact h0)⟩
    ·rw [if_neg z]
     exact ⟨A',hC.keep,hC.dirty,hC.sub,.inl hC.r⟩
   ·refine ⟨A',H',d,env,.inr rfl,?_⟩
    have z:d≠[]:=fun z=>by rw [z] at h5;cases h5
    rw [if_neg z]
    exact ⟨A',h2,h4,h3,.inr h1⟩
  have hcn: ¬(n:Int)=0:=by omega
  by_cases fr:s.fresh=false
  ·have op: ∀H,clD EE (.p (.fn 424)) [.agg [vI s.note,vI s.line,vI s.begun,vB false],q00q l] H=some (vI n,none):=fun H=>by rw [←fr];exact op H
   obtain ⟨b,H',ds,A',g1,g2,g3,g4,g5,g6,g7⟩:=first (.inr fr)
   cases b with
   |false=>
    refine ⟨some (H',ds.foldr (addD H.length) []),?_,A',g3,fun k hk=> ?_,g5,.inr (g7 rfl)⟩
    ·simp [St.enter,q000,subs,q001,b1,b2,op,g1,ne_of g2,c0,hcn,fr]
    ·rcases q060 hk with h|h
     ·exact g4 k h
     ·cases h
   |true=>
    have hC:Came R A H q 1 A' H' (ds.foldr (addD H.length) []):=⟨g6 rfl,g3,g5,q0kn g4 (fun k hk=>nomatch hk),.inl (q099 g2 hq)⟩
    obtain ⟨k0,r,k1,k2,k3,k4⟩:=rest 1 A' H' _ hC (by rw [hch2,if_pos fr];simp;omega) (fun i t ht=>by rw [hch2,if_pos fr,List.getElem?_append_right (by simp)];simp [ht])
    obtain ⟨A2,H2,d2,env,hr,hG⟩:=fin r k2
    refine ⟨_,?_,hG⟩
    rcases hr with rfl|rfl<;>
    ·simp [alE,alX,bE,hfr2] at k0 k1
     simp [St.enter,q000,subs,q001,b1,b2,op,g1,c0,hcn,fr,k0,k1,k3,k4,w1,w2,slc,hix,hst]
  ·have op: ∀H,clD EE (.p (.fn 424)) [.agg [vI s.note,vI s.line,vI s.begun,vB true],q00q l] H=some (vI n,none):=fun H=>by rw [←(show s.fresh=true by simpa using fr)];exact op H
   have hC:Came R A H q 0 A H []:=⟨h0,Keep.refl _ _,fun k hk=> .inl hk,(fun k hk=>nomatch hk),.inr ⟨rfl,rfl⟩⟩
   obtain ⟨k0,r,k1,k2,k3,k4⟩:=rest 0 A H _ hC (by rw [hch2,if_neg fr];simp) (fun i t ht=>by rw [hch2,if_neg fr];simp [ht])
   obtain ⟨A2,H2,d2,env,hr,hG⟩:=fin r k2
   refine ⟨_,?_,hG⟩
   rcases hr with rfl|rfl<;>
   ·simp [alE,alX,bE,hfr2] at k0 k1
    simp [St.enter,q000,subs,q001,b1,b2,op,c0,hcn,fr,k0,k1,k3,k4,w1,w2,slc,hix,hst]
structure spotB (l:List Note) (s:Spot):Prop where
 l1:l.length≤1000000
 l2: ∀n∈l,n.lines.length≤1000000
 b:s.begun≤l.length
 n0:0≤s.note
 n1:s.note≤1000000
 li:0≤s.line
def lsEnv (h:Nat):List (Nat×V):=[(4,.ptr h 0),(8,allV (h+1))]
def q062 (st:LSt) (h:Nat):DObj:= .loop st (lsEnv h) [9] q04w q04x
def lsR (h:Nat) (i:Nat) (A:List Nat) (H:Heap):Prop:=i=0∧A=[h,h+3]∧h+3<H.length∧H[h+3]? =some (q062 .ready h)∧Eng.boxAt H h=some [.nils]
def lsF (L:List (List Piece)) (h:Nat) (A:List Nat) (H:Heap):Prop:= ∃p v B,L[0]? =some p∧repP p v H B∧(∀k∈B,h≤k)∧H[h+3]? =some (q062 (.done .ret) h)∧Eng.boxAt H h=some [v]∧h+3<H.length
theorem q0h1 {p:List Piece} {v:V} {H K:Heap} {B:List Nat} (h:repP p v H B) (g:Stay B H K):repP p v K B:=by
 rcases h with h|⟨id,h1,h2,rfl⟩
 ·exact .inl h
 ·exact .inr ⟨id,h1,g.row h2 (by simp),rfl⟩
theorem q0ko {p:List Piece} {v:V} {H:Heap} {B:List Nat} (h:repP p v H B):v.oneB=true∧v.cells=[v]∧v.notL=true∧outL v=v∧v.outB=true∧normA v=v:=by
 rcases h with ⟨rfl,-⟩|⟨id,rfl,-,-⟩<;>exact ⟨rfl,rfl,rfl,rfl,rfl,rfl⟩
theorem q0z0 (L:List (List Piece)) (h:Nat):Eats repP (h+3) L (lsR h) (lsF L h):=by
 refine ⟨?_,?_,?_⟩
 ·rintro i A H K ⟨rfl,rfl,h1,h2,h3⟩ g
  exact ⟨rfl,rfl,by have:=g.1;omega,by rw [g.2 _ (by simp)];exact h2,g.box h3 (by simp)⟩
 ·rintro i A H ⟨rfl,rfl,h1,h2,h3⟩ k hk
  have:=q02s h3
  simp at hk;omega
 ·rintro i A H x v B hL ⟨rfl,rfl,h1,h2,h3⟩ hr hB
  obtain ⟨o1,o2,o3,o4,o5,o6⟩:=q0ko hr
  have hh:=q02s h3
  have ne:h+3≠h:=by omega
  have b2: ∀o,Eng.boxAt (H.set (h+3) o) h=some [.nils]:=fun o=>(q01b H (h+3) h o ne).trans h3
  refine ⟨false,((H.set (h+3) (q062 .busy h)).set h (.box [v])).set (h+3) (q062 (.done .ret) h),[h,h+3],[h,h+3]++B,?_,by simp,?_,fun k hk=> .inl hk,fun k hk=> ?_,(fun e=>nomatch e),fun _=> ?_⟩
  ·have hs2: ∀o:DObj,((H.set (h+3) (q062 .busy h)).set h o)[h+3]? =some (q062 .busy h):=fun o=>by
    rw [List.getElem?_set_ne (by omega)];exact List.getElem?_set_self h1
   refine q0cz h2 rfl (env1:=[(4,.ptr h 0),(5,v)]) (loc1:=[]) ?_ (x:= .ret) (env2:=[(4,.ptr h 0)]) (loc2:=[]) (d2:=[h,h+3]) ?_ (hs2 _)
   ·simp [lsEnv,q04w]
   ·simp [q04x,o1,o2,b2,q001,hh]
    rfl
  ·exact ((Keep.set _ _ _ _ (.inl (by simp))).trans (Keep.set [h,h+3] _ _ _ (.inl (by simp))) (fun k hk=> .inl hk)).trans (Keep.set [h,h+3] _ _ _ (.inl (by simp))) (fun k hk=> .inl hk)
  ·simp only [List.mem_append] at hk
   exact hk.imp id .inl
  ·refine ⟨x,v,B,hL,?_,fun k hk=> ?_,?_,?_,by simpa using h1⟩
   ·refine q0h1 hr ⟨by simp,fun k hk=> ?_⟩
    have:=hB k hk
    simp at this
    rw [List.getElem?_set_ne (by omega),List.getElem?_set_ne (by omega),List.getElem?_set_ne (by omega)]
   ·have:=(hB k hk).2;omega
   ·exact List.getElem?_set_self (by simpa using h1)
   ·rw [q01b _ _ _ _ (by omega)]
    exact q07c _ _ _ (by simpa using hh)
theorem q09o (l:List Note) (s:Spot) (o:spotB l s) (H:Heap):clD EE (.p (.fn 250)) [q00q l,vSpot s] H=some (q018 (q02l l s),none):=by
 have al:=fun H=>q0cb l s H
 obtain ⟨H1,hH1⟩: ∃H1,H1=H++[DObj.box [.nils],.box [q00q l],.box (cSpot s)]:=⟨_,rfl⟩
 have hl1:H1.length=H.length+3:=by simp [hH1]
 have e0:lsR H.length 0 [H.length,H.length+3] (H1++[q062 .ready H.length]):=by
  refine ⟨rfl,rfl,by simp [hl1],?_,?_⟩
  ·rw [←hl1];simp
  ·simp [hH1,List.append_assoc]
 obtain ⟨r,h1,A',hk,hd,hs,hR⟩:=q09n l s o.l1 o.l2 o.b o.n0 o.n1 o.li (H.length+1) (H.length+3) (q0z0 (q00j l s) H.length) e0 (by simp [hl1]) (by simp [hH1,List.append_assoc])
  (by rw [show H.length+1+1=H.length+2 by omega];simp [hH1,List.append_assoc]) (by simp) (by simp;omega)
 have hds:(dsOf r).foldr (addD H.length) []=[]:=q0ax fun k hk=>by
  rcases hd k hk with h|h
  ·simp at h;omega
  ·simp [hl1] at h;omega
 rw [q002 _ _ _ _ _ _ (noP _) fn250]
 have hv:(∃f,allV (H.length+1)= .p (.fn f))∨ ∃f u v,allV (H.length+1)= .fn (.func f) u v:= .inr ⟨_,_,_,rfl⟩
 have hloop:q062 .ready H.length= .loop .ready (outE [(4,.ptr H.length 0),(8,allV (H.length+1))]) [9] q04w q04x:=rfl
 rw [hloop,←hl1] at h1
 rw [hloop] at hR
 have fin: ∀ {st e ps' a' b'},(hpOf (H1++[DObj.loop .ready (outE [(4,.ptr H.length 0),(8,allV (H.length+1))]) [9] q04w q04x]) r)[H.length+3]? =some (.loop st e ps' a' b')→st≠ .busy→
   evD EE (.rangeFunc (.t 8) [9] q04w q04x) ⟨[(4,.ptr H.length 0),(8,allV (H.length+1))],[],H++[DObj.box [.nils],.box [q00q l],.box (cSpot s)],H.length,[]⟩=
    some (exSt st,⟨[(4,.ptr H.length 0),(8,allV (H.length+1))],[],(hpOf (H1++[DObj.loop .ready (outE [(4,.ptr H.length 0),(8,allV (H.length+1))]) [9] q04w q04x]) r).set (H.length+3) .dead,H.length,[]⟩):=by
  intro st e ps' a' b' hq hst
  have rg:=q0km (env:=[(4,.ptr H.length 0),(8,allV (H.length+1))]) (loc:=[]) (hp:=H1) (base:=H.length) (dirty:=[]) (x:= .t 8) (ps:=[9]) hv rfl h1 (by rw [hl1];exact hq) hst
  rw [hds,hl1] at rg
  rw [←hH1];exact rg
 generalize hpOf (H1++[DObj.loop .ready (outE [(4,.ptr H.length 0),(8,allV (H.length+1))]) [9] q04w q04x]) r=K at hR fin
 rcases hR with ⟨h0,-,hlt,hq,hb⟩|⟨p,v,B,hL,hr,hB,hq,hb,hlt⟩
 ·have rg:=fin hq (by simp)
  have hnil:q02l l s=[]:=by unfold q02l;rw [List.length_eq_zero_iff.1 h0];rfl
  rw [hnil]
  have b2: ∀o,Eng.boxAt (K.set (H.length+3) o) H.length=some [.nils]:=fun o=>(q01b _ _ _ _ (by omega)).trans hb
  have hlt2:=q02s hb
  have b3: ∀o cs,Eng.boxAt ((K.set (H.length+3) o).set H.length (.box cs)) H.length=some cs:=fun o cs=>q07c _ _ _ (by simpa using hlt2)
  simp [St.enter,q000,subs,q001,al,rg,exSt,b2,b3,hlt2]
 ·have rg:=fin hq (by simp)
  have hp:q02l l s=p:=by
   unfold q02l
   cases hc:q00j l s with
   |nil=>rw [hc] at hL;cases hL
   |cons x r=>rw [hc] at hL;simpa using hL
  rw [hp]
  have b2: ∀o,Eng.boxAt (K.set (H.length+3) o) H.length=some [v]:=fun o=>(q01b _ _ _ _ (by omega)).trans hb
  rcases hr with ⟨rfl,-⟩|⟨id,rfl,h2,rfl⟩
  ·simp [St.enter,q000,subs,q001,al,rg,exSt,b2]
  ·have hid:H.length≤id:=hB id (by simp)
   have ne:id≠H.length+3:=by
    rintro rfl
    unfold Eng.rowAt at h2
    rw [hq] at h2;cases h2
   have hr2: ∀o,Eng.rowAt (K.set (H.length+3) o) id=some (3,upV (p.map q00c)):=fun o=>(q0ai _ _ _ _ (Ne.symm ne)).trans h2
   simp [St.enter,q000,subs,q001,al,rg,exSt,b2,hr2,hid]
section
variable {α:Type} [DecidableEq α] {E:Env} (f:FuncId) (s:Nat) (sh:List Bool) (enc:α→List PV)
theorem q0B7 (hp:E.prims f=none) (hf:E.fns f=some (eqI s sh)) (hs: ∀x,(enc x).length=s) (hagg: ∀x,aggOr true ((enc x).map .p)=some (.agg ((enc x).map .p))) (heq: ∀x y,q009 sh ((enc x).map .p) ((enc y).map .p)=some (decide (x=y)))
  (a b:List α) (hn:a.length≤9223372036854775806) (H:Heap) (id:Nat) (hr:Eng.rowAt H id=some (s,upV (a.map enc))):clD E (.p (.fn f)) [.row id a.length 0 a.length,.p (.sl (b.map enc))] H=some (vB (decide (a=b)),none):=by
 rw [q002 E f _ _ _ _ hp hf]
 by_cases hl:a.length=b.length
 ·have key:evD E (eqL s sh) (eqE (.row id a.length 0 a.length) (.p (.sl (b.map enc))) a.length H H.length 0)=some (rng (step2 (fun x y=>decide (x=y)) b (eqBad H H.length)) (fun _=>eqX (.row id a.length 0 a.length) (.p (.sl (b.map enc))) a.length H H.length) () 0 a):=by
   unfold eqL
   refine q027 a (fun (_:Unit) i=>eqE (.row id a.length 0 a.length) (.p (.sl (b.map enc))) a.length H H.length i) (fun _ _=>True) _ (fun _=>eqX (.row id a.length 0 a.length) (.p (.sl (b.map enc))) a.length H H.length) (fun _ _=>rfl) ?_ ?_ () 0 trivial (Nat.zero_le _)
   ·rintro _ i x-hx
    have hlt:=(List.getElem?_eq_some_iff.1 hx).1
    have hy:b[i]? =some (b[i]'(by omega)):=List.getElem?_eq_getElem (by omega)
    generalize (b[i]'(by omega))=y at hy
    have w:IntKind.i64.wrap ((i:Int)+1)=((i+1:Nat):Int):=w64 (by omega) (by omega)
    have hix:=fun k=>q017 H id a.length 0 a.length s k i
    have hg2:(upV (a.map enc))[i]? =some ((enc x).map .p):=by simp [upV,hx]
    have hg: ∀h,(upV (a.map enc))[i]'h=(enc x).map .p:=fun h=>by rw [List.getElem?_eq_getElem h] at hg2;exact Option.some.inj hg2
    have hiy:=fun H k=>q00z H enc (k:=k) (s:=s) hy (hs y)
    have hsub: ∀x,subs ((enc x).map V.p) 0 s=some ((enc x).map V.p):=fun x=>by simp [subs,hs x,List.take_of_length_le]
    rw [q05c hy]
    by_cases hxy:x=y
    ·simp [eqE,hlt,hix,hr,hg,hiy,hsub,hagg,heq,hxy,w]
    ·simp [eqE,eqBad,hlt,hix,hr,hg,hiy,hsub,hagg,heq,hxy]
   ·rintro _-
    simp [eqE,eqX]
  rw [q06v (fun x y=>decide (x=y)) b (eqBad H H.length) (eqX (.row id a.length 0 a.length) (.p (.sl (b.map enc))) a.length H H.length) a 0 (by omega),List.drop_zero,q087 a b hl] at key
  have hl':(a.length:Int)=b.length:=by omega
  by_cases h:a=b
  ·rw [if_pos (by simpa using h)] at key
   subst h
   simp [eqE,eqX] at key
   simp [St.enter,q000,key]
  ·rw [if_neg (by simpa using h)] at key
   have hl2:(b.length:Int)=a.length:=hl'.symm
   simp [eqE,eqBad] at key
   simp [St.enter,q000,hl2,key,h]
 ·have hl': ¬(a.length:Int)=b.length:=by omega
  have h:a≠b:=by rintro rfl;exact hl rfl
  simp [St.enter,q000,hl',h]
end
def syEnv (h:Nat):List (Nat×V):=[(5,.ptr h 0),(6,.ptr (h+1) 0),(10,allV (h+2))]
def q063 (st:LSt) (h:Nat):DObj:= .loop st (syEnv h) [11] q04b q04c
def syR (L:List (List Piece)) (x:List Piece) (h:Nat) (i:Nat) (A:List Nat) (H:Heap):Prop:=
 A=[h,h+1,h+4]∧h+4<H.length∧H[h+4]? =some (q063 .ready h)∧Eng.boxAt H h=some [q018 x]∧Eng.boxAt H (h+1)=some [vB false]∧ ∀k p,k<i→L[k]? =some p→p≠x
def syF (L:List (List Piece)) (x:List Piece) (h:Nat) (A:List Nat) (H:Heap):Prop:=
 A=[h,h+1,h+4]∧h+4<H.length∧H[h+4]? =some (q063 (.done .ret) h)∧Eng.boxAt H (h+1)=some [vB true]∧x∈L
theorem q0vp (p x:List Piece) (v:V) (H:Heap) (B:List Nat) (h:repP p v H B) (hp:p.length≤1000000):clD EE (.p (.fn 272)) [v,q018 x] H=some (vB (decide (p=x)),none):=by
 rcases h with ⟨rfl,-⟩|⟨id,rfl,hr,-⟩
 ·exact q0au p x hp H
 ·rw [q002 _ _ _ _ _ _ (noP _) fn272]
  have:=q0B7 _ 3 _ q00c (noP _) q0c6 (fun _=>rfl) (fun _=>rfl) q07r p x (by omega) H id hr
  simp [St.enter,q000,this]
theorem q0z1 (L:List (List Piece)) (hL: ∀p∈L,p.length≤1000000) (x:List Piece) (h:Nat):Eats repP (h+4) L (syR L x h) (syF L x h):=by
 refine ⟨?_,?_,?_⟩
 ·rintro i A H K ⟨rfl,h1,h2,h3,h4,h5⟩ g
  exact ⟨rfl,by have:=g.1;omega,by rw [g.2 _ (by simp)];exact h2,g.box h3 (by simp),g.box h4 (by simp),h5⟩
 ·rintro i A H ⟨rfl,h1,h2,h3,h4,h5⟩ k hk
  have:=q02s h3
  simp at hk;omega
 ·rintro i A H p v B hLi ⟨rfl,h1,h2,h3,h4,h5⟩ hr hB
  obtain ⟨o1,o2,o3,o4,o5,o6⟩:=q0ko hr
  have hh:=q02s h4
  have b2: ∀o,Eng.boxAt (H.set (h+4) o) h=some [q018 x]:=fun o=>(q01b H (h+4) h o (by omega)).trans h3
  have b3: ∀o,Eng.boxAt (H.set (h+4) o) (h+1)=some [vB false]:=fun o=>(q01b H (h+4) (h+1) o (by omega)).trans h4
  have hpm:=List.mem_of_getElem? hLi
  have sm:=fun o=>q0vp p x v (H.set (h+4) o) B (q0h1 hr (Stay.set _ _ _ _ (fun hk=>(hB _ hk).1 (by simp)))) (hL p hpm)
  by_cases c:p=x
  ·refine ⟨false,((H.set (h+4) (q063 .busy h)).set (h+1) (.box [vB true])).set (h+4) (q063 (.done .ret) h),[h+1,h+4],[h,h+1,h+4],?_,by simp,?_,fun k hk=> .inl (by simp at hk⊢;omega),fun k hk=> .inl hk,(fun e=>nomatch e),fun _=> ?_⟩
   ·refine q0cz h2 rfl (env1:=[(5,.ptr h 0),(6,.ptr (h+1) 0),(7,v)]) (loc1:=[]) ?_ (x:= .ret) (env2:=[(6,.ptr (h+1) 0)]) (loc2:=[]) (d2:=[h+1,h+4]) ?_ (by rw [List.getElem?_set_ne (by omega)];exact List.getElem?_set_self h1)
    ·simp [syEnv,q04b]
    ·simp [q04c,b2,b3,sm,c,o5,o6,q001,subs,hh]
     rfl
   ·exact ((Keep.set _ _ _ _ (.inl (by simp))).trans (Keep.set [h,h+1,h+4] _ _ _ (.inl (by simp))) (fun k hk=> .inl hk)).trans (Keep.set [h,h+1,h+4] _ _ _ (.inl (by simp))) (fun k hk=> .inl hk)
   ·refine ⟨rfl,by simpa using h1,List.getElem?_set_self (by simpa using h1),?_,c▸hpm⟩
    rw [q01b _ _ _ _ (by omega)]
    exact q07c _ _ _ (by simpa using hh)
  ·refine ⟨true,(H.set (h+4) (q063 .busy h)).set (h+4) (q063 .ready h),[h+4],[h,h+1,h+4],?_,by simp,?_,fun k hk=> .inl (by simp at hk⊢;omega),fun k hk=> .inl hk,fun _=> ?_,(fun e=>nomatch e)⟩
   ·refine q0cz h2 rfl (env1:=[(5,.ptr h 0),(6,.ptr (h+1) 0),(7,v)]) (loc1:=[]) ?_ (x:= .normal) (env2:=[(6,.ptr (h+1) 0),(14,vB false)]) (loc2:=[]) (d2:=[h+4]) ?_ (List.getElem?_set_self h1)
    ·simp [syEnv,q04b]
    ·simp [q04c,b2,b3,sm,c,o5,o6,q001,subs,hh]
     rfl
   ·exact (Keep.set _ _ _ _ (.inl (by simp))).trans (Keep.set [h,h+1,h+4] _ _ _ (.inl (by simp))) (fun k hk=> .inl hk)
   ·refine ⟨rfl,by simpa using h1,List.getElem?_set_self (by simpa using h1),?_,?_,fun k p' hk hp'=> ?_⟩
    ·rw [q01b _ _ _ _ (by omega)];exact b2 _
    ·rw [q01b _ _ _ _ (by omega)];exact b3 _
    ·by_cases e:k=i
     ·subst e;rw [hLi] at hp';cases hp';exact c
     ·exact h5 k p' (by omega) hp'
theorem q0cd {l:List Note} {s:Spot} (o:spotB l s): ∀p∈q00j l s,p.length≤1000000:=by
 intro p hp
 have wl: ∀(k:Nat) (a b:Int),(q01y l k a b).length=k:=by
  intro k
  induction k with
  |zero=>intro a b;rfl
  |succ k ih=>intro a b;simp [q01y,ih]
 have hn:openN l s≤1000000:=by
  rw [q0bk o.b o.n0 o.li]
  have:=o.b;have:=o.n0;have:=o.l1;omega
 unfold q00j at hp
 rcases List.mem_append.1 hp with h|h
 ·split at h
  ·simp at h;subst h;simp
  ·cases h
 ·split at h
  ·cases h
  ·obtain ⟨t,-,rfl⟩:=List.mem_map.1 h
   unfold oneP
   rw [List.length_append,wl]
   simp only [List.length_cons,List.length_nil]
   omega
theorem q0ce (l:List Note) (s:Spot) (o:spotB l s) (x:List Piece) (H:Heap):clD EE (.p (.fn 262)) [q00q l,vSpot s,q018 x] H=some (vB (mayPc l s x),none):=by
 have al:=fun H=>q0cb l s H
 obtain ⟨H1,hH1⟩: ∃H1,H1=H++[DObj.box [q018 x],.box [vB false],.box [q00q l],.box (cSpot s)]:=⟨_,rfl⟩
 have hl1:H1.length=H.length+4:=by simp [hH1]
 have e0:syR (q00j l s) x H.length 0 [H.length,H.length+1,H.length+4] (H1++[q063 .ready H.length]):=by
  refine ⟨rfl,by simp [hl1],?_,?_,?_,fun k p hk=>by omega⟩
  ·rw [←hl1];simp
  ·simp [hH1,List.append_assoc]
  ·simp [hH1,List.append_assoc]
 obtain ⟨r,h1,A',hk,hd,hs,hR⟩:=q09n l s o.l1 o.l2 o.b o.n0 o.n1 o.li (H.length+2) (H.length+4) (q0z1 (q00j l s) (q0cd o) x H.length) e0 (by simp [hl1]) (by simp [hH1,List.append_assoc])
  (by rw [show H.length+2+1=H.length+3 by omega];simp [hH1,List.append_assoc]) (by simp) (by simp;omega)
 have hds:(dsOf r).foldr (addD H.length) []=[]:=q0ax fun k hk=>by
  rcases hd k hk with h|h
  ·simp at h;omega
  ·simp [hl1] at h;omega
 rw [q002 _ _ _ _ _ _ (noP _) fn262]
 have hv:(∃f,allV (H.length+2)= .p (.fn f))∨ ∃f u v,allV (H.length+2)= .fn (.func f) u v:= .inr ⟨_,_,_,rfl⟩
 have hloop:q063 .ready H.length= .loop .ready (outE [(5,.ptr H.length 0),(6,.ptr (H.length+1) 0),(10,allV (H.length+2))]) [11] q04b q04c:=rfl
 rw [hloop,←hl1] at h1
 rw [hloop] at hR
 have fin: ∀ {st e ps' a' b'},(hpOf (H1++[DObj.loop .ready (outE [(5,.ptr H.length 0),(6,.ptr (H.length+1) 0),(10,allV (H.length+2))]) [11] q04b q04c]) r)[H.length+4]? =some (.loop st e ps' a' b')→st≠ .busy→
   evD EE (.rangeFunc (.t 10) [11] q04b q04c) ⟨[(5,.ptr H.length 0),(6,.ptr (H.length+1) 0),(10,allV (H.length+2))],[],H++[DObj.box [q018 x],.box [vB false],.box [q00q l],.box (cSpot s)],H.length,[]⟩=
    some (exSt st,⟨[(5,.ptr H.length 0),(6,.ptr (H.length+1) 0),(10,allV (H.length+2))],[],(hpOf (H1++[DObj.loop .ready (outE [(5,.ptr H.length 0),(6,.ptr (H.length+1) 0),(10,allV (H.length+2))]) [11] q04b q04c]) r).set (H.length+4) .dead,H.length,[]⟩):=by
  intro st e ps' a' b' hq hst
  have rg:=q0km (env:=[(5,.ptr H.length 0),(6,.ptr (H.length+1) 0),(10,allV (H.length+2))]) (loc:=[]) (hp:=H1) (base:=H.length) (dirty:=[]) (x:= .t 10) (ps:=[11]) hv rfl h1 (by rw [hl1];exact hq) hst
  rw [hds,hl1] at rg
  rw [←hH1];exact rg
 generalize hpOf (H1++[DObj.loop .ready (outE [(5,.ptr H.length 0),(6,.ptr (H.length+1) 0),(10,allV (H.length+2))]) [11] q04b q04c]) r=K at hR fin
 rcases hR with ⟨-,hlt,hq,-,hb,hno⟩|⟨-,hlt,hq,hb,hin⟩
 ·have rg:=fin hq (by simp)
  have hm:mayPc l s x=false:=by
   cases e:mayPc l s x with
   |false=>rfl
   |true=>
    have:=(q051 _ _ _).1 e
    obtain ⟨k,hk,rfl⟩:=List.mem_iff_getElem.1 this
    exact absurd rfl (hno k _ hk (List.getElem?_eq_getElem hk))
  rw [hm]
  have hlt2:=q02s hb
  have b2: ∀o,Eng.boxAt (K.set (H.length+4) o) (H.length+1)=some [vB false]:=fun o=>(q01b _ _ _ _ (by omega)).trans hb
  have b3: ∀o cs,Eng.boxAt ((K.set (H.length+4) o).set (H.length+1) (.box cs)) (H.length+1)=some cs:=fun o cs=>q07c _ _ _ (by simpa using hlt2)
  simp [St.enter,q000,subs,q001,al,rg,exSt,b2,b3,hlt2]
 ·have rg:=fin hq (by simp)
  rw [(q051 _ _ _).2 hin]
  have b2: ∀o,Eng.boxAt (K.set (H.length+4) o) (H.length+1)=some [vB true]:=fun o=>(q01b _ _ _ _ (by omega)).trans hb
  simp [St.enter,q000,subs,q001,al,rg,exSt,b2]
def q03p (j:Job) (s:Stt) (n:C3):Option Colm:=
 if s.h.a<n.a then some ⟨2,s.at_,s.at_,[],takeL j.floats s.h ⟨1,0,0⟩,[]⟩
 else if s.h.b<n.b then some ⟨2,s.at_,s.at_,[],takeL j.floats s.h ⟨0,1,0⟩,[]⟩
 else if s.h.c<n.c then some ⟨2,s.at_,s.at_,[],takeL j.floats s.h ⟨0,0,1⟩,[]⟩
 else none
def openS (j:Job) (s:Stt):Bool:=q01c j s&& !doneS j s
def textC (j:Job) (s:Stt):Option Colm:=
 if openS j s=true∧q02f j s=true∧s.at_<j.items.length then some ⟨1,s.at_,q015 j.items s.at_,q02l j.notes (spotS j s (q015 j.items s.at_)),[],[]⟩ else none
def noteC (j:Job) (s:Stt):Option Colm:=
 if openS j s=true∧s.at_=j.items.length∧s.note≠j.notes.length then some ⟨3,s.at_,s.at_,q02l j.notes (q01q (spotS j s s.at_)),[],[]⟩ else none
def dueC (j:Job) (s:Stt):Option Colm:=if openS j s=true then q03p j s (dueF j s.at_) else none
def q08g (j:Job) (s:Stt):Option Colm:=if openS j s=true then q03p j s (q00v j s.at_) else none
def q01t (j:Job) (s:Stt):Option Colm:=(textC j s).or ((dueC j s).or ((noteC j s).or (q08g j s)))
def q02c (j:Job) (s:Stt) (c:Colm):C3:=addC (addC s.h (ofL j.floats c.top)) (ofL j.floats c.bot)
def setF (j:Job) (s:Stt) (c:Colm) (to:Int):Bool:=
 nextQ j.floats s.h c.top&&nextQ j.floats (addC s.h (ofL j.floats c.top)) c.bot&&inC (q02c j s c) (q00v j to)
def fitsC (j:Job) (c:Colm):Bool:=fitT j.g j.floats c.top&&fitB j.g j.floats c.bot
def textE (j:Job) (s:Stt) (c:Colm):Int:=
 if q02f j s=false then 18 else if (brkF j.items s.at_).contains c.to=false then 14
 else if mayPc j.notes (spotS j s c.to) c.notes=false then 15 else if setF j s c c.to=false∨fitsC j c=false then 16 else 0
def q0eg (j:Job) (s:Stt) (c:Colm):Int:=
 if c.notes≠[] then 15 else if c.top=[]∨8<c.top.length∨c.bot≠[]∨setF j s c s.at_=false∨(q01x j s c).over=true then 16 else 0
def noteE (j:Job) (s:Stt) (c:Colm):Int:=
 if c.notes=[]∨mayPc j.notes (q01q (spotS j s s.at_)) c.notes=false then 15 else if c.top≠[]∨c.bot≠[] then 16 else 0
def endE (j:Job) (s:Stt) (c:Colm):Bool:=
 decide (openS j s=false∨c.k<1∨3<c.k∨c.frm≠s.at_∨(c.k=1∧s.at_=j.items.length)∨(c.k≠1∧c.to≠s.at_)∨(c.k=3∧s.at_≠j.items.length))
def kindE (j:Job) (s:Stt) (c:Colm):Int:=if c.k=1 then textE j s c else if c.k=2 then q0eg j s c else noteE j s c
def q02d:Colm:=⟨0,0,0,[],[],[]⟩
def q02t (j:Job) (s:Stt) (c:Colm):Int:=
 if endE j s c=true then 19 else if kindE j s c≠0 then kindE j s c
 else if (q01x j s c).over=true∧sameC c ((q01t j s).getD q02d)=false then 17 else 0
theorem q0sc (fs:List Float): ∀(xs:List Int) (s:C3),leC s (xs.foldl (ofS fs) s)∧(xs.foldl (ofS fs) s).a≤s.a+xs.length∧(xs.foldl (ofS fs) s).b≤s.b+xs.length∧(xs.foldl (ofS fs) s).c≤s.c+xs.length
 |[],s=>by simp [leC]
 |x::r,s=>by
  have h:=q0sc fs r (ofS fs s x)
  have e:leC s (ofS fs s x)∧(ofS fs s x).a≤s.a+1∧(ofS fs s x).b≤s.b+1∧(ofS fs s x).c≤s.c+1:=by
   unfold ofS bump leC
   (repeat' split)<;>(try simp only)<;>omega
  simp only [List.foldl_cons,List.length_cons]
  unfold leC at*
  push_cast
  omega
theorem q0kp (fs:List Float) (xs:List Int):leC zeroC (ofL fs xs)∧(ofL fs xs).a≤xs.length∧(ofL fs xs).b≤xs.length∧(ofL fs xs).c≤xs.length:=by
 have:=q0sc fs xs ⟨0,0,0⟩
 unfold ofL
 unfold leC zeroC at*
 simp only at*
 omega
theorem q0z2 {x y:C3} (hx:leC zeroC x) (hy:leC zeroC y) (bx:x.a≤1000000∧x.b≤1000000∧x.c≤1000000):leC x (addC x y):=by
 unfold leC zeroC addC zipF held big at*
 simp only at*
 omega
theorem q0fk {a b q:Int} (ha:0≤a) (hb:0≤b) (h:held (held a (-big) big+held b (-big) big) (-big) big≤q) (hq:q≤1000000):a≤held (held a (-big) big+held b (-big) big) (-big) big:=by
 unfold held big at*
 omega
theorem q0nh {x y q:C3} (hx:leC zeroC x) (hy:leC zeroC y) (h:leC (addC x y) q) (hq:q.a≤1000000∧q.b≤1000000∧q.c≤1000000):leC x (addC x y):=
 ⟨q0fk hx.1 hy.1 h.1 hq.1,q0fk hx.2.1 hy.2.1 h.2.1 hq.2.1,q0fk hx.2.2 hy.2.2 h.2.2 hq.2.2⟩
theorem q0kq {a:Int} (ha:0≤a) (hq:a≤1000000):held (held a (-big) big+held 0 (-big) big) (-big) big=a:=by
 unfold held big at*
 omega
theorem q0kr {x:C3} (h:leC zeroC x) (b:x.a≤1000000∧x.b≤1000000∧x.c≤1000000):addC x zC=x:=by
 obtain ⟨h1,h2,h3⟩:=h
 unfold addC zipF
 rw [show (zC).a=0 from rfl,show (zC).b=0 from rfl,show (zC).c=0 from rfl,q0kq h1 b.1,q0kq h2 b.2.1,q0kq h3 b.2.2]
theorem q04p {j:Job} (w:okW j) (n:Int):leC zeroC (q00v j n)∧(q00v j n).a≤1000000∧(q00v j n).b≤1000000∧(q00v j n).c≤1000000:=by
 unfold q00v
 have h:=q0go j.floats (j.items.take (putN j.items n))
 have hl:((j.items.take (putN j.items n)).length:Int)≤1000000:=by
  have:=w.n1
  rw [List.length_take]
  omega
 unfold leC zeroC
 simp only
 omega
theorem q08h {x:C3} (h:leC zeroC x) (b:x.a≤1000000∧x.b≤1000000∧x.c≤1000000):sumC x=x.a+x.b+x.c:=by
 unfold sumC held big leC zeroC at*
 simp only at*
 omega
theorem q0fl {l:List Item} {a t:Int} (h0:0≤a) (h:t∈brkF l a):a<t∧t≤l.length∧mayV l t=true∧t≤q02k l a:=by
 unfold brkF at h
 obtain ⟨m,hm,rfl⟩:=List.mem_map.1 h
 unfold brkN at hm
 rw [List.mem_filter,List.mem_range'] at hm
 obtain ⟨⟨i,hi,rfl⟩,h2⟩:=hm
 simp only [Bool.and_eq_true,decide_eq_true_eq] at h2
 unfold mayN at h2
 unfold pos at*
 simp only [Int.ofNat_eq_natCast]
 exact ⟨by omega,by omega,h2.2,h2.1⟩
theorem q0eh {j:Job} {s:Stt} (r:rightP j s):q02g j s=s.at_+progN j.notes s.note s.line+sumC s.h:=by
 unfold q02g progN
 rw [if_pos ((q01g j s).2 r)]
 omega
theorem q05q {j:Job} {s:Stt} (r:rightP j s) (to:Int):spotS j s to=⟨s.note,s.line,q00i j to,decide (q00i j s.at_<q00i j to)⟩:=by
 unfold spotS
 rw [if_pos ((q01g j s).2 r)]
theorem q0p8 (l:List Item) (n:Int):trimF l (trimF l n)=trimF l n:=by
 have h:=q0az l n
 unfold trimF at*
 rw [h,q0oj]
theorem q0vq {l:List Item} {n:Int} (h0:0≤n) (h1:n≤l.length):n≤trimF l n:=by
 unfold trimF
 have:=q0v1 l (putN l n)
 have e:(putN l n:Int)=n:=by unfold putN;omega
 omega
theorem q0fm {j:Job} (w:wfJ j) {s:Stt} (r:rightP j s) {c:Colm} {b:Int} {fr:Bool} {at':Int} (e0:nextF j.notes (spotS j s c.to) c.notes=nextF j.notes ⟨s.note,s.line,b,fr⟩ c.notes)
  (ha:at'=if c.k=1 then (trimF j.items c.to:Int) else s.at_) (hb:b=q00i j at') (hle:s.at_≤at') (ht:(trimF j.items at':Int)=at') (hle2:at'≤j.items.length) (hf:fr=false→b≤q00i j s.at_)
  (hp:c.notes∈q00j j.notes ⟨s.note,s.line,b,fr⟩) (hh:leC (q02c j s c) (q00v j at')):
  rightP j (nextS j s c)∧q02g j s+(at'-s.at_)≤q02g j (nextS j s c)∧(c.notes≠[]∨s.at_<at'∨sumC s.h<sumC (q02c j s c)→q02g j s<q02g j (nextS j s c)):=by
 have hr:=(q01g j s).2 r
 obtain ⟨g1,g2,g3⟩:=q0sb w r (p:=c.notes) (b:=b) (fr:=fr) (by rw [hb];exact q0p5 j hle) (by rw [hb];exact q03h w.w _) hf hp
 have e:nextS j s c=⟨at',min (s.col+1) j.g.cols,(nextF j.notes ⟨s.note,s.line,b,fr⟩ c.notes).1,(nextF j.notes ⟨s.note,s.line,b,fr⟩ c.notes).2,q02c j s c⟩:=by
  unfold nextS
  rw [if_pos hr,e0,←ha];rfl
 have bd:=q04p w.w s.at_
 have bd2:=q04p w.w at'
 have o1:=q0kp j.floats c.top
 have o2:=q0kp j.floats c.bot
 have hb1:s.h.a≤1000000∧s.h.b≤1000000∧s.h.c≤1000000:=by
  have:=r.h1
  unfold leC at this
  omega
 have m1:leC s.h (addC s.h (ofL j.floats c.top)):=q0z2 r.h0 o1.1 hb1
 have z1:leC zeroC (addC s.h (ofL j.floats c.top)):=q023 r.h0 m1
 have m2:leC (addC s.h (ofL j.floats c.top)) (q02c j s c):=q0nh z1 o2.1 hh ⟨bd2.2.1,bd2.2.2.1,bd2.2.2.2⟩
 have z2:=q023 z1 m2
 have hs2:(q02c j s c).a≤1000000∧(q02c j s c).b≤1000000∧(q02c j s c).c≤1000000:=by
  unfold leC at hh;omega
 have s1:=q08h r.h0 hb1
 have s2:=q08h z2 hs2
 have mm:=q023 m1 m2
 have rn:rightP j (nextS j s c):=by
  rw [e]
  refine ⟨by have:=r.at0;simp only;omega,hle2,ht,by have:=r.col0;have:=w.cols;simp only;omega,by simp only;omega,?_,z2,hh⟩
  rw [q07s]
  simp only
  rcases g1 with ⟨a,b'⟩|⟨a,b',c',d,f⟩
  ·exact .inl ⟨a,by rw [b',hb]⟩
  ·exact .inr ⟨a,by rw [b',hb],c',d,f⟩
 have q1:=q0eh r
 have q2:=q0eh rn
 rw [e] at q2
 rw [e] at rn⊢
 simp only at q2
 refine ⟨rn,?_,?_⟩
 ·unfold leC at mm;omega
 ·intro h
  unfold leC at mm
  rcases h with h|h|h
  ·have:=g3 h;omega
  ·omega
  ·omega
theorem q0p9 {j:Job} (w:wfJ j) {s:Stt} {c:Colm} (h:q02t j s c=0):rightP j s∧rightP j (nextS j s c)∧q02g j s<q02g j (nextS j s c):=by
 unfold q02t at h
 by_cases he:endE j s c=true
 ·rw [if_pos he] at h;cases h
 rw [if_neg he] at h
 by_cases hk:kindE j s c≠0
 ·rw [if_pos hk] at h;exact absurd h hk
 have hk:kindE j s c=0:=by omega
 unfold endE at he
 simp only [decide_eq_true_eq,not_or,not_and,Bool.not_eq_false,Int.not_lt] at he
 obtain ⟨e1,e2,e3,e4,e5,e6,e7⟩:=he
 unfold openS at e1
 simp only [Bool.and_eq_true] at e1
 have r:=(q01g j s).1 e1.1
 refine ⟨r,?_⟩
 unfold kindE at hk
 by_cases k1:c.k=1
 ·rw [if_pos k1] at hk
  unfold textE at hk
  split at hk
  ·cases hk
  split at hk
  ·cases hk
  split at hk
  ·cases hk
  split at hk
  ·cases hk
  rename_i f1 f2 f3 f4
  simp only [Bool.not_eq_false,not_or] at f1 f2 f3 f4
  have hm:=q0fl r.at0 (by simpa using f2)
  have hp:=(q051 _ _ _).1 f3
  rw [q05q r] at hp
  have hset:=f4.1
  unfold setF at hset
  simp only [Bool.and_eq_true,q06h] at hset
  have hge:=q0vq (l:=j.items) (n:=c.to) (by have:=r.at0;omega) hm.2.1
  have hlt:s.at_<trimF j.items c.to:=by omega
  have:=q0fm w r (c:=c) (b:=q00i j c.to) (fr:=decide (q00i j s.at_<q00i j c.to)) (at':=trimF j.items c.to) (by rw [q05q r]) (by rw [if_pos k1])
   (q0p3 j c.to).symm (by omega) (by rw [q0p8]) (by have:=q0ka j.items c.to;omega) (fun h=>by simpa using h) hp (by rw [q0p4];exact hset.2)
  exact ⟨this.1,this.2.2 (.inr (.inl hlt))⟩
 ·rw [if_neg k1] at hk
  have hto:=e6 k1
  by_cases k2:c.k=2
  ·rw [if_pos k2] at hk
   unfold q0eg at hk
   split at hk
   ·cases hk
   split at hk
   ·cases hk
   rename_i f1 f2
   simp only [not_or,Bool.not_eq_false,ne_eq,Decidable.not_not] at f1 f2
   obtain ⟨f2,f3,f4,f5,f6⟩:=f2
   unfold setF at f5
   simp only [Bool.and_eq_true,q06h] at f5
   have hp:c.notes∈q00j j.notes ⟨s.note,s.line,q00i j s.at_,false⟩:=by
    rw [f1]
    unfold q00j
    rw [if_pos (.inr rfl)];simp
   have:=q0fm w r (c:=c) (b:=q00i j s.at_) (fr:=false) (at':=s.at_) (by rw [f1,q0ay,q0ay,q05q r]) (by rw [if_neg k1])
    rfl (Int.le_refl _) r.trim r.at1 (fun _=>Int.le_refl _) hp f5.2
   refine ⟨this.1,this.2.2 (.inr (.inr ?_))⟩
   have hn:=f5.1.1
   unfold nextQ at hn
   simp only [Bool.and_eq_true,decide_eq_true_eq] at hn
   have hz:ofL j.floats c.top≠zC:=by
    intro hz
    rw [hz,q090] at hn
    exact f2 hn.2.symm
   have ok:=hn.1
   have o1:=(q0kp j.floats c.top).1
   have bd:=q04p w.w s.at_
   have hsm:=q0gc w.w.n3 ok
   have ebot:q02c j s c=addC (addC s.h (ofL j.floats c.top)) zC:=by unfold q02c;rw [f4];rfl
   have hh:=f5.2
   have h0:=r.h0
   have h1:=r.h1
   rw [hsm] at ebot
   have hz1:leC zeroC (plus s.h (ofL j.floats c.top)):=by
    have h0:=r.h0
    unfold leC zeroC plus at*
    simp only at*
    omega
   have hup:=q0nh (y:=zC) hz1 (q074 _) (ebot▸f5.2) ⟨bd.2.1,bd.2.2.1,bd.2.2.2⟩
   have hle:=q023 hup (ebot▸f5.2)
   have hs:(plus s.h (ofL j.floats c.top)).a≤1000000∧(plus s.h (ofL j.floats c.top)).b≤1000000∧(plus s.h (ofL j.floats c.top)).c≤1000000:=by
    unfold leC at hle;omega
   rw [ebot,q0kr hz1 hs,q08h hz1 hs,q08h r.h0 (by have:=r.h1;unfold leC at this;omega)]
   have hy:0<(ofL j.floats c.top).a+(ofL j.floats c.top).b+(ofL j.floats c.top).c:=by
    have: ¬((ofL j.floats c.top).a=0∧(ofL j.floats c.top).b=0∧(ofL j.floats c.top).c=0):=fun h=>hz (by
     revert h
     generalize ofL j.floats c.top=y
     obtain ⟨a,b,d⟩:=y
     rintro ⟨rfl,rfl,rfl⟩
     rfl)
    unfold leC zeroC at o1
    simp only at o1
    omega
   unfold plus
   simp only
   omega
  ·rw [if_neg k2] at hk
   unfold noteE at hk
   split at hk
   ·cases hk
   split at hk
   ·cases hk
   rename_i f1 f2
   simp only [not_or,Bool.not_eq_false,ne_eq,Decidable.not_not] at f1 f2
   have hp:=(q051 _ _ _).1 f1.2
   rw [q05q r] at hp
   unfold q01q at hp
   simp only at hp
   have hh:leC (q02c j s c) (q00v j s.at_):=by
    have e:q02c j s c=addC (addC s.h zC) zC:=by unfold q02c;rw [f2.1,f2.2];rfl
    rw [e]
    have h0:=r.h0
    have h1:=r.h1
    have bd:=q04p w.w s.at_
    generalize s.h=x at*
    generalize q00v j s.at_=q at*
    unfold leC zeroC addC zipF held big zC at*
    simp only at*
    omega
   have e0:nextF j.notes (spotS j s c.to) c.notes=nextF j.notes ⟨s.note,s.line,q00i j s.at_,true⟩ c.notes:=by
    unfold nextF
    cases hl:c.notes.getLast? with
    |none=>exact absurd (List.getLast?_eq_none_iff.1 hl) f1.1
    |some x=>rfl
   have:=q0fm w r (c:=c) (b:=q00i j s.at_) (fr:=true) (at':=s.at_) e0 (by rw [if_neg k1])
    rfl (Int.le_refl _) r.trim r.at1 (fun h=>by cases h) hp hh
   exact ⟨this.1,this.2.2 (.inl f1.1)⟩
theorem q0b1 {p:Nat→Bool}: ∀(k n m:Nat),n≤m→m<n+k→p m=true→seekP p k n≠ -1∧seekP p k n≤m
 |0,n,m,h1,h2,_=>by omega
 |k+1,n,m,h1,h2,h3=>by
  rw [seekP]
  by_cases q:p n=true
  ·rw [if_pos q];omega
  ·rw [if_neg q]
   have:n≠m:=fun e=>q (e▸h3)
   exact q0b1 k (n+1) m (by omega) (by omega) h3
theorem q0z3 {l:List Item} (h:1≤l.length):mayN l l.length=true:=by
 unfold mayN mayV
 rw [if_neg (by omega)]
 have:q033 l (l.length:Int)=none:=by unfold q033;rw [if_neg (by omega)]
 rw [this]
theorem q0vr {l:List Item} {n:Nat} (h1:1≤n) (h2:n≤l.length) (h:mustP l n=true):mayN l n=true:=by
 by_cases e:n=l.length
 ·subst e;exact q0z3 h1
 ·have hx:l[n]? =some (l[n]'(by omega)):=List.getElem?_eq_getElem (by omega)
  unfold mustP at h
  rw [hx] at h
  unfold mayN mayV
  rw [if_neg (by omega),q09a,hx]
  simp only at h⊢
  unfold q08c at h
  simp only [Bool.and_eq_true,decide_eq_true_eq] at h
  rw [if_neg (by omega),if_pos h.1]
  unfold forbX
  simp [h.1]
  omega
theorem q0h2 {l:List Item} {a:Int} (h0:0≤a) (h1:a<l.length):q015 l a∈brkF l a:=by
 have hp:(pos a:Int)=a:=by unfold pos;omega
 have hF:=q0b1 (p:=mustP l) (l.length-pos a) (pos a+1) l.length (by omega) (by omega) (by unfold mustP;rw [List.getElem?_eq_none (Nat.le_refl _)])
 have bF:=q09c (mustP l) (l.length-pos a) (pos a+1)
 change q02k l a≠ -1∧q02k l a≤_ at hF
 change q02k l a= -1∨_≤q02k l a∧q02k l a<_∧mustP l (q02k l a).toNat=true at bF
 rcases bF with bF|⟨b1,b2,b3⟩
 ·exact absurd bF hF.1
 have hm:=q0vr (n:=(q02k l a).toNat) (by omega) (by omega) b3
 have hB:=q0b1 (p:=mayN l) (l.length-pos a) (pos a+1) (q02k l a).toNat (by omega) (by omega) hm
 have bB:=q09c (mayN l) (l.length-pos a) (pos a+1)
 change q015 l a≠ -1∧q015 l a≤_ at hB
 change q015 l a= -1∨_≤q015 l a∧q015 l a<_∧mayN l (q015 l a).toNat=true at bB
 rcases bB with bB|⟨c1,c2,c3⟩
 ·exact absurd bB hB.1
 unfold brkF
 refine List.mem_map.2 ⟨(q015 l a).toNat,?_,by simp only [Int.ofNat_eq_natCast];omega⟩
 unfold brkN
 rw [List.mem_filter,List.mem_range']
 refine ⟨⟨(q015 l a).toNat-(pos a+1),by omega,by omega⟩,?_⟩
 simp only [Bool.and_eq_true,decide_eq_true_eq]
 exact ⟨by omega,c3⟩
theorem q0ks (fs:List Float) (h:C3) (g0:leC zeroC h) (g1:leC h (allC fs)):okT fs h zC:=by
 unfold okT okU leC zeroC allC zC at*
 simp only at*
 omega
theorem q0h3 {j:Job} (w:wfJ j) {s:Stt} (r:rightP j s):leC s.h (allC j.floats):=q023 r.h1 (q07h w.six _)
theorem q0vs {j:Job} (w:wfJ j) {s:Stt} (r:rightP j s) {c:Colm} (ht:c.top=[]) (hb:c.bot=[]) {to:Int} (h:s.at_≤to):setF j s c to=true:=by
 have ok:=q0ks _ _ r.h0 (q0h3 w r)
 have bd:=q04p w.w s.at_
 have hs:s.h.a≤1000000∧s.h.b≤1000000∧s.h.c≤1000000:=by have:=r.h1;unfold leC at this;omega
 have ez:=q0kr r.h0 hs
 have e0:ofL j.floats []=zC:=rfl
 have hn:nextQ j.floats s.h []=true:=by
  unfold nextQ
  rw [e0,q090]
  simp [ok]
 unfold setF q02c
 rw [ht,hb,e0,ez,ez,hn]
 simp only [Bool.true_and,q06h]
 exact q023 r.h1 (q0p6 j h)
theorem q0sd {j:Job} (w:wfJ j) {c:Colm} (ht:c.top=[]) (hb:c.bot=[]):fitsC j c=true:=by
 have m:=w.many
 unfold fitsC fitT fitB fitsF
 rw [ht,hb]
 have e:highQ j.floats [] j.g.sep=0:=rfl
 rw [e]
 simp [m.1,m.2.1,m.2.2.1,m.2.2.2]
theorem q0z4 {j:Job} (w:wfJ j) {s:Stt} (r:rightP j s) {y:C3} (hy0:leC zeroC y) (hy:leC (plus s.h y) (q00v j s.at_)) (hz:leC s.h (plus s.h y)) {c:Colm} (ht:c.top=takeL j.floats s.h y) (hb:c.bot=[]):
  setF j s c s.at_=true∧okT j.floats s.h y:=by
 have ok:okT j.floats s.h y:=by
  have h0:=r.h0
  have h1:=q023 hy (q07h w.six _)
  unfold okT okU leC zeroC allC plus at*
  simp only at*
  omega
 have bd:=q04p w.w s.at_
 have e1:ofL j.floats c.top=y:=by rw [ht,q0jk _ _ _ ok]
 have e0:ofL j.floats []=zC:=rfl
 have ep:addC s.h y=plus s.h y:=q0gc w.w.n3 ok
 have hp0:leC zeroC (plus s.h y):=q023 r.h0 hz
 have hp1:(plus s.h y).a≤1000000∧(plus s.h y).b≤1000000∧(plus s.h y).c≤1000000:=by
  have:=hy
  unfold leC at this;omega
 have ok2:=q0ks _ _ hp0 (q023 hy (q07h w.six _))
 refine ⟨?_,ok⟩
 unfold setF q02c
 rw [e1,hb,e0,ep,q0kr hp0 hp1]
 simp only [Bool.and_eq_true,q06h]
 refine ⟨⟨?_,?_⟩,hy⟩
 ·rw [ht];exact q0r1 _ _ _ ok
 ·unfold nextQ
  rw [e0,q090]
  simp [ok2]
theorem q0pa {j:Job} (w:wfJ j) {s:Stt} (r:rightP j s) {c:Colm} (hk:c.k=2) (hn:c.notes=[]) {x:Int} (ht:c.top=[x]):(q01x j s c).over=false:=by
 unfold q01x
 rw [if_pos ((q01g j s).2 r),if_neg (by omega)]
 have hf:fullC j c=false:=by unfold fullC;rw [hn];simp
 rw [hf]
 simp only [Bool.false_or,decide_eq_false_iff_not,Int.not_lt]
 unfold roomC q06g q08f
 rw [if_neg (by omega),if_pos hk,hn]
 have hh:highP j.notes [] j.g.rule=0:=rfl
 rw [hh]
 have hi:j.g.first≤highS j s∧highS j s≤4294967296:=by
  have:=w.high
  unfold highS
  rw [if_pos ((q01g j s).2 r)]
  split<;>omega
 have sp:=w.sep
 have key:highQ j.floats c.top j.g.sep=0∨(∃f∈j.floats,highQ j.floats c.top j.g.sep=hz (0+hz f.h+hz j.g.sep)):=by
  rw [ht]
  unfold highQ
  simp only [List.foldl_cons,List.foldl_nil,hiS]
  unfold atF
  by_cases q:0≤x∧x<j.floats.length
  ·rw [if_pos q]
   exact .inr ⟨_,q05n q.1 q.2,rfl⟩
  ·rw [if_neg q];exact .inl rfl
 have hi0:0≤highS j s:=by
  have:=w.high
  rcases key with _|⟨f,hf,_⟩
  ·unfold highS;rw [if_pos ((q01g j s).2 r)];have:=w.hi0;split<;>omega
  ·have:=w.fl f hf;omega
 rw [Int.sub_zero,w64 (n:=highS j s) (by omega) (by omega)]
 rcases key with e|⟨f,hf,e⟩
 ·rw [if_pos e,Int.sub_zero,w64 (by omega) (by omega)];exact hi0
 ·have hb:=w.fl f hf
  rw [e]
  have e1:hz (0+hz f.h+hz j.g.sep)=f.h+j.g.sep:=by unfold hz fz;omega
  rw [e1]
  have e2:min (max j.g.sep 0) 1125899906842624=j.g.sep:=by omega
  rw [e2]
  split
  ·rw [Int.sub_zero,w64 (by omega) (by omega)];exact hi0
  ·rw [show f.h+j.g.sep-j.g.sep=f.h by omega,w64 (n:=f.h) (by omega) (by omega),w64 (by omega) (by omega)]
   omega
theorem q05r (j:Job) (s:Stt):openS j s=true↔rightP j s∧doneS j s=false:=by
 unfold openS
 rw [Bool.and_eq_true,q01g,Bool.not_eq_true']
theorem q09e {j:Job} {s:Stt} {c:Colm} (he:endE j s c=false) (hk:kindE j s c=0) (ho:(q01x j s c).over=false∨q01t j s=some c):q02t j s c=0:=by
 unfold q02t
 rw [if_neg (by rw [he];simp),if_neg (by omega),if_neg]
 rintro ⟨h1,h2⟩
 rcases ho with h|h
 ·rw [h] at h1;cases h1
 ·rw [h,Option.getD_some] at h2
  unfold sameC at h2
  simp at h2
theorem q0vt {j:Job} {s:Stt} {y:C3} (ok:okT j.floats s.h y) (h1:y.a+y.b+y.c=1) (h0:leC zeroC y): ∃x,takeL j.floats s.h y=[x]:=by
 have:(takeL j.floats s.h y).length=1:=by
  unfold takeL raw
  rw [isort_len,List.length_append,List.length_append,q05l ok.1,q05l ok.2.1,q05l ok.2.2]
  unfold leC zeroC at h0
  simp only at h0
  omega
 match h:takeL j.floats s.h y,this with
 |[x],_=>exact ⟨x,rfl⟩
theorem q0cf {j:Job} (w:wfJ j) {s:Stt} (r:rightP j s) (hd:doneS j s=false) {n:C3} (hn2:leC n (q00v j s.at_)) {c:Colm} (h:q03p j s n=some c):
  endE j s c = false ∧ kindE j s c = 0 ∧ (q01x j s c).over = false ∧ c.frm = s.at_ ∧ ∃ x, c.top = [x] := by
 have key: ∀y:C3,c=⟨2,s.at_,s.at_,[],takeL j.floats s.h y,[]⟩→y.a+y.b+y.c=1→leC zeroC y→leC (plus s.h y) (q00v j s.at_)→leC s.h (plus s.h y)→endE j s c=false∧kindE j s c=0∧(q01x j s c).over=false∧c.frm=s.at_∧ ∃x,c.top=[x]:=by
  rintro y rfl h1 h0 hy hz
  obtain ⟨hs,ok⟩:=q0z4 w r h0 hy hz (c:=⟨2,s.at_,s.at_,[],takeL j.floats s.h y,[]⟩) rfl rfl
  obtain ⟨x,hx⟩:=q0vt ok h1 h0
  have ho:=q0pa w r (c:=⟨2,s.at_,s.at_,[],takeL j.floats s.h y,[]⟩) rfl rfl hx
  refine ⟨?_,?_,ho,rfl,x,hx⟩
  ·unfold endE
   rw [decide_eq_false_iff_not]
   simp [(q05r j s).2 ⟨r,hd⟩]
  ·unfold kindE q0eg
   rw [if_neg (by simp),if_pos rfl,if_neg (by simp),if_neg]
   rw [hs,ho]
   simp [hx]
 have h1:=r.h1
 unfold q03p at h
 split at h
 ·exact key ⟨1,0,0⟩ (Option.some.inj h).symm rfl (by simp [leC,zeroC]) (by unfold leC plus at*;simp only;omega) (by simp [leC,plus];omega)
 split at h
 ·exact key ⟨0,1,0⟩ (Option.some.inj h).symm rfl (by simp [leC,zeroC]) (by unfold leC plus at*;simp only;omega) (by simp [leC,plus];omega)
 split at h
 ·exact key ⟨0,0,1⟩ (Option.some.inj h).symm rfl (by simp [leC,zeroC]) (by unfold leC plus at*;simp only;omega) (by simp [leC,plus];omega)
 cases h
theorem q0ei {j:Job} {s:Stt} {n:C3} (h: ¬leC n s.h): ∃c,q03p j s n=some c:=by
 unfold q03p
 split
 ·exact ⟨_,rfl⟩
 split
 ·exact ⟨_,rfl⟩
 split
 ·exact ⟨_,rfl⟩
 exfalso;apply h;unfold leC;omega
theorem q0h4 {j:Job} {s:Stt} (r:rightP j s):q02f j s=true↔leC (dueF j s.at_) s.h:=by
 unfold q02f
 rw [(q01g j s).2 r,Bool.true_and,q06h]
theorem q0B8 {x y:C3} (h:leC x y) (g:leC y x):x=y:=by
 obtain ⟨a,b,c⟩:=x
 obtain ⟨d,e,f⟩:=y
 unfold leC at*
 simp only [C3.mk.injEq] at*
 omega
theorem q0se (j:Job) {n:Int} (h:n=j.items.length):q00v j n=allS j:=by
 unfold q00v allS
 subst h
 have:putN j.items (j.items.length:Int)=j.items.length:=by unfold putN;omega
 rw [this,List.take_length]
theorem q0sf (j:Job) {n:Int} (h:n=j.items.length):q00i j n=q00u j.items:=by
 unfold q00i
 subst h
 have:putN j.items (j.items.length:Int)=j.items.length:=by unfold putN;omega
 rw [this,List.take_length]
theorem q0lu {j:Job} (w:wfJ j) {s:Stt} (ho:openS j s=true): ∃c,q01t j s=some c∧q02t j s c=0∧c.frm=s.at_:=by
 obtain ⟨r,hd⟩:=(q05r j s).1 ho
 obtain ⟨n0,l0,n1,n2⟩:=q09d w r
 by_cases ht:q02f j s=true∧s.at_<j.items.length
 ·have e:textC j s=some ⟨1,s.at_,q015 j.items s.at_,q02l j.notes (spotS j s (q015 j.items s.at_)),[],[]⟩:=by unfold textC;rw [if_pos ⟨ho,ht⟩]
  have hb:=q0h2 r.at0 ht.2
  have hm:=q0fl r.at0 hb
  have hl:q01t j s=some ⟨1,s.at_,q015 j.items s.at_,q02l j.notes (spotS j s (q015 j.items s.at_)),[],[]⟩:=by unfold q01t;rw [e];rfl
  refine ⟨_,hl,q09e ?_ ?_ (.inr hl),rfl⟩
  ·unfold endE
   rw [decide_eq_false_iff_not]
   simp [ho]
   omega
  ·unfold kindE
   rw [if_pos rfl]
   unfold textE
   simp only
   rw [if_neg (by rw [ht.1];simp),if_neg (by simpa using hb),if_neg,if_neg]
   ·rw [q0vs w r rfl rfl (by omega),q0sd w rfl rfl];simp
   ·rw [Bool.not_eq_false,q051,q05q r]
    refine q0gx (q03h w.w _) n0 l0 w.notes fun h=> ?_
    simp only at h⊢
    by_cases z:s.line=0
    ·rw [z]
     have:=w.notes (rd j.notes s.note) (q05n n0 (by have:=q03h w.w (q015 j.items s.at_);omega))
     omega
    ·exact (n2 z).2
 ·have e:textC j s=none:=by unfold textC;rw [if_neg (fun h=>ht h.2)]
  by_cases hf:q02f j s=true
  ·have ha:s.at_=j.items.length:=by have:=r.at1;have: ¬s.at_<j.items.length:=fun h=>ht ⟨hf,h⟩;omega
   have e2:dueC j s=none:=by
    unfold dueC
    rw [if_pos ho]
    have hle:=(q0h4 r).1 hf
    unfold leC at hle
    unfold q03p
    rw [if_neg (by omega),if_neg (by omega),if_neg (by omega)]
   by_cases hn:s.note=j.notes.length
   ·have e3:noteC j s=none:=by unfold noteC;rw [if_neg (fun h=>h.2.2 hn)]
    have hne: ¬leC (q00v j s.at_) s.h:=by
     intro hle
     have heq:=q0B8 r.h1 hle
     rw [q0se j ha] at heq
     have hl:s.line=0:=by
      by_cases z:s.line=0
      ·exact z
      ·have:=(n2 z).1;omega
     unfold doneS at hd
     rw [(q01g j s).2 r] at hd
     simp [ha,hl,hn,heq] at hd
    obtain ⟨c,hc⟩:=q0ei (j:=j) hne
    have a:=q0cf w r hd (q074 _) hc
    have hl:q01t j s=some c:=by unfold q01t q08g;rw [e,e2,e3,if_pos ho,hc];rfl
    exact ⟨c,hl,q09e a.1 a.2.1 (.inl a.2.2.1),a.2.2.2.1⟩
   ·have e3:noteC j s=some ⟨3,s.at_,s.at_,q02l j.notes (q01q (spotS j s s.at_)),[],[]⟩:=by unfold noteC;rw [if_pos ⟨ho,ha,hn⟩]
    have hl:q01t j s=some ⟨3,s.at_,s.at_,q02l j.notes (q01q (spotS j s s.at_)),[],[]⟩:=by unfold q01t;rw [e,e2,e3];rfl
    have hm:q02l j.notes (q01q (spotS j s s.at_))∈q00j j.notes (q01q (spotS j s s.at_)):=by
     rw [q05q r]
     refine q0gx (q03h w.w _) n0 l0 w.notes fun h=> ?_
     simp only [q01q] at h⊢
     by_cases z:s.line=0
     ·rw [z]
      have:=w.notes (rd j.notes s.note) (q05n n0 (by omega))
      omega
     ·exact (n2 z).2
    have hne:q02l j.notes (q01q (spotS j s s.at_))≠[]:=by
     intro h0
     rw [h0] at hm
     rw [q05q r] at hm
     rcases q0c9 (s:=q01q ⟨s.note,s.line,q00i j s.at_,decide (q00i j s.at_<q00i j s.at_)⟩) (q03h w.w _) n0 l0 hm with ⟨_,h|h⟩|⟨_,q,t,h,_⟩
     ·simp only [q01q] at h
      have:=q0sf j ha
      have:=w.five
      omega
     ·cases h
     ·simp at h
    refine ⟨_,hl,q09e ?_ ?_ (.inr hl),rfl⟩
    ·unfold endE
     rw [decide_eq_false_iff_not]
     simp [ho,ha]
    ·unfold kindE
     rw [if_neg (by simp),if_neg (by simp)]
     unfold noteE
     simp only
     rw [if_neg,if_neg (by simp)]
     rintro (h|h)
     ·exact hne h
     ·rw [(q051 _ _ _).2 hm] at h;cases h
  ·have hne: ¬leC (dueF j s.at_) s.h:=fun h=>hf ((q0h4 r).2 h)
   obtain ⟨c,hc⟩:=q0ei (j:=j) hne
   have a:=q0cf w r hd (q0sa _ _) hc
   have hl:q01t j s=some c:=by unfold q01t dueC;rw [e,if_pos ho,hc];rfl
   exact ⟨c,hl,q09e a.1 a.2.1 (.inl a.2.2.1),a.2.2.2.1⟩
theorem q0pb {j:Job} {s:Stt} {c:Colm} (h:q02t j s c=0):openS j s=true:=by
 unfold q02t at h
 by_cases he:endE j s c=true
 ·rw [if_pos he] at h;cases h
 unfold endE at he
 simp only [decide_eq_true_eq,not_or,Bool.not_eq_false] at he
 exact he.1
theorem q0pc {j:Job} {s:Stt} {c:Colm} (h:q02t j s c=0) (ho:(q01x j s c).over=true):sameC c ((q01t j s).getD q02d)=true:=by
 unfold q02t at h
 split at h
 ·cases h
 split at h
 ·rename_i h1;exact absurd h h1
 split at h
 ·cases h
 ·rename_i h1
  cases q:sameC c ((q01t j s).getD q02d) with
  |true=>rfl
  |false=>exact absurd ⟨ho,q⟩ h1
end Go.EnvOf
