/- The program's functions and the document's, evaluated. -/
import Derived.Test.YtpibjnnbploadaaGreatEngAll2
import Derived.Test.YtpibjnnbploadaaGreatText2
set_option linter.unusedSimpArgs false
set_option linter.unusedVariables false
namespace Go.EnvOf
open Go Go.Eng
set_option maxRecDepth 100000
theorem okEl_upV: ∀(es:List Int),(upV (es.map encI)).all (okEl 1)=true
 |[]=>rfl
 |x::r=>by simp only [List.map_cons,q0gs,List.all_cons,okEl_upV r,Bool.and_true];rfl
def okU (n:Nat) (u w:Int):Prop:=0≤u∧0≤w∧u≤n∧w≤n-u
instance (n:Nat) (u w:Int):Decidable (okU n u w):=inferInstanceAs (Decidable (_∧_))
def okT (l:List Float) (x y:C3):Prop:=okU (figOf 0 0 l).length x.a y.a∧okU (figOf 1 0 l).length x.b y.b∧okU (figOf 2 0 l).length x.c y.c
instance (l:List Float) (x y:C3):Decidable (okT l x y):=inferInstanceAs (Decidable (_∧_))
def atF (l:List Float) (i:Int):Option Float:=if 0≤i∧i<l.length then some (rd l i) else none
theorem at_ev (l:List Float) (i:Int) (H:Heap):clD EE (.p (.fn 201)) [q00g l,vI i] H=some (.tup [match atF l i with|some f=>q05u f|none=> .agg [vI 0,vI 0,vI 0],vB (atF l i).isSome],none):=by
 rw [q002 _ _ _ _ _ _ (noP _) fn201]
 unfold atF
 by_cases h1:i<0
 ·simp [St.enter,q000,subs,q001,h1,show¬0≤i by omega]
 by_cases h2:(l.length:Int)≤i
 ·simp [St.enter,q000,subs,q001,h1,h2,show¬i<l.length by omega]
 have hx:=q028 l i (by omega) (by omega)
 have hix:=fun H k=>q02t H q00a (k:=k) (s:=3) (by omega) hx rfl
 simp [St.enter,q000,subs,q001,h1,h2,show 0≤i∧i<l.length by omega,hix,q00a]
def bump (s:C3) (c:Int):C3:=if c=0 then ⟨s.a+1,s.b,s.c⟩ else if c=1 then ⟨s.a,s.b+1,s.c⟩ else if c=2 then ⟨s.a,s.b,s.c+1⟩ else s
def ofS (l:List Float) (s:C3) (x:Int):C3:=match atF l x with|some f=>bump s f.c|none=>s
theorem q0b2 {e:List V} {j:Nat} {v:V} (h:e[j]? =some v):subs e j 1=some [v]:=by
 obtain ⟨h1,h2⟩:=List.getElem?_eq_some_iff.1 h
 have h3:j+1≤e.length:=h1
 simp [subs,h3,List.drop_eq_getElem_cons h1,h2]
theorem q06g {e:List V} {j:Nat} {v u:V} (h:e[j]? =some v):q001 e j [u]=some (e.set j u):=by
 obtain ⟨h1,h2⟩:=List.getElem?_eq_some_iff.1 h
 have h3:j+1≤e.length:=h1
 simp [q001,h1,h3,List.set_eq_take_append_cons_drop]
theorem q07j (f:FuncId) (g:Int→Int) (n s:Int) (H:Heap) (id tot i j sz:Nat) (es:List (List V)) (e:List V) (hr:Eng.rowAt H id=some (sz,es)) (ht:es.length=tot) (he:es[i]? =some e) (hj:e[j]? =some (vI n)) (hlt:id<H.length)
  (hg: ∀H',clD EE (.p (.fn f)) [vI n,vI s] H'=some (vI (g n),none)):
  clD EE (.p (.fn 195)) [.agg [vI s],.p (.fn f),.vsl [[.rptr id tot i j]]] H=some (.tup [],some (H.set id (.row sz (es.set i (e.set j (vI (g n))))),[id])):=by
 rw [q002 _ _ _ _ _ _ (noP _) fn195]
 have key:evD EE q06q ⟨[(1,.p (.fn f)),(3,.lptr 3 0),(8,.vsl [[.rptr id tot i j]]),(9,.p (.int .i64 1)),(10,.p (.int .i64 0))],[(3,[vI s])],H,H.length,[]⟩=
   some (.exit 0,⟨[(1,.p (.fn f)),(3,.lptr 3 0),(8,.vsl [[.rptr id tot i j]]),(9,.p (.int .i64 1)),(10,.p (.int .i64 1)),(11,.p (.bool false))],[(3,[vI s])],H.set id (.row sz (es.set i (e.set j (vI (g n))))),H.length,[id]⟩):=by
  unfold q06q
  have w:IntKind.i64.wrap 1=1:=w64 (by omega) (by omega)
  rw [q008]
  have e3:subs [vI s] 0 1=some [vI s]:=rfl
  have e4:subs [V.rptr id tot i j] 0 1=some [V.rptr id tot i j]:=rfl
  simp [q0b2 hj,q06g hj,hr,ht,he,hg,hlt,w,ixsI,ixsV,e3,e4]
  rw [q008]
  simp
 simp [St.enter,q000,key]
theorem q066 (f:FuncId) (g:Int→Int) (n m s:Int) (H:Heap) (id a b:Nat) (cs:List V) (hr:Eng.boxAt H id=some cs) (ha:cs[a]? =some (vI n)) (hb:cs[b]? =some (vI m)) (hab:a≠b) (hlt:id<H.length)
  (hg: ∀H',clD EE (.p (.fn f)) [vI n,vI s] H'=some (vI (g n),none)) (hg2: ∀H',clD EE (.p (.fn f)) [vI m,vI s] H'=some (vI (g m),none)):
  clD EE (.p (.fn 195)) [.agg [vI s],.p (.fn f),.vsl [[.ptr id a],[.ptr id b]]] H=some (.tup [],some (H.set id (.box ((cs.set a (vI (g n))).set b (vI (g m)))),[id,id])):=by
 rw [q002 _ _ _ _ _ _ (noP _) fn195]
 have key:evD EE q06q ⟨[(1,.p (.fn f)),(3,.lptr 3 0),(8,.vsl [[.ptr id a],[.ptr id b]]),(9,.p (.int .i64 2)),(10,.p (.int .i64 0))],[(3,[vI s])],H,H.length,[]⟩=
   some (.exit 0,⟨[(1,.p (.fn f)),(3,.lptr 3 0),(8,.vsl [[.ptr id a],[.ptr id b]]),(9,.p (.int .i64 2)),(10,.p (.int .i64 2)),(11,.p (.bool false))],[(3,[vI s])],H.set id (.box ((cs.set a (vI (g n))).set b (vI (g m)))),H.length,[id,id]⟩):=by
  unfold q06q
  have w:IntKind.i64.wrap 1=1:=w64 (by omega) (by omega)
  have w2:IntKind.i64.wrap 2=2:=w64 (by omega) (by omega)
  have e3:subs [vI s] 0 1=some [vI s]:=rfl
  have e4: ∀x:V,subs [x] 0 1=some [x]:=fun _=>rfl
  have hb2:(cs.set a (vI (g n)))[b]? =some (vI m):=by rw [List.getElem?_set_ne hab];exact hb
  have hset:Eng.boxAt (H.set id (.box (cs.set a (vI (g n))))) id=some (cs.set a (vI (g n))):=by simp [Eng.boxAt,List.getElem?_set,hlt]
  rw [q008]
  simp [q0b2 ha,q06g ha,hr,hg,hlt,w,ixsI,ixsV,e3,e4]
  rw [q008]
  simp [q0b2 hb2,q06g hb2,hset,hg2,hlt,w2,ixsI,ixsV,e3,e4]
  rw [q008]
  simp
 simp [St.enter,q000,key]
def itemG (s:Int) (x:Item):Item:=if x.k=1 then {x with h:=upG x.h s} else if x.k=2 then {x with h:=nearG x.h s,str:=0,ord:=0,shr:=0} else x
def noteG (s:Int) (n:Note):Note:= {n with lines:=n.lines.map fun x=>upG x s}
def q01a (s:Int) (f:Float):Float:= {f with h:=upG f.h s}
def geomG (g:Geom):Geom:= {g with high:=downG g.high g.grid,first:=downG g.first g.grid,rule:=upG g.rule g.grid,sep:=upG g.sep g.grid}
def snapG (j:Job):Job:=if j.g.grid<1 then j else ⟨geomG j.g,j.items.map (itemG j.g.grid),j.notes.map (noteG j.g.grid),j.floats.map (q01a j.g.grid)⟩
abbrev q05w (x:Item):Prop:=I64 x.k∧I64 x.h∧I64 x.f∧I64 x.str∧I64 x.ord∧I64 x.shr∧I64 x.n
abbrev q0da (f:Float):Prop:=I64 f.c∧I64 f.h∧I64 f.w
def q05x (s:Int) (l:List Item) (H:Heap) (M:List Item) (i:Nat):St:=
 ⟨[(2,.lptr 2 0),(5,.row H.length l.length 0 l.length),(11,vI l.length),(12,vI i)],[(2,[vI s])],H++[.row 7 (upV (M.map q003))],H.length,[]⟩
def q0c5 (s:Int) (l:List Item) (H:Heap) (M:List Item):Ex×St:=
 (.exit 0,⟨[(2,.lptr 2 0),(5,.row H.length l.length 0 l.length),(11,vI l.length),(12,vI l.length),(13,.p (.bool false))],[(2,[vI s])],H++[.row 7 (upV (M.map q003))],H.length,[]⟩)
theorem q0qv (s:Int) (hs:I64 s) (l:List Item) (hl: ∀x∈l,q05w x) (hn:l.length≤1000000) (H:Heap):
  evD EE q06o (q05x s l H l 0)=some (q0c5 s l H (l.map (itemG s))):=by
 unfold q06o
 refine (q017 l (q05x s l H) (fun M i=>M.length=l.length∧M.drop i=l.drop i) (fun M i x=>M.set i (itemG s x)) (q0c5 s l H) (fun _ _=>rfl) ?_ ?_ l 0 ⟨rfl,rfl⟩ (Nat.zero_le _)).trans ?_
 ·rintro M i x ⟨hM,hd⟩ hx
  have hlt:=(List.getElem?_eq_some_iff.1 hx).1
  have hMx:M[i]? =some x:=by
   have:=congrArg (·[0]?) hd
   simpa [List.getElem?_drop,hx] using this
  have w:IntKind.i64.wrap ((i:Int)+1)=((i+1:Nat):Int):=w64 (by omega) (by omega)
  have ho:=hl x (List.mem_of_getElem? hx)
  have hu:(upV (M.map q003))[i]? =some ((q003 x).map .p):=by simp [upV,hMx]
  have hset:M.set i (itemG s x)=M.set i (itemG s x):=rfl
  have inv:(M.set i (itemG s x)).length=l.length∧(M.set i (itemG s x)).drop (i+1)=l.drop (i+1):=by
   refine ⟨by simp [hM],?_⟩
   rw [List.drop_set_of_lt (Nat.lt_succ_self i)]
   have:=congrArg (List.drop 1) hd
   simpa [List.drop_drop,Nat.add_comm] using this
  refine ⟨?_,inv⟩
  have hrow:Eng.rowAt (H++[DObj.row 7 (upV (M.map q003))]) H.length=some (7,upV (M.map q003)):=by simp
  have hlen:(upV (M.map q003)).length=l.length:=by simp [hM]
  have hj:((q003 x).map V.p)[1]? =some (vI x.h):=rfl
  have t1:=q07j 197 (fun n=>upG n s) x.h s (H++[DObj.row 7 (upV (M.map q003))]) H.length l.length i 1 7 _ _ hrow hlen hu hj (by simp) (fun H'=>q06w x.h s H' ho.2.1 hs)
  have t2:=q07j 330 (fun n=>nearG n s) x.h s (H++[DObj.row 7 (upV (M.map q003))]) H.length l.length i 1 7 _ _ hrow hlen hu hj (by simp) (fun H'=>q0qr x.h s H' ho.2.1 hs)
  by_cases k1:x.k=1
  ·have e:(upV (M.map q003)).set i (((q003 x).map V.p).set 1 (vI (upG x.h s)))=upV ((M.set i (itemG s x)).map q003):=by
    rw [←q05e];simp [itemG,k1,q003]
   rw [e] at t1
   simp [-getElem?_pos,q05x,hlt,q013,hM,hu,q003,subs,k1,t1,w]
  ·by_cases k2:x.k=2
   ·have g: ∀a,((upV (M.map q003)).set i a)[i]? =some a:=fun a=>by rw [List.getElem?_set_self (by simp [hM,hlt])]
    have e:(upV (M.map q003)).set i [vI x.k,vI (nearG x.h s),vI x.f,vI 0,vI 0,vI 0,vI x.n]=upV ((M.set i (itemG s x)).map q003):=by
     rw [←q05e];simp [itemG,k2,q003]
    rw [k2] at e
    simp [-getElem?_pos,q05x,hlt,q013,hM,hu,q003,subs,q001,k1,k2,t2,w,g]
    simp [q003,upV] at e⊢
    exact e
   ·have e:M.set i (itemG s x)=M:=by
     have:itemG s x=x:=by simp [itemG,k1,k2]
     rw [this]
     refine List.ext_getElem? fun j=> ?_
     rw [List.getElem?_set]
     split
     ·rename_i h;subst h;rw [if_pos (by omega),hMx]
     ·rfl
    rw [e]
    simp [-getElem?_pos,q05x,hlt,q013,hM,hu,q003,subs,q001,k1,k2,w]
 ·rintro M ⟨hM,hd⟩
  simp [q05x,q0c5]
 ·have:=q07h (itemG s) l []
  simp at this
  simp [this]
theorem q0f2:EE.fns 189=some (q051 7 [vI 0,vI 0,vI 0,vI 0,vI 0,vI 0,vI 0]):=fn189
theorem q0db:EE.fns 190=some (q051 3 [vI 0,vI 0,vI 0]):=fn190
theorem q0ip:EE.fns 191=some (q051 1 [vI 0]):=fn191
theorem q0h5:EE.fns 192=some (q051 1 [vI 0]):=fn192
def q00e {α:Type} (n:Nat) (l:List α):V:=if l=[] then .nils else .row n l.length 0 l.length
def q032 {α:Type} (enc:α→List PV) (s:Nat) (H:Heap) (l:List α):Option (Heap×List Nat):=if l=[] then none else some (H++[.row s (upV (l.map enc))],[])
theorem q04e {α:Type} (f:FuncId) (s:Nat) (z:List V) (H:Heap) (enc:α→List PV) (hs: ∀x,(enc x).length=s) (hf:EE.fns f=some (q051 s z)) (l:List α) (hm:l.length<most) (hp:EE.prims f=none:=by exact noP _):
  clD EE (.p (.fn f)) [.p (.sl (l.map enc))] H=some (q00e H.length l,q032 enc s H l):=by
 cases l with
 |nil=>exact q0l2 EE f s z H _ hp hf rfl
 |cons x r=>
  have:=q0qo EE f s z H (enc x) (r.map enc) hp hf (by simp [hs]) (by simpa using hm)
  simpa [q00e,q032] using this
theorem q0qw (s:Int) (hs:I64 s) (l:List Item) (hl: ∀x∈l,q05w x) (hn:l.length≤1000000) (H:Heap):
  clD EE (.p (.fn 193)) [.agg [vI s],q004 l] H=some (q004 (l.map (itemG s)),none):=by
 rw [q002 _ _ _ _ _ _ (noP _) fn193]
 have hc:=q04e _ 7 _ H q003 (fun _=>rfl) q0f2 l (by unfold most;omega)
 cases l with
 |nil=>
  simp [q00e,q032] at hc
  have key:evD EE q06o ⟨[(2,.lptr 2 0),(5,.nils),(11,vI 0),(12,vI 0)],[(2,[vI s])],H,H.length,[]⟩=some (.exit 0,⟨[(2,.lptr 2 0),(5,.nils),(11,vI 0),(12,vI 0),(13,.p (.bool false))],[(2,[vI s])],H,H.length,[]⟩):=by
   unfold q06o
   rw [q008]
   simp
  simp [St.enter,q000,subs,hc,key]
 |cons x r=>
  have key:=q0qv s hs (x::r) hl hn H
  simp [q00e,q032] at hc
  simp [q05x,q0c5] at key
  simp [St.enter,q000,subs,hc,key]
def q091 (s:Int) (w:V) (n i:Nat) (L:List Int) (H0:Nat) (id:Nat) (G:Heap) (B:Nat) (K:List Int) (k:Nat):St:=
 ⟨[(2,.lptr 2 0),(5,.row H0 n 0 n),(6,vI i),(12,w),(13,vI n),(14,vI i),(34,vI L.length),(35,vI k)],[(2,[vI s])],G.set id (.row 1 (upV (K.map encI))),B,[]⟩
def q0c6 (s:Int) (w:V) (n i:Nat) (L:List Int) (H0:Nat) (id:Nat) (G:Heap) (B:Nat) (K:List Int):Ex×St:=
 (.exit 2,⟨[(2,.lptr 2 0),(5,.row H0 n 0 n),(6,vI i),(12,w),(13,vI n),(14,vI i),(34,vI L.length),(35,vI L.length),(36,.p (.bool false))],[(2,[vI s])],G.set id (.row 1 (upV (K.map encI))),B,[]⟩)
theorem q0dc (s:Int) (hs:I64 s) (w:V) (n i:Nat) (hi:i<n) (L:List Int) (hL: ∀x∈L,I64 x) (hn:L.length≤1000000) (H0 id:Nat) (G:Heap) (B:Nat) (es:List (List V)) (v2:V)
  (h0:Eng.rowAt G H0=some (2,es)) (he:es.length=n) (hei:es[i]? =some [.row id L.length 0 L.length,v2]) (hid:id<G.length) (hne:id≠H0) (hB:B≤id):
  evD EE q06p (q091 s w n i L H0 id G B L 0)=some (q0c6 s w n i L H0 id G B (L.map fun x=>upG x s)):=by
 unfold q06p
 refine (q017 L (q091 s w n i L H0 id G B) (fun M k=>M.length=L.length∧M.drop k=L.drop k) (fun M k x=>M.set k (upG x s)) (q0c6 s w n i L H0 id G B) (fun _ _=>rfl) ?_ ?_ L 0 ⟨rfl,rfl⟩ (Nat.zero_le _)).trans ?_
 ·rintro M k x ⟨hM,hd⟩ hx
  have hlt:=(List.getElem?_eq_some_iff.1 hx).1
  have hMx:M[k]? =some x:=by
   have:=congrArg (·[0]?) hd
   simpa [List.getElem?_drop,hx] using this
  have w1:IntKind.i64.wrap ((k:Int)+1)=((k+1:Nat):Int):=w64 (by omega) (by omega)
  have ho:=hL x (List.mem_of_getElem? hx)
  have hu:(upV (M.map encI))[k]? =some [vI x]:=by simp [upV,hMx,encI]
  have inv:(M.set k (upG x s)).length=L.length∧(M.set k (upG x s)).drop (k+1)=L.drop (k+1):=by
   refine ⟨by simp [hM],?_⟩
   rw [List.drop_set_of_lt (Nat.lt_succ_self k)]
   have:=congrArg (List.drop 1) hd
   simpa [List.drop_drop,Nat.add_comm] using this
  refine ⟨?_,inv⟩
  have hrow:=q0e2 G id 1 (upV (M.map encI)) hid
  have hrow0:Eng.rowAt (G.set id (.row 1 (upV (M.map encI)))) H0=some (2,es):=by rw [q0gy _ _ _ _ hne,h0]
  have hlen:(upV (M.map encI)).length=L.length:=by simp [hM]
  have t1:=q07j 197 (fun n=>upG n s) x s (G.set id (.row 1 (upV (M.map encI)))) id L.length k 0 1 _ _ hrow hlen hu rfl (by simpa using hid) (fun H'=>q06w x s H' ho hs)
  have e:(upV (M.map encI)).set k [vI (upG x s)]=upV ((M.set k (upG x s)).map encI):=by
   rw [←q05e];rfl
  simp only [List.set_cons_zero,e,List.set_set] at t1
  simp [-getElem?_pos,q091,hlt,hi,he,hei,q013,hM,hrow,hrow0,hu,subs,t1,w1,hB]
 ·rintro M ⟨hM,hd⟩
  simp [q091,q0c6]
 ·have:=q07h (fun x=>upG x s) L []
  simp at this
  simp [this]
abbrev q0h6 (n:Note):Prop:=(∀x∈n.lines,I64 x)∧n.lines.length≤1000000∧n.pens.length≤1000000
def rowsH (l:List Int):Heap:=if l=[] then [] else [.row 1 (upV (l.map encI))]
def noteH (s:Int) (n:Note):Heap:=rowsH (n.lines.map fun x=>upG x s)++rowsH n.pens
def noteV (id:Nat) (n:Note):List V:=[q00e id n.lines,q00e (id+(if n.lines=[] then 0 else 1)) n.pens]
def q01s (s:Int):List Note→Heap
 |[]=>[]
 |n::r=>noteH s n++q01s s r
def q01t (s:Int):Nat→List Note→List (List V)
 |_,[]=>[]
 |id,n::r=>noteV id n::q01t s (id+(noteH s n).length) r
theorem q0c7 (s:Int): ∀a b,q01s s (a++b)=q01s s a++q01s s b
 |[],b=>rfl
 |n::r,b=>by simp only [List.cons_append,q01s,q0c7 s r b,List.append_assoc]
theorem q0c8 (s:Int): ∀a id b,q01t s id (a++b)=q01t s id a++q01t s (id+(q01s s a).length) b
 |[],id,b=>by simp [q01t,q01s]
 |n::r,id,b=>by simp only [List.cons_append,q01t,q01s,q0c8 s r,List.length_append,Nat.add_assoc]
theorem q07k (s:Int): ∀l id,(q01t s id l).length=l.length
 |[],_=>rfl
 |n::r,id=>by simp only [q01t,List.length_cons,q07k s r]
def q043 (s:Int) (l:List Note) (H:Heap) (i:Nat):Heap:=
 H++[.row 2 (q01t s (H.length+1) (l.take i)++List.replicate (l.length-i) [.nils,.nils])]++q01s s (l.take i)
def q092 (s:Int) (l:List Note) (H:Heap) (i:Nat):St:=
 ⟨[(2,.lptr 2 0),(5,.row H.length l.length 0 l.length),(12,q00j l),(13,vI l.length),(14,vI i)],[(2,[vI s])],q043 s l H i,H.length,[]⟩
def q093 (s:Int) (l:List Note) (H:Heap):Ex×St:=
 (.exit 0,⟨[(2,.lptr 2 0),(5,.row H.length l.length 0 l.length),(12,q00j l),(13,vI l.length),(14,vI l.length),(15,.p (.bool false))],[(2,[vI s])],q043 s l H l.length,H.length,[]⟩)
theorem q0h7 (s:Int) (l:List Note) (H:Heap) (i:Nat) (n:Note) (hx:l[i]? =some n):
  q043 s l H (i+1)=H++[.row 2 (q01t s (H.length+1) (l.take i)++noteV (H.length+1+(q01s s (l.take i)).length) n::List.replicate (l.length-i-1) [.nils,.nils])]++q01s s (l.take i)++noteH s n:=by
 have e:l.take (i+1)=l.take i++[n]:=by rw [List.take_add_one,hx];rfl
 unfold q043
 rw [e,q0c8,q0c7]
 simp [q01t,q01s,Nat.sub_sub]
theorem q0qx (H:Heap) (l:List Int) (hm:l.length≤1000000):clD EE (.p (.fn 191)) [sli l] H=some (q00e H.length l,q032 encI 1 H l):=q04e _ 1 _ H encI (fun _=>rfl) q0ip l (by unfold most;omega)
theorem q0ns (H:Heap) (l:List Int) (hm:l.length≤1000000):clD EE (.p (.fn 192)) [sli l] H=some (q00e H.length l,q032 encI 1 H l):=q04e _ 1 _ H encI (fun _=>rfl) q0h5 l (by unfold most;omega)
theorem q0l4 (a b c d e f:V) (u:List V) (H:Heap) (B:Nat):evD EE q06p ⟨[(2,a),(5,b),(6,c),(12,d),(13,e),(14,f),(34,vI 0),(35,vI 0)],[(2,u)],H,B,[]⟩=
  some (.exit 2,⟨[(2,a),(5,b),(6,c),(12,d),(13,e),(14,f),(34,vI 0),(35,vI 0),(36,.p (.bool false))],[(2,u)],H,B,[]⟩):=by
 unfold q06p
 rw [q008]
 simp
theorem q0us {α:Type} {A:List α} {i:Nat} (h:A.length=i) (x:α) (r:List α):(A++x::r)[i]? =some x:=by subst h;simp
theorem q0ut {α:Type} {A:List α} {i:Nat} (h:A.length=i) (x y:α) (r:List α):(A++x::r).set i y=A++y::r:=by subst h;simp
@[simp] theorem q0wq {α:Type} (n:Nat) (l:List α):(q00e n l).cells=[q00e n l] :=by unfold q00e;split<;>rfl
@[simp] theorem q0ys {α:Type} (n:Nat) (l:List α):(q00e n l).oneB=true:=by unfold q00e;split<;>rfl
@[simp] theorem q0yt {α:Type} (n:Nat) (l:List α):(q00e n l).outB=true:=by unfold q00e;split<;>rfl
@[simp] theorem q0yu {α:Type} (n:Nat) (l:List α):(q00e n l).notL=true:=by unfold q00e;split<;>rfl
@[simp] theorem q0c9 {α:Type} (n:Nat):q00e n ([] :List α)= .nils:=rfl
@[simp] theorem q0e8:rowsH [] =[] :=rfl
@[simp] theorem q04w {α:Type} (n:Nat) (x:α) (r:List α):q00e n (x::r)= .row n (x::r).length 0 (x::r).length:=rfl
@[simp] theorem q0ca (x:Int) (r:List Int):rowsH (x::r)=[.row 1 (upV ((x::r).map encI))] :=rfl
theorem q094 (env:List (Nat×V)) (loc:List (Nat×List V)) (hp:Heap) (base:Nat) (dirty:List Nat) (n:Nat) (d:Option Nat) (l:List Int):
  callR ⟨env,loc,hp,base,dirty⟩ false d (some (q00e n l,q032 encI 1 hp l))=some (St.put ⟨env,loc,hp++rowsH l,base,dirty⟩ d (q00e n l)):=by
 unfold q00e q032 rowsH
 split
 ·rename_i h;subst h;simp
 ·simp
theorem q0dd (s:Int) (hs:I64 s) (l:List Note) (hl: ∀x∈l,q0h6 x) (hn:l.length≤1000000) (H:Heap):
  evD EE q0cv (q092 s l H 0)=some (q093 s l H):=by
 unfold q0cv
 refine (q017 l (fun (_:Unit) i=>q092 s l H i) (fun _ _=>True) (fun _ _ _=>()) (fun _=>q093 s l H) (fun _ _=>rfl) ?_ ?_ () 0 trivial (Nat.zero_le _))
 ·rintro _ i n-hx
  refine ⟨?_,trivial⟩
  have hlt:=(List.getElem?_eq_some_iff.1 hx).1
  have w1:IntKind.i64.wrap ((i:Int)+1)=((i+1:Nat):Int):=w64 (by omega) (by omega)
  obtain ⟨h1,h2,h3⟩:=hl n (List.mem_of_getElem? hx)
  have hix:=fun H k=>q00o H q00h (k:=k) (s:=2) hx rfl
  obtain ⟨k,hk⟩: ∃k,l.length-i=k+1:=⟨l.length-i-1,by omega⟩
  have hk2:l.length-i-1=k:=by omega
  have hsucc:=q0h7 s l H i n hx
  rw [hk2] at hsucc
  have hA:=q07k s (l.take i) (H.length+1)
  rw [List.length_take,Nat.min_eq_left (Nat.le_of_lt hlt)] at hA
  have e0:q043 s l H i=H++[.row 2 (q01t s (H.length+1) (l.take i)++List.replicate (k+1) [.nils,.nils])]++q01s s (l.take i):=by unfold q043;rw [hk]
  simp only [q092]
  generalize q043 s l H (i+1)=R at hsucc⊢
  rw [e0]
  generalize q01t s (H.length+1) (l.take i)=A at*
  generalize q01s s (l.take i)=T at*
  have hrow: ∀(v:List V) (U:Heap),Eng.rowAt (H++DObj.row 2 (A++v::List.replicate k [.nils,.nils])::U) H.length=some (2,A++v::List.replicate k [.nils,.nils]):=fun v U=>by simp
  have hes: ∀(v:List V),(A++v::List.replicate k [.nils,.nils]).length=l.length:=fun v=>by simp;omega
  have mg:=fun x r=>q0us (α:=List V) hA x r
  have ms:=fun x y r=>q0ut (α:=List V) hA x y r
  simp only [List.replicate_succ,List.append_assoc,List.cons_append,List.nil_append] at hsucc⊢
  have c1:=q0qx (H++DObj.row 2 (A++[.nils,.nils]::List.replicate k [.nils,.nils])::T) n.lines h2
  have c2:=q0ns (H++DObj.row 2 (A++[.nils,.nils]::List.replicate k [.nils,.nils])::(T++rowsH n.lines)) n.pens h3
  simp only [sli] at c1 c2
  cases hL:n.lines with
  |nil=>
   simp only [hL,List.map_nil,q0e8,List.append_nil] at c1 c2
   simp only [q0c9] at c1
   rw [show q032 encI 1 (H++DObj.row 2 (A++[.nils,.nils]::List.replicate k [.nils,.nils])::T) []=none from rfl] at c1
   have nl:=fun v U=>q0l4 (.lptr 2 0) (.row H.length l.length 0 l.length) (vI i) (q00j l) (vI l.length) (vI i) [vI s] (H++DObj.row 2 (A++v::List.replicate k [.nils,.nils])::(T++U)) H.length
   simp only [noteV,noteH,hL,List.map_nil,q0e8,q0c9,if_pos,Nat.add_zero,Nat.add_assoc,Nat.add_comm 1,List.nil_append] at hsucc
   simp only [List.length_append,List.length_cons] at c1 c2
   rw [hsucc]
   simp [-getElem?_pos,hlt,hix,q00h,subs,q001,q013,hrow,hes,mg,ms,hL,c1,c2,q094,nl,w1]
  |cons x r=>
   simp only [hL,q0ca,q04w] at c1 c2
   rw [show∀G,q032 encI 1 G (x::r)=some (G++[.row 1 (upV ((x::r).map encI))],[]) from fun _=>rfl] at c1
   simp only [noteV,noteH,hL,List.map_cons,q0ca,q04w,List.cons_ne_nil,if_false,reduceCtorEq,Nat.add_assoc,Nat.add_comm 1,List.nil_append] at hsucc
   simp only [List.length_append,List.length_cons,List.length_nil,Nat.zero_add,List.append_assoc,List.cons_append,List.nil_append] at c1 c2
   have hset: ∀v K,(H++DObj.row 2 (A++v::List.replicate k [.nils,.nils])::(T++DObj.row 1 (upV ((x::r).map encI))::rowsH n.pens)).set (H.length+(T.length+1)) (.row 1 K)=
     H++DObj.row 2 (A++v::List.replicate k [.nils,.nils])::(T++DObj.row 1 K::rowsH n.pens):=fun v K=>by simp
   have key:=q0dc s hs (q00j l) l.length i hlt (x::r) (fun y hy=>h1 y (hL▸hy)) (by rw [←hL];exact h2) H.length (H.length+(T.length+1))
    (H++DObj.row 2 (A++[.row (H.length+(T.length+1)) (x::r).length 0 (x::r).length,q00e (H.length+(T.length+2)) n.pens]::List.replicate k [.nils,.nils])::(T++DObj.row 1 (upV ((x::r).map encI))::rowsH n.pens)) H.length _ (q00e (H.length+(T.length+2)) n.pens)
    (hrow _ _) (hes _) (mg _ _) (by simp) (by omega) (by omega)
   simp only [q091,q0c6,hset] at key
   rw [hsucc]
   simp at c1 c2 key
   simp [-getElem?_pos,hlt,hix,q00h,subs,q001,q013,hrow,hes,mg,ms,hL,c1,c2,q094,key,w1]
 ·rintro _-
  refine ⟨?_,by simp [q093]⟩
  simp [q092,q093]
theorem q0e9 (base id:Nat) (G:Heap) (d:Nat) (L K:List Int) (h:Eng.rowAt G id=some (1,upV (K.map encI))∨L=[]) (hb:base≤id) (hl:K.length=L.length):frz base G (d+1) (q00e id L)=some (.sl (K.map encI)):=by
 cases L with
 |nil=>
  have:K=[]:=by simpa using hl
  subst this;rfl
 |cons x r=>
  rcases h with h|h
  ·rw [q04w,q09o,if_pos hb,h,q0ay];simp [hl]
   rw [←List.length_cons (a:=x) (as:=r),←hl];simp
  ·cases h
theorem q0iq (s:Int) (n:Note) (H0:Heap) (U:Heap):Eng.rowAt (H0++(noteH s n++U)) H0.length=some (1,upV ((n.lines.map fun x=>upG x s).map encI))∨n.lines=[]:=by
 unfold noteH
 cases h:n.lines with
 |nil=>exact .inr rfl
 |cons x r=>left;simp
theorem q0ir (s:Int) (n:Note) (H0:Heap) (U:Heap):Eng.rowAt (H0++(noteH s n++U)) (H0.length+(if n.lines=[] then 0 else 1))=some (1,upV (n.pens.map encI))∨n.pens=[]:=by
 unfold noteH
 cases h:n.pens with
 |nil=>exact .inr rfl
 |cons x r=>
  left
  cases h2:n.lines with
  |nil=>simp
  |cons y q=>simp
theorem q0ea (s:Int) (base:Nat): ∀(l:List Note) (H0:Heap),base≤H0.length→allO (allO (frz base (H0++q01s s l) 2)) (q01t s H0.length l)=some (l.map fun n=>q00h (noteG s n))
 |[],_,_=>rfl
 |n::r,H0,hb=>by
  have ih:=q0ea s base r (H0++noteH s n) (by simp;omega)
  rw [List.append_assoc,List.length_append] at ih
  have f1:=q0e9 base H0.length (H0++(noteH s n++q01s s r)) 1 n.lines (n.lines.map fun x=>upG x s) (q0iq s n H0 _) hb (by simp)
  have f2:=q0e9 base (H0.length+(if n.lines=[] then 0 else 1)) (H0++(noteH s n++q01s s r)) 1 n.pens n.pens (q0ir s n H0 _) (by omega) rfl
  simp only [q01s,q01t,noteV,allO,f1,f2,ih,List.map_cons]
  rfl
theorem q0nt (s:Int) (hs:I64 s) (l:List Note) (hl: ∀x∈l,q0h6 x) (hn:l.length≤1000000) (H:Heap):
  clD EE (.p (.fn 194)) [.agg [vI s],q00j l] H=some (q00j (l.map (noteG s)),none):=by
 rw [q002 _ _ _ _ _ _ (noP _) fn194]
 have key:=q0dd s hs l hl hn H
 have hm:l.length<most:=by unfold most;omega
 have fz:=q0ea s H.length l (H++[.row 2 (q01t s (H.length+1) l)]) (by simp)
 have hl2:=q07k s l (H.length+1)
 simp [q092,q093,q043,q01s,q01t] at key fz
 have ht:List.take l.length (q01t s (H.length+1) l)=q01t s (H.length+1) l:=List.take_of_length_le (by omega)
 simp [St.enter,q000,q0qn,hm,key,subs,frzK,hl2,ht,fz]
abbrev q095 (g:Geom):Prop:=I64 g.cols∧I64 g.wide∧I64 g.gap∧I64 g.high∧I64 g.first∧I64 g.grid∧I64 g.rule∧I64 g.sep∧I64 g.noteMost∧I64 g.topMost∧I64 g.botMost∧I64 g.topMany∧I64 g.botMany∧I64 g.club∧I64 g.widow∧I64 g.split∧I64 g.defer∧I64 g.spare
structure okJob (j:Job):Prop where
 g:q095 j.g
 items: ∀x∈j.items,q05w x
 notes: ∀x∈j.notes,q0h6 x
 floats: ∀x∈j.floats,q0da x
 n1:j.items.length≤1000000
 n2:j.notes.length≤1000000
 n3:j.floats.length≤1000000
def q06z (s:Int) (l:List Float) (u:List V) (g:Geom) (a b:V) (H:Heap) (M:List Float) (i:Nat):St:=
 ⟨[(2,.lptr 2 0),(3,.lptr 3 0),(4,.ptr (H.length+1) 0),(44,vI l.length),(45,vI i)],[(2,u),(3,[vI s])],H++[.row 3 (upV (M.map q00a)),.box (cGeom g++[a,b,.row H.length l.length 0 l.length])],H.length,[]⟩
def q09p (s:Int) (l:List Float) (u:List V) (g:Geom) (a b:V) (H:Heap) (M:List Float):Ex×St:=
 (.exit 0,⟨[(2,.lptr 2 0),(3,.lptr 3 0),(4,.ptr (H.length+1) 0),(44,vI l.length),(45,vI l.length),(46,.p (.bool false))],[(2,u),(3,[vI s])],H++[.row 3 (upV (M.map q00a)),.box (cGeom g++[a,b,.row H.length l.length 0 l.length])],H.length,[]⟩)
theorem q0cb (s:Int) (hs:I64 s) (l:List Float) (hl: ∀x∈l,q0da x) (hn:l.length≤1000000) (u:List V) (g:Geom) (a b:V) (H:Heap):
  evD EE q08o (q06z s l u g a b H l 0)=some (q09p s l u g a b H (l.map (q01a s))):=by
 unfold q08o
 refine (q017 l (q06z s l u g a b H) (fun M k=>M.length=l.length∧M.drop k=l.drop k) (fun M k x=>M.set k (q01a s x)) (q09p s l u g a b H) (fun _ _=>rfl) ?_ ?_ l 0 ⟨rfl,rfl⟩ (Nat.zero_le _)).trans ?_
 ·rintro M i x ⟨hM,hd⟩ hx
  have hlt:=(List.getElem?_eq_some_iff.1 hx).1
  have hMx:M[i]? =some x:=by
   have:=congrArg (·[0]?) hd
   simpa [List.getElem?_drop,hx] using this
  have w:IntKind.i64.wrap ((i:Int)+1)=((i+1:Nat):Int):=w64 (by omega) (by omega)
  have ho:=hl x (List.mem_of_getElem? hx)
  have hu:(upV (M.map q00a))[i]? =some ((q00a x).map .p):=by simp [upV,hMx]
  have inv:(M.set i (q01a s x)).length=l.length∧(M.set i (q01a s x)).drop (i+1)=l.drop (i+1):=by
   refine ⟨by simp [hM],?_⟩
   rw [List.drop_set_of_lt (Nat.lt_succ_self i)]
   have:=congrArg (List.drop 1) hd
   simpa [List.drop_drop,Nat.add_comm] using this
  refine ⟨?_,inv⟩
  have hrow: ∀U:Heap,Eng.rowAt (H++DObj.row 3 (upV (M.map q00a))::U) H.length=some (3,upV (M.map q00a)):=fun U=>by simp
  have hlen:(upV (M.map q00a)).length=l.length:=by simp [hM]
  have hj:((q00a x).map V.p)[1]? =some (vI x.h):=rfl
  have t1:=fun U:Heap=>q07j 197 (fun n=>upG n s) x.h s (H++DObj.row 3 (upV (M.map q00a))::U) H.length l.length i 1 3 _ _ (hrow U) hlen hu hj (by simp) (fun H'=>q06w x.h s H' ho.2.1 hs)
  have e:(upV (M.map q00a)).set i (((q00a x).map V.p).set 1 (vI (upG x.h s)))=upV ((M.set i (q01a s x)).map q00a):=by
   rw [←q05e];rfl
  simp only [e] at t1
  simp [-getElem?_pos,q06z,hlt,q013,hM,hu,q00a,subs,t1,w]
 ·rintro M ⟨hM,hd⟩
  simp [q06z,q09p]
 ·have:=q07h (q01a s) l []
  simp at this
  simp [this]
theorem q0k0 (j:Job) (ok:okJob j) (H:Heap):clD EE (.p (.fn 73)) [vJob j] H=some (vJob (snapG j),none):=by
 rw [q002 _ _ _ _ _ _ (noP _) fn73]
 obtain ⟨g,items,notes,floats⟩:=j
 have hg:=ok.g
 simp only [q095] at hg
 by_cases c:g.grid<1
 ·simp [St.enter,q000,subs,q001,c,snapG]
 ·have h1:=q0qw g.grid hg.2.2.2.2.2.1 items ok.items ok.n1 H
  have h2:=q0nt g.grid hg.2.2.2.2.2.1 notes ok.notes ok.n2 H
  have hc:=q04e _ 3 _ H q00a (fun _=>rfl) q0db floats (by have:=ok.n3;simp only at this;unfold most;omega)
  have i1:=fun H'=>q0b0 g.high g.grid H' hg.2.2.2.1 hg.2.2.2.2.2.1
  have i2:=fun H'=>q0b0 g.first g.grid H' hg.2.2.2.2.1 hg.2.2.2.2.2.1
  have i3:=fun H'=>q06w g.rule g.grid H' hg.2.2.2.2.2.2.1 hg.2.2.2.2.2.1
  have i4:=fun H'=>q06w g.sep g.grid H' hg.2.2.2.2.2.2.2.1 hg.2.2.2.2.2.1
  obtain ⟨I,hI⟩: ∃I,(items.map (itemG g.grid)).map q003=I:=⟨_,rfl⟩
  obtain ⟨N,hN⟩: ∃I,(notes.map (noteG g.grid)).map q00h=I:=⟨_,rfl⟩
  have hj:snapG ⟨g,items,notes,floats⟩=⟨geomG g,items.map (itemG g.grid),notes.map (noteG g.grid),floats.map (q01a g.grid)⟩:=if_neg c
  rw [hj]
  show _=some (V.agg (cGeom (geomG g)++[.p (.sl ((items.map (itemG g.grid)).map q003)),.p (.sl ((notes.map (noteG g.grid)).map q00h)),q00g (floats.map (q01a g.grid))]),none)
  simp only [q004,q00j,hI,hN] at h1 h2⊢
  clear hj hI hN
  cases floats with
  |nil=>
   have b1:=q066 196 (fun n=>downG n g.grid) g.high g.first g.grid (H++[.box (cGeom g++[.p (.sl I),.p (.sl N),.nils])])
    H.length 3 4 _ (by simp;rfl) rfl rfl (by decide) (by simp) i1 i2
   have b2:=q066 197 (fun n=>upG n g.grid) g.rule g.sep g.grid (H++[.box (cGeom {g with high:=downG g.high g.grid,first:=downG g.first g.grid}++[.p (.sl I),.p (.sl N),.nils])])
    H.length 6 7 _ (by simp;rfl) rfl rfl (by decide) (by simp) i3 i4
   have key: ∀u cs,evD EE q08o ⟨[(2,.lptr 2 0),(3,.lptr 3 0),(4,.ptr H.length 0),(44,vI 0),(45,vI 0)],[(2,u),(3,[vI g.grid])],H++[.box cs],H.length,[]⟩=
     some (.exit 0,⟨[(2,.lptr 2 0),(3,.lptr 3 0),(4,.ptr H.length 0),(44,vI 0),(45,vI 0),(46,.p (.bool false))],[(2,u),(3,[vI g.grid])],H++[.box cs],H.length,[]⟩):=by
    intro u cs
    unfold q08o
    rw [q008]
    simp
   simp [q00e,q032] at hc
   simp at b1 b2
   simp [St.enter,q000,subs,q001,c,h1,h2,hc,b1,b2,key,geomG]
  |cons x r=>
   have b1:=q066 196 (fun n=>downG n g.grid) g.high g.first g.grid (H++[.row 3 (upV ((x::r).map q00a)),.box (cGeom g++[.p (.sl I),.p (.sl N),.row H.length (x::r).length 0 (x::r).length])])
    (H.length+1) 3 4 _ (by simp;rfl) rfl rfl (by decide) (by simp) i1 i2
   have b2:=q066 197 (fun n=>upG n g.grid) g.rule g.sep g.grid (H++[.row 3 (upV ((x::r).map q00a)),.box (cGeom {g with high:=downG g.high g.grid,first:=downG g.first g.grid}++[.p (.sl I),.p (.sl N),.row H.length (x::r).length 0 (x::r).length])])
    (H.length+1) 6 7 _ (by simp;rfl) rfl rfl (by decide) (by simp) i3 i4
   have key:=fun u=>q0cb g.grid hg.2.2.2.2.2.1 (x::r) ok.floats ok.n3 u (geomG g) (.p (.sl I)) (.p (.sl N)) H
   simp [q00e,q032] at hc
   simp at b1 b2
   simp [q06z,q09p,geomG] at key
   simp [St.enter,q000,subs,q001,c,h1,h2,hc,b1,b2,key,geomG]
def off (s n:Int):Bool:= !decide (n.tmod s=0)
theorem q0qy:EE.fns 509=some (idxI 1 false):=fn509
theorem q0qz:EE.fns 489=some (conI 509):=fn489
theorem q0r0 (hv:V) (p:Int→Bool) (l:List Int) (H:Heap) (ho:(normA hv).outB=true) (ho2:normA hv=hv) (hn:l.length≤1000000) (hH: ∀x∈l,clD EE hv [vI x] H=some (vB (p x),none)):
  clD EE (.p (.fn 489)) [sli l,hv] H=some (vB (l.any p),none):=
 q0wp _ _ (noP _) q0qz (sli l) hv p l H rfl rfl ho ho2 (q08y _ 1 false encI (fun x=>vI x) (noP _) q0qy (fun _=>rfl) (fun _=>rfl) (fun _=>rfl) (fun _=>rfl) l (by omega) hv p H hH)
def lenOK (n:Int):Bool:= !(decide (n<0)||decide (1073741823<n))
def q00c (x:Item):Item:=if x.k=1 then ⟨1,x.h,x.f,0,0,0,0⟩ else if x.k=2 then ⟨2,x.h,0,x.str,x.ord,x.shr,0⟩ else if x.k=7 then ⟨7,0,0,0,0,0,0⟩ else ⟨x.k,0,0,0,0,0,x.n⟩
def upTo (m n:Int):Bool:=decide (0≤n)&&decide (n≤m)
def nOk (x:Item):Bool:=if x.k=3 then decide (x.n= -10000)||upTo 10000 x.n else if x.k=4 then upTo 1048576 x.n else if x.k=5 then upTo 511 x.n else if x.k=6 then upTo 255 x.n else upTo 0 x.n
def q00x (x:Item):Bool:=decide (1≤x.k)&&decide (x.k≤7)&&decide (q00c x=x)&&nOk x&&(lenOK x.h&&lenOK x.str&&lenOK x.shr)&&upTo 3 x.f&&upTo 3 x.ord&& !(decide (x.k=2)&&decide (x.h<x.shr))
theorem q07l (m n:Int) (p:Nat) (H:Heap) (hb:Eng.boxAt H p=some [vI m]):clD EE (.p (.fn 488)) [vI n,.ptr p 0] H=some (vB (upTo m n),none):=by
 rw [q002 _ _ _ _ _ _ (noP _) fn488]
 have e:subs [vI m] 0 1=some [vI m]:=rfl
 by_cases c:0≤n
 ·simp [St.enter,q000,hb,e,upTo,c]
 ·simp [St.enter,q000,upTo,c]
theorem q038 (m:Int) (H:Heap):clD EE (.p (.fn 443)) [vI m] H=some (.fn (.func 488) [] [.ptr H.length 0],some (H++[.box [vI m]],[])):=by
 rw [q002 _ _ _ _ _ _ (noP _) fn443]
 simp [St.enter,q000]
theorem q0is (f:FuncId) (H:Heap):clD EE (.p (.fn 475)) [.p (.fn f)] H=some (.fn (.func 476) [] [.ptr H.length 0],some (H++[.box [.p (.fn f)]],[])):=by
 rw [q002 _ _ _ _ _ _ (noP _) fn475]
 simp [St.enter,q000]
theorem q0h8 (f:FuncId) (g:Int→Item) (x:Item) (p:Nat) (H:Heap) (hb:Eng.boxAt H p=some [.p (.fn f)]) (hg: ∀H',clD EE (.p (.fn f)) [vI x.n] H'=some (vItem (g x.n),none)):
  clD EE (.p (.fn 476)) [vItem x,.ptr p 0] H=some (vItem (g x.n),none):=by
 rw [q002 _ _ _ _ _ _ (noP _) fn476]
 have h:=hg H
 simp [St.enter,q000,hb,subs,h,q001]
theorem q0wr (h f:Int) (H:Heap):clD EE (.p (.fn 478)) [vI h,vI f] H=some (vItem ⟨1,h,f,0,0,0,0⟩,none):=by
 rw [q002 _ _ _ _ _ _ (noP _) fn478]
 simp [St.enter,q000,subs,q001]
theorem q0uu (h s o r:Int) (H:Heap):clD EE (.p (.fn 480)) [vI h,vI s,vI o,vI r] H=some (vItem ⟨2,h,0,s,o,r,0⟩,none):=by
 rw [q002 _ _ _ _ _ _ (noP _) fn480]
 simp [St.enter,q000,subs,q001]
theorem q0it (n:Int) (H:Heap):clD EE (.p (.fn 481)) [vI n] H=some (vItem ⟨3,0,0,0,0,0,n⟩,none):=by
 rw [q002 _ _ _ _ _ _ (noP _) fn481]
 simp [St.enter,q000,subs,q001]
theorem q0uv (n:Int) (H:Heap):clD EE (.p (.fn 483)) [vI n] H=some (vItem ⟨4,0,0,0,0,0,n⟩,none):=by
 rw [q002 _ _ _ _ _ _ (noP _) fn483]
 simp [St.enter,q000,subs,q001]
theorem q0h9 (n:Int) (H:Heap):clD EE (.p (.fn 484)) [vI n] H=some (vItem ⟨5,0,0,0,0,0,n⟩,none):=by
 rw [q002 _ _ _ _ _ _ (noP _) fn484]
 simp [St.enter,q000,subs,q001]
theorem q0f3 (n:Int) (H:Heap):clD EE (.p (.fn 485)) [vI n] H=some (vItem ⟨6,0,0,0,0,0,n⟩,none):=by
 rw [q002 _ _ _ _ _ _ (noP _) fn485]
 simp [St.enter,q000,subs,q001]
theorem q0l5 (H:Heap):clD EE (.p (.fn 487)) [] H=some (vItem ⟨7,0,0,0,0,0,0⟩,none):=by
 rw [q002 _ _ _ _ _ _ (noP _) fn487]
 simp [St.enter,q000,subs,q001]
theorem q0r1 (x:Item) (H:Heap):clD EE (.p (.fn 477)) [vItem x] H=some (vItem ⟨1,x.h,x.f,0,0,0,0⟩,none):=by
 rw [q002 _ _ _ _ _ _ (noP _) fn477]
 simp [St.enter,q000,subs,q001,q0wr]
theorem q0r2 (x:Item) (H:Heap):clD EE (.p (.fn 479)) [vItem x] H=some (vItem ⟨2,x.h,0,x.str,x.ord,x.shr,0⟩,none):=by
 rw [q002 _ _ _ _ _ _ (noP _) fn479]
 simp [St.enter,q000,subs,q001,q0uu]
theorem q0r3 (x:Item) (H:Heap):clD EE (.p (.fn 486)) [vItem x] H=some (vItem ⟨7,0,0,0,0,0,0⟩,none):=by
 rw [q002 _ _ _ _ _ _ (noP _) fn486]
 simp [St.enter,q000,subs,q001,q0l5]
theorem q0nu (n:Int) (H:Heap):clD EE (.p (.fn 482)) [vI n] H=some (vB (decide (n= -10000)||upTo 10000 n),none):=by
 rw [q002 _ _ _ _ _ _ (noP _) fn482]
 have h:=q07l 10000 n H.length (H++[.box [vI 10000]]) (by simp)
 by_cases c:n= -10000
 ·simp [St.enter,q000,c]
 ·simp [St.enter,q000,c,q038,h]
def formH:Heap:=[.box [vI 0],.box [vI 0],.box [.p (.fn 481)],.box [.p (.fn 483)],.box [vI 1048576],.box [.p (.fn 484)],.box [vI 511],.box [.p (.fn 485)],.box [vI 255],.box [vI 0]]
def up1 (n:Nat):V:= .fn (.func 488) [] [.ptr n 0]
def num1 (n:Nat):V:= .fn (.func 476) [] [.ptr n 0]
def formV (n:Nat):List (List V):=[[.p (.fn 477),up1 n],[.p (.fn 479),up1 (n+1)],[num1 (n+2),.p (.fn 482)],[num1 (n+3),up1 (n+4)],[num1 (n+5),up1 (n+6)],[num1 (n+7),up1 (n+8)],[.p (.fn 486),up1 (n+9)]]
theorem q0r4 (H:Heap):clD EE (.p (.fn 442)) [] H=some (.vsl (formV H.length),some (H++formH,[])):=by
 rw [q002 _ _ _ _ _ _ (noP _) fn442]
 simp [St.enter,q000,q001,q038,q0is,formV,formH,up1,num1]
theorem q0r5 (x:Item) (h1:1≤x.k) (h7:x.k≤7) (H:Heap): ∃sv nv,(∀H',ixsI H' (.vsl (formV H.length)) (.p (.int .i64 (x.k-1))) 2=some (.eptr [sv,nv] 0))∧sv.oneB=true∧nv.oneB=true∧sv.cells=[sv]∧nv.cells=[nv]∧sv.notL=true∧nv.notL=true∧
  (∀T,clD EE sv [vItem x] (H++(formH++T))=some (vItem (q00c x),none))∧(∀T,clD EE nv [vI x.n] (H++(formH++T))=some (vB (nOk x),none)):=by
 have hk:x.k=1∨x.k=2∨x.k=3∨x.k=4∨x.k=5∨x.k=6∨x.k=7:=by omega
 have up: ∀(i:Nat) (m:Int) T,formH[i]? =some (.box [vI m])→clD EE (up1 (H.length+i)) [vI x.n] (H++(formH++T))=some (vB (upTo m x.n),none):=fun i m T hi=>by
  unfold up1
  rw [q020]
  refine q07l m x.n (H.length+i) _ ?_
  have hlt:=(List.getElem?_eq_some_iff.1 hi).1
  rw [q08v];unfold Eng.boxAt;rw [List.getElem?_append_left hlt,hi]
 have nm: ∀(i:Nat) (f:FuncId) (g:Int→Item) T,formH[i]? =some (.box [.p (.fn f)])→(∀H',clD EE (.p (.fn f)) [vI x.n] H'=some (vItem (g x.n),none))→clD EE (num1 (H.length+i)) [vItem x] (H++(formH++T))=some (vItem (g x.n),none):=fun i f g T hi hg=>by
  unfold num1
  rw [q020]
  refine q0h8 f g x (H.length+i) _ ?_ hg
  have hlt:=(List.getElem?_eq_some_iff.1 hi).1
  rw [q08v];unfold Eng.boxAt;rw [List.getElem?_append_left hlt,hi]
 rcases hk with k|k|k|k|k|k|k
 ·refine ⟨.p (.fn 477),up1 H.length,fun H'=>by simp [k,ixsI,ixsV,formV],rfl,rfl,rfl,rfl,rfl,rfl,fun T=> ?_,fun T=> ?_⟩
  ·rw [q0r1];simp [q00c,k]
  ·rw [show up1 H.length=up1 (H.length+0) from rfl,up 0 0 T rfl];simp [nOk,k]
 ·refine ⟨.p (.fn 479),up1 (H.length+1),fun H'=>by simp [k,ixsI,ixsV,formV],rfl,rfl,rfl,rfl,rfl,rfl,fun T=> ?_,fun T=> ?_⟩
  ·rw [q0r2];simp [q00c,k]
  ·rw [up 1 0 T rfl];simp [nOk,k]
 ·refine ⟨num1 (H.length+2),.p (.fn 482),fun H'=>by simp [k,ixsI,ixsV,formV],rfl,rfl,rfl,rfl,rfl,rfl,fun T=> ?_,fun T=> ?_⟩
  ·rw [nm 2 481 (fun n=>⟨3,0,0,0,0,0,n⟩) T rfl (fun H'=>q0it x.n H')];simp [q00c,k]
  ·rw [q0nu];simp [nOk,k]
 ·refine ⟨num1 (H.length+3),up1 (H.length+4),fun H'=>by simp [k,ixsI,ixsV,formV],rfl,rfl,rfl,rfl,rfl,rfl,fun T=> ?_,fun T=> ?_⟩
  ·rw [nm 3 483 (fun n=>⟨4,0,0,0,0,0,n⟩) T rfl (fun H'=>q0uv x.n H')];simp [q00c,k]
  ·rw [up 4 1048576 T rfl];simp [nOk,k]
 ·refine ⟨num1 (H.length+5),up1 (H.length+6),fun H'=>by simp [k,ixsI,ixsV,formV],rfl,rfl,rfl,rfl,rfl,rfl,fun T=> ?_,fun T=> ?_⟩
  ·rw [nm 5 484 (fun n=>⟨5,0,0,0,0,0,n⟩) T rfl (fun H'=>q0h9 x.n H')];simp [q00c,k]
  ·rw [up 6 511 T rfl];simp [nOk,k]
 ·refine ⟨num1 (H.length+7),up1 (H.length+8),fun H'=>by simp [k,ixsI,ixsV,formV],rfl,rfl,rfl,rfl,rfl,rfl,fun T=> ?_,fun T=> ?_⟩
  ·rw [nm 7 485 (fun n=>⟨6,0,0,0,0,0,n⟩) T rfl (fun H'=>q0f3 x.n H')];simp [q00c,k]
  ·rw [up 8 255 T rfl];simp [nOk,k]
 ·refine ⟨.p (.fn 486),up1 (H.length+9),fun H'=>by simp [k,ixsI,ixsV,formV],rfl,rfl,rfl,rfl,rfl,rfl,fun T=> ?_,fun T=> ?_⟩
  ·rw [q0r3];simp [q00c,k]
  ·rw [up 9 0 T rfl];simp [nOk,k]
theorem q0r6 (n:Int) (H:Heap):clD EE (.p (.fn 490)) [vI n] H=some (vB (!lenOK n),none):=by
 rw [q002 _ _ _ _ _ _ (noP _) fn490]
 by_cases c:n<0
 ·simp [St.enter,q000,lenOK,c]
 ·simp [St.enter,q000,lenOK,c]
theorem q0uw (a b c:Int) (H:Heap):clD EE (.p (.fn 444)) [.p (.sl [[.int .i64 a],[.int .i64 b],[.int .i64 c]])] H=some (vB (lenOK a&&lenOK b&&lenOK c),none):=by
 rw [q002 _ _ _ _ _ _ (noP _) fn444]
 have h:=q0r0 (.p (.fn 490)) (fun n=> !lenOK n) [a,b,c] H rfl rfl (by simp) (fun x _=>q0r6 x H)
 simp only [sli,List.map_cons,List.map_nil,encI] at h
 simp [St.enter,q000,h]
 cases lenOK a<;>cases lenOK b<;>cases lenOK c<;>rfl
theorem q0ad (x y:Item):q00d [true,true,true,true,true,true,true] [vI x.k,vI x.h,vI x.f,vI x.str,vI x.ord,vI x.shr,vI x.n] [vI y.k,vI y.h,vI y.f,vI y.str,vI y.ord,vI y.shr,vI y.n]=some (decide (x=y)):=by
 obtain ⟨a,b,c,d,e,f,g⟩:=x
 obtain ⟨a',b',c',d',e',f',g'⟩:=y
 simp [Bool.decide_and]
theorem q0ha (x:Item) (H:Heap):clD EE (.p (.fn 402)) [vItem x] H=some (vI (if q00x x=true then 0 else 8),none):=by
 rw [q002 _ _ _ _ _ _ (noP _) fn402]
 by_cases c1:x.k<1
 ·have e:q00x x=false:=by
   have: ¬1≤x.k:=by omega
   simp [q00x,this]
  simp [St.enter,q000,subs,c1,e]
 ·by_cases c7:7<x.k
  ·have e:q00x x=false:=by
    have: ¬x.k≤7:=by omega
    simp [q00x,this]
   simp [St.enter,q000,subs,c1,c7,e]
  ·obtain ⟨sv,nv,f1,f2,f3,f4,f5,f8,f9,f6,f7⟩:=q0r5 x (by omega) (by omega) H
   have w:IntKind.i64.wrap (x.k-1)=x.k-1:=w64 (by omega) (by omega)
   have g6:=f6 [.box [vI 3]]
   have g7:=f7 [.box [vI 3]]
   have hb:Eng.boxAt (H++(formH++[.box [vI 3]])) (H.length+formH.length)=some [vI 3]:=by simp
   have t1:=q07l 3 x.f (H.length+formH.length) _ hb
   have t2:=q07l 3 x.ord (H.length+formH.length) _ hb
   have hl:=q0uw x.h x.str x.shr (H++(formH++[.box [vI 3]]))
   have he:=q0ad (q00c x) x
   have hf:=q0r4 H
   have a1:(1:Int)≤x.k:=by omega
   have a7:x.k≤7:=by omega
   unfold q00x
   simp only [a1,a7,decide_true,Bool.true_and]
   generalize formV H.length=fv at*
   generalize formH=FH at*
   generalize q00c x=y at*
   cases e1:decide (y=x) with
   |false=>
    rw [e1] at he
    simp [-q00l,St.enter,q000,subs,q001,c1,c7,hf,f1,f2,f3,f4,f5,f8,f9,w,q038,g6,he]
   |true=>
    rw [e1] at he
    cases e2:nOk x with
    |false=>
     rw [e2] at g7
     simp [-q00l,St.enter,q000,subs,q001,c1,c7,hf,f1,f2,f3,f4,f5,f8,f9,w,q038,g6,g7,he]
    |true=>
     rw [e2] at g7
     cases e3:(lenOK x.h&&lenOK x.str&&lenOK x.shr) with
     |false=>
      rw [e3] at hl
      simp [-q00l,St.enter,q000,subs,q001,c1,c7,hf,f1,f2,f3,f4,f5,f8,f9,w,q038,g6,g7,he,hl]
     |true=>
      rw [e3] at hl
      cases e4:upTo 3 x.f with
      |false=>
       rw [e4] at t1
       simp [-q00l,St.enter,q000,subs,q001,c1,c7,hf,f1,f2,f3,f4,f5,f8,f9,w,q038,g6,g7,he,hl,t1]
      |true=>
       rw [e4] at t1
       cases e5:upTo 3 x.ord with
       |false=>
        rw [e5] at t2
        simp [-q00l,St.enter,q000,subs,q001,c1,c7,hf,f1,f2,f3,f4,f5,f8,f9,w,q038,g6,g7,he,hl,t1,t2]
       |true=>
        rw [e5] at t2
        by_cases k2:x.k=2
        ·have w1:IntKind.i64.wrap 1=1:=w64 (by omega) (by omega)
         have e21:(2:Int)-1=1:=rfl
         rw [k2] at he
         simp only [vItem,k2,e21] at f1 g6
         by_cases k3:x.h<x.shr
         ·simp [-q00l,St.enter,q000,subs,q001,c1,c7,hf,f1,f2,f3,f4,f5,f8,f9,w1,q038,g6,g7,he,hl,t1,t2,k2,k3]
         ·simp [-q00l,St.enter,q000,subs,q001,c1,c7,hf,f1,f2,f3,f4,f5,f8,f9,w1,q038,g6,g7,he,hl,t1,t2,k2,k3]
        ·simp [-q00l,St.enter,q000,subs,q001,c1,c7,hf,f1,f2,f3,f4,f5,f8,f9,w,q038,g6,g7,he,hl,t1,t2,k2]
def sndIC:IC→IC
 | .seq _ b=>b
 |c=>c
def fstIC:IC→IC
 | .seq a _=>a
 |c=>c
def rTail:IC:=sndIC (sndIC (sndIC ir204.body))
theorem q0b3 (n:Int) (H:Heap):clD EE (.p (.fn 339)) [vI n] H=some (vB (lenOK n),none):=by
 rw [q002 _ _ _ _ _ _ (noP _) fn339]
 by_cases c:n<0
 ·have c2: ¬0≤n:=by omega
  simp [St.enter,q000,lenOK,c,c2]
 ·have c2:0≤n:=by omega
  by_cases d:n≤1073741823
  ·have d2: ¬1073741823<n:=by omega
   simp [St.enter,q000,lenOK,c,c2,d,d2]
  ·have d2:1073741823<n:=by omega
   simp [St.enter,q000,lenOK,c,c2,d,d2]
def tailF (x y:Item):Bool:=decide (x=y)&&lenOK x.h&&lenOK x.str&&lenOK x.shr&&decide (0≤x.f)&&decide (x.f≤3)&&decide (0≤x.ord)&&decide (x.ord≤3)&&(!decide (x.k=2)||decide (x.shr≤x.h))
abbrev cItem (x:Item):List V:=[vI x.k,vI x.h,vI x.f,vI x.str,vI x.ord,vI x.shr,vI x.n]
theorem q0ux (x y:Item) (H:Heap) (e:List (Nat×V)):evD EE rTail ⟨(1,.lptr 1 0)::(3,.lptr 3 0)::e,[(1,cItem x),(3,cItem y)],H,H.length,[]⟩=some (.ret,⟨[(2,vB (tailF x y))],[],H,H.length,[]⟩):=by
 simp only [rTail,ir204,sndIC]
 have he:=q0ad x y
 have l1:=q0b3 x.h H
 have l2:=q0b3 x.str H
 have l3:=q0b3 x.shr H
 unfold tailF
 cases e1:decide (x=y) with
 |false=>rw [e1] at he;simp [-q00l,subs,he]
 |true=>
  rw [e1] at he
  cases e2:lenOK x.h with
  |false=>rw [e2] at l1;simp [-q00l,subs,he,l1]
  |true=>
   rw [e2] at l1
   cases e3:lenOK x.str with
   |false=>rw [e3] at l2;simp [-q00l,subs,he,l1,l2]
   |true=>
    rw [e3] at l2
    cases e4:lenOK x.shr with
    |false=>rw [e4] at l3;simp [-q00l,subs,he,l1,l2,l3]
    |true=>
     rw [e4] at l3
     by_cases a1:0≤x.f
     ·by_cases a2:x.f≤3
      ·by_cases a3:0≤x.ord
       ·by_cases a4:x.ord≤3
        ·generalize hk:decide (x.k=2)=k2
         cases k2 with
         |true=>
          have k2:x.k=2:=by simpa using hk
          rw [k2] at he
          simp [-q00l,subs,he,l1,l2,l3,a1,a2,a3,a4,k2]
         |false=>
          have k2: ¬x.k=2:=by simpa using hk
          simp [-q00l,subs,he,l1,l2,l3,a1,a2,a3,a4,k2]
        ·simp [-q00l,subs,he,l1,l2,l3,a1,a2,a3,a4]
       ·simp [-q00l,subs,he,l1,l2,l3,a1,a2,a3]
      ·simp [-q00l,subs,he,l1,l2,l3,a1,a2]
     ·simp [-q00l,subs,he,l1,l2,l3,a1]
theorem q0r7 (x:Item) (h1:1≤x.k) (h7:x.k≤7):q00x x=(nOk x&&tailF x (q00c x)):=by
 unfold q00x tailF upTo
 have e:decide (q00c x=x)=decide (x=q00c x):=by
  by_cases h:x=q00c x
  ·simp [←h]
  ·have: ¬q00c x=x:=fun e=>h e.symm
   simp [h,this]
 rw [e]
 have e2:(!(decide (x.k=2)&&decide (x.h<x.shr)))=(!decide (x.k=2)||decide (x.shr≤x.h)):=by
  by_cases a:x.k=2<;>by_cases b:x.h<x.shr
  ·have: ¬x.shr≤x.h:=by omega
   simp [a,b,this]
  ·have:x.shr≤x.h:=by omega
   simp [a,b,this]
  ·simp [a]
  ·simp [a]
 rw [e2]
 simp only [h1,h7,decide_true,Bool.true_and]
 generalize nOk x=b1
 generalize decide (x=q00c x)=b2
 cases b1<;>cases b2<;>simp [Bool.and_assoc]
theorem q0nv (x:Item) (H:Heap):clD EE (.p (.fn 204)) [vItem x] H=some (vB (q00x x),none):=by
 rw [q002 _ _ _ _ _ _ (noP _) fn204]
 have key:=q0ux x (q00c x) H
 show finK false [.tmp 2] (evD EE (.seq (fstIC ir204.body) (.seq (fstIC (sndIC ir204.body)) (.seq (fstIC (sndIC (sndIC ir204.body))) rTail))) (St.enter [vItem x] H))=_
 simp only [ir204,sndIC,fstIC]
 by_cases c:1≤x.k∧x.k≤7
 ·rw [q0r7 x c.1 c.2]
  have hk:x.k=1∨x.k=2∨x.k=3∨x.k=4∨x.k=5∨x.k=6∨x.k=7:=by omega
  obtain ⟨k,h,f,str,ord,shr,n⟩:=x
  simp only at hk
  rcases hk with rfl|rfl|rfl|rfl|rfl|rfl|rfl
  ·have e:(nOk ⟨1,h,f,str,ord,shr,n⟩&&tailF ⟨1,h,f,str,ord,shr,n⟩ (q00c ⟨1,h,f,str,ord,shr,n⟩))=tailF ⟨1,h,f,str,ord,shr,n⟩ (q00c ⟨1,h,f,str,ord,shr,n⟩):=by
    by_cases z:n=0
    ·simp [nOk,upTo,z]
    ·simp [tailF,q00c,z]
   rw [e]
   generalize tailF ⟨1,h,f,str,ord,shr,n⟩ (q00c ⟨1,h,f,str,ord,shr,n⟩)=T at key⊢
   simp [q00c] at key
   simp [St.enter,q000,subs,q001,key]
  ·have e:(nOk ⟨2,h,f,str,ord,shr,n⟩&&tailF ⟨2,h,f,str,ord,shr,n⟩ (q00c ⟨2,h,f,str,ord,shr,n⟩))=tailF ⟨2,h,f,str,ord,shr,n⟩ (q00c ⟨2,h,f,str,ord,shr,n⟩):=by
    by_cases z:n=0
    ·simp [nOk,upTo,z]
    ·simp [tailF,q00c,z]
   rw [e]
   generalize tailF ⟨2,h,f,str,ord,shr,n⟩ (q00c ⟨2,h,f,str,ord,shr,n⟩)=T at key⊢
   simp [q00c] at key
   simp [St.enter,q000,subs,q001,key]
  ·generalize tailF ⟨3,h,f,str,ord,shr,n⟩ (q00c ⟨3,h,f,str,ord,shr,n⟩)=T at key⊢
   simp [q00c] at key
   by_cases z:n= -10000
   ·subst z
    simp [St.enter,q000,subs,q001,key,nOk]
   ·by_cases a1:n<0
    ·have a2: ¬0≤n:=by omega
     simp [St.enter,q000,subs,q001,nOk,upTo,z,a1,a2]
    ·have a2:0≤n:=by omega
     by_cases b1:10000<n
     ·have b2: ¬n≤10000:=by omega
      simp [St.enter,q000,subs,q001,nOk,upTo,z,a1,a2,b1,b2]
     ·have b2:n≤10000:=by omega
      simp [St.enter,q000,subs,q001,key,nOk,upTo,z,a1,a2,b1,b2]
  ·generalize tailF ⟨4,h,f,str,ord,shr,n⟩ (q00c ⟨4,h,f,str,ord,shr,n⟩)=T at key⊢
   simp [q00c] at key
   by_cases a1:n<0
   ·have a2: ¬0≤n:=by omega
    simp [St.enter,q000,subs,q001,nOk,upTo,a1,a2]
   ·have a2:0≤n:=by omega
    by_cases b1:1048576<n
    ·have b2: ¬n≤1048576:=by omega
     simp [St.enter,q000,subs,q001,nOk,upTo,a1,a2,b1,b2]
    ·have b2:n≤1048576:=by omega
     simp [St.enter,q000,subs,q001,key,nOk,upTo,a1,a2,b1,b2]
  ·generalize tailF ⟨5,h,f,str,ord,shr,n⟩ (q00c ⟨5,h,f,str,ord,shr,n⟩)=T at key⊢
   simp [q00c] at key
   by_cases a1:n<0
   ·have a2: ¬0≤n:=by omega
    simp [St.enter,q000,subs,q001,nOk,upTo,a1,a2]
   ·have a2:0≤n:=by omega
    by_cases b1:511<n
    ·have b2: ¬n≤511:=by omega
     simp [St.enter,q000,subs,q001,nOk,upTo,a1,a2,b1,b2]
    ·have b2:n≤511:=by omega
     simp [St.enter,q000,subs,q001,key,nOk,upTo,a1,a2,b1,b2]
  ·generalize tailF ⟨6,h,f,str,ord,shr,n⟩ (q00c ⟨6,h,f,str,ord,shr,n⟩)=T at key⊢
   simp [q00c] at key
   by_cases a1:n<0
   ·have a2: ¬0≤n:=by omega
    simp [St.enter,q000,subs,q001,nOk,upTo,a1,a2]
   ·have a2:0≤n:=by omega
    by_cases b1:255<n
    ·have b2: ¬n≤255:=by omega
     simp [St.enter,q000,subs,q001,nOk,upTo,a1,a2,b1,b2]
    ·have b2:n≤255:=by omega
     simp [St.enter,q000,subs,q001,key,nOk,upTo,a1,a2,b1,b2]
  ·have e:(nOk ⟨7,h,f,str,ord,shr,n⟩&&tailF ⟨7,h,f,str,ord,shr,n⟩ (q00c ⟨7,h,f,str,ord,shr,n⟩))=tailF ⟨7,h,f,str,ord,shr,n⟩ (q00c ⟨7,h,f,str,ord,shr,n⟩):=by
    by_cases z:n=0
    ·simp [nOk,upTo,z]
    ·simp [tailF,q00c,z]
   rw [e]
   generalize tailF ⟨7,h,f,str,ord,shr,n⟩ (q00c ⟨7,h,f,str,ord,shr,n⟩)=T at key⊢
   simp [q00c] at key
   simp [St.enter,q000,subs,q001,key]
 ·have e:q00x x=false:=by
   unfold q00x
   by_cases a:1≤x.k
   ·have: ¬x.k≤7:=fun h=>c ⟨a,h⟩
    simp [this]
   ·simp [a]
  have n1: ¬x.k=1:=by omega
  have n2: ¬x.k=2:=by omega
  have n3: ¬x.k=3:=by omega
  have n4: ¬x.k=4:=by omega
  have n5: ¬x.k=5:=by omega
  have n6: ¬x.k=6:=by omega
  have n7: ¬x.k=7:=by omega
  rw [e]
  simp [St.enter,q000,subs,q001,n1,n2,n3,n4,n5,n6,n7]
end Go.EnvOf
