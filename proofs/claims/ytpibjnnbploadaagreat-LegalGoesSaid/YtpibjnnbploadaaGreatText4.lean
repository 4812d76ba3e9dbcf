/- The program's functions and the document's, evaluated. -/
import Derived.Test.YtpibjnnbploadaaGreatText3
import Derived.Test.YtpibjnnbploadaaGreatText2
set_option linter.unusedSimpArgs false
set_option linter.unusedVariables false
namespace Go.EnvOf
open Go Go.Eng
theorem q0cw {e:List V} {j:Nat} {v:V} (h:e[j]? =some v):subs e j 1=some [v]:=by
 obtain ⟨h1,h2⟩:=List.getElem?_eq_some_iff.1 h
 have h3:j+1≤e.length:=h1
 simp [subs,h3,List.drop_eq_getElem_cons h1,h2]
theorem q07p {e:List V} {j:Nat} {v u:V} (h:e[j]? =some v):q001 e j [u]=some (e.set j u):=by
 obtain ⟨h1,h2⟩:=List.getElem?_eq_some_iff.1 h
 have h3:j+1≤e.length:=h1
 simp [q001,h1,h3,List.set_eq_take_append_cons_drop]
theorem q093 (f:FuncId) (g:Int→Int) (n s:Int) (H:Heap) (id tot i j sz:Nat) (es:List (List V)) (e:List V) (hr:Eng.rowAt H id=some (sz,es)) (ht:es.length=tot) (he:es[i]? =some e) (hj:e[j]? =some (vI n)) (hlt:id<H.length)
  (hg: ∀H',clD EE (.p (.fn f)) [vI n,vI s] H'=some (vI (g n),none)):
  clD EE (.p (.fn 195)) [.agg [vI s],.p (.fn f),.vsl [[.rptr id tot i j]]] H=some (.tup [],some (H.set id (.row sz (es.set i (e.set j (vI (g n))))),[id])):=by
 rw [q002 _ _ _ _ _ _ (noP _) fn195]
 have key:evD EE q083 ⟨[(1,.p (.fn f)),(3,.lptr 3 0),(8,.vsl [[.rptr id tot i j]]),(9,.p (.int .i64 1)),(10,.p (.int .i64 0))],[(3,[vI s])],H,H.length,[]⟩=
   some (.exit 0,⟨[(1,.p (.fn f)),(3,.lptr 3 0),(8,.vsl [[.rptr id tot i j]]),(9,.p (.int .i64 1)),(10,.p (.int .i64 1)),(11,.p (.bool false))],[(3,[vI s])],H.set id (.row sz (es.set i (e.set j (vI (g n))))),H.length,[id]⟩):=by
  unfold q083
  have w:IntKind.i64.wrap 1=1:=w64 (by omega) (by omega)
  rw [q005]
  have e3:subs [vI s] 0 1=some [vI s]:=rfl
  have e4:subs [V.rptr id tot i j] 0 1=some [V.rptr id tot i j]:=rfl
  simp [q0cw hj,q07p hj,hr,ht,he,hg,hlt,w,ixsI,ixsV,e3,e4]
  rw [q005]
  simp
 simp [St.enter,q000,key]
theorem q07d (f:FuncId) (g:Int→Int) (n m s:Int) (H:Heap) (id a b:Nat) (cs:List V) (hr:Eng.boxAt H id=some cs) (ha:cs[a]? =some (vI n)) (hb:cs[b]? =some (vI m)) (hab:a≠b) (hlt:id<H.length)
  (hg: ∀H',clD EE (.p (.fn f)) [vI n,vI s] H'=some (vI (g n),none)) (hg2: ∀H',clD EE (.p (.fn f)) [vI m,vI s] H'=some (vI (g m),none)):
  clD EE (.p (.fn 195)) [.agg [vI s],.p (.fn f),.vsl [[.ptr id a],[.ptr id b]]] H=some (.tup [],some (H.set id (.box ((cs.set a (vI (g n))).set b (vI (g m)))),[id,id])):=by
 rw [q002 _ _ _ _ _ _ (noP _) fn195]
 have key:evD EE q083 ⟨[(1,.p (.fn f)),(3,.lptr 3 0),(8,.vsl [[.ptr id a],[.ptr id b]]),(9,.p (.int .i64 2)),(10,.p (.int .i64 0))],[(3,[vI s])],H,H.length,[]⟩=
   some (.exit 0,⟨[(1,.p (.fn f)),(3,.lptr 3 0),(8,.vsl [[.ptr id a],[.ptr id b]]),(9,.p (.int .i64 2)),(10,.p (.int .i64 2)),(11,.p (.bool false))],[(3,[vI s])],H.set id (.box ((cs.set a (vI (g n))).set b (vI (g m)))),H.length,[id,id]⟩):=by
  unfold q083
  have w:IntKind.i64.wrap 1=1:=w64 (by omega) (by omega)
  have w2:IntKind.i64.wrap 2=2:=w64 (by omega) (by omega)
  have e3:subs [vI s] 0 1=some [vI s]:=rfl
  have e4: ∀x:V,subs [x] 0 1=some [x]:=fun _=>rfl
  have hb2:(cs.set a (vI (g n)))[b]? =some (vI m):=by rw [List.getElem?_set_ne hab];exact hb
  have hset:Eng.boxAt (H.set id (.box (cs.set a (vI (g n))))) id=some (cs.set a (vI (g n))):=by simp [Eng.boxAt,List.getElem?_set,hlt]
  rw [q005]
  simp [q0cw ha,q07p ha,hr,hg,hlt,w,ixsI,ixsV,e3,e4]
  rw [q005]
  simp [q0cw hb2,q07p hb2,hset,hg2,hlt,w2,ixsI,ixsV,e3,e4]
  rw [q005]
  simp
 simp [St.enter,q000,key]
def itemG (s:Int) (x:Item):Item:=if x.k=1 then {x with h:=upG x.h s} else if x.k=2 then {x with h:=nearG x.h s,str:=0,ord:=0,shr:=0} else x
def noteG (s:Int) (n:Note):Note:= {n with lines:=n.lines.map fun x=>upG x s}
def q03l (s:Int) (f:Float):Float:= {f with h:=upG f.h s}
def geomG (g:Geom):Geom:= {g with high:=downG g.high g.grid,first:=downG g.first g.grid,rule:=upG g.rule g.grid,sep:=upG g.sep g.grid}
def snapG (j:Job):Job:=if j.g.grid<1 then j else ⟨geomG j.g,j.items.map (itemG j.g.grid),j.notes.map (noteG j.g.grid),j.floats.map (q03l j.g.grid)⟩
abbrev q089 (x:Item):Prop:=I64 x.k∧I64 x.h∧I64 x.f∧I64 x.str∧I64 x.ord∧I64 x.shr∧I64 x.n
abbrev q0f9 (f:Float):Prop:=I64 f.c∧I64 f.h∧I64 f.w
def q06w (s:Int) (l:List Item) (H:Heap) (M:List Item) (i:Nat):St:=
 ⟨[(2,.lptr 2 0),(5,.row H.length l.length 0 l.length),(11,vI l.length),(12,vI i)],[(2,[vI s])],H++[.row 7 (upV (M.map q006))],H.length,[]⟩
def q0dx (s:Int) (l:List Item) (H:Heap) (M:List Item):Ex×St:=
 (.exit 0,⟨[(2,.lptr 2 0),(5,.row H.length l.length 0 l.length),(11,vI l.length),(12,vI l.length),(13,.p (.bool false))],[(2,[vI s])],H++[.row 7 (upV (M.map q006))],H.length,[]⟩)
theorem q0ub (s:Int) (hs:I64 s) (l:List Item) (hl: ∀x∈l,q089 x) (hn:l.length≤1000000) (H:Heap):
  evD EE q081 (q06w s l H l 0)=some (q0dx s l H (l.map (itemG s))):=by
 unfold q081
 refine (q028 l (q06w s l H) (fun M i=>M.length=l.length∧M.drop i=l.drop i) (fun M i x=>M.set i (itemG s x)) (q0dx s l H) (fun _ _=>rfl) ?_ ?_ l 0 ⟨rfl,rfl⟩ (Nat.zero_le _)).trans ?_
 ·rintro M i x ⟨hM,hd⟩ hx
  have hlt:=(List.getElem?_eq_some_iff.1 hx).1
  have hMx:M[i]? =some x:=by
   have:=congrArg (·[0]?) hd
   simpa [List.getElem?_drop,hx] using this
  have w:IntKind.i64.wrap ((i:Int)+1)=((i+1:Nat):Int):=w64 (by omega) (by omega)
  have ho:=hl x (List.mem_of_getElem? hx)
  have hu:(upV (M.map q006))[i]? =some ((q006 x).map .p):=by simp [upV,hMx]
  have hset:M.set i (itemG s x)=M.set i (itemG s x):=rfl
  have inv:(M.set i (itemG s x)).length=l.length∧(M.set i (itemG s x)).drop (i+1)=l.drop (i+1):=by
   refine ⟨by simp [hM],?_⟩
   rw [List.drop_set_of_lt (Nat.lt_succ_self i)]
   have:=congrArg (List.drop 1) hd
   simpa [List.drop_drop,Nat.add_comm] using this
  refine ⟨?_,inv⟩
  have hrow:Eng.rowAt (H++[DObj.row 7 (upV (M.map q006))]) H.length=some (7,upV (M.map q006)):=by simp
  have hlen:(upV (M.map q006)).length=l.length:=by simp [hM]
  have hj:((q006 x).map V.p)[1]? =some (vI x.h):=rfl
  have t1:=q093 197 (fun n=>upG n s) x.h s (H++[DObj.row 7 (upV (M.map q006))]) H.length l.length i 1 7 _ _ hrow hlen hu hj (by simp) (fun H'=>q088 x.h s H' ho.2.1 hs)
  have t2:=q093 330 (fun n=>nearG n s) x.h s (H++[DObj.row 7 (upV (M.map q006))]) H.length l.length i 1 7 _ _ hrow hlen hu hj (by simp) (fun H'=>q0u8 x.h s H' ho.2.1 hs)
  by_cases k1:x.k=1
  ·have e:(upV (M.map q006)).set i (((q006 x).map V.p).set 1 (vI (upG x.h s)))=upV ((M.set i (itemG s x)).map q006):=by
    rw [←q06e];simp [itemG,k1,q006]
   rw [e] at t1
   simp [-getElem?_pos,q06w,hlt,q017,hM,hu,q006,subs,k1,t1,w]
  ·by_cases k2:x.k=2
   ·have g: ∀a,((upV (M.map q006)).set i a)[i]? =some a:=fun a=>by rw [List.getElem?_set_self (by simp [hM,hlt])]
    have e:(upV (M.map q006)).set i [vI x.k,vI (nearG x.h s),vI x.f,vI 0,vI 0,vI 0,vI x.n]=upV ((M.set i (itemG s x)).map q006):=by
     rw [←q06e];simp [itemG,k2,q006]
    rw [k2] at e
    simp [-getElem?_pos,q06w,hlt,q017,hM,hu,q006,subs,q001,k1,k2,t2,w,g]
    simp [q006,upV] at e⊢
    exact e
   ·have e:M.set i (itemG s x)=M:=by
     have:itemG s x=x:=by simp [itemG,k1,k2]
     rw [this]
     refine List.ext_getElem? fun j=> ?_
     rw [List.getElem?_set]
     split
     ·rename_i h;subst h;rw [if_pos (by omega),hMx]
     ·rfl
    rw [e]
    simp [-getElem?_pos,q06w,hlt,q017,hM,hu,q006,subs,q001,k1,k2,w]
 ·rintro M ⟨hM,hd⟩
  simp [q06w,q0dx]
 ·have:=q08x (itemG s) l []
  simp at this
  simp [this]
theorem q0hk:EE.fns 189=some (q05b 7 [vI 0,vI 0,vI 0,vI 0,vI 0,vI 0,vI 0]):=fn189
theorem q0fa:EE.fns 190=some (q05b 3 [vI 0,vI 0,vI 0]):=fn190
theorem q0lg:EE.fns 191=some (q05b 1 [vI 0]):=fn191
theorem q0jn:EE.fns 192=some (q05b 1 [vI 0]):=fn192
def q00n {α:Type} (n:Nat) (l:List α):V:=if l=[] then .nils else .row n l.length 0 l.length
def q03m {α:Type} (enc:α→List PV) (s:Nat) (H:Heap) (l:List α):Option (Heap×List Nat):=if l=[] then none else some (H++[.row s (upV (l.map enc))],[])
theorem q05d {α:Type} (f:FuncId) (s:Nat) (z:List V) (H:Heap) (enc:α→List PV) (hs: ∀x,(enc x).length=s) (hf:EE.fns f=some (q05b s z)) (l:List α) (hm:l.length<most) (hp:EE.prims f=none:=by exact noP _):
  clD EE (.p (.fn f)) [.p (.sl (l.map enc))] H=some (q00n H.length l,q03m enc s H l):=by
 cases l with
 |nil=>exact q0dv EE f s z H _ hp hf rfl
 |cons x r=>
  have:=q0ty EE f s z H (enc x) (r.map enc) hp hf (by simp [hs]) (by simpa using hm)
  simpa [q00n,q03m] using this
theorem q0uc (s:Int) (hs:I64 s) (l:List Item) (hl: ∀x∈l,q089 x) (hn:l.length≤1000000) (H:Heap):
  clD EE (.p (.fn 193)) [.agg [vI s],q00g l] H=some (q00g (l.map (itemG s)),none):=by
 rw [q002 _ _ _ _ _ _ (noP _) fn193]
 have hc:=q05d _ 7 _ H q006 (fun _=>rfl) q0hk l (by unfold most;omega)
 cases l with
 |nil=>
  simp [q00n,q03m] at hc
  have key:evD EE q081 ⟨[(2,.lptr 2 0),(5,.nils),(11,vI 0),(12,vI 0)],[(2,[vI s])],H,H.length,[]⟩=some (.exit 0,⟨[(2,.lptr 2 0),(5,.nils),(11,vI 0),(12,vI 0),(13,.p (.bool false))],[(2,[vI s])],H,H.length,[]⟩):=by
   unfold q081
   rw [q005]
   simp
  simp [St.enter,q000,subs,hc,key]
 |cons x r=>
  have key:=q0ub s hs (x::r) hl hn H
  simp [q00n,q03m] at hc
  simp [q06w,q0dx] at key
  simp [St.enter,q000,subs,hc,key]
def q0ao (s:Int) (w:V) (n i:Nat) (L:List Int) (H0:Nat) (id:Nat) (G:Heap) (B:Nat) (K:List Int) (k:Nat):St:=
 ⟨[(2,.lptr 2 0),(5,.row H0 n 0 n),(6,vI i),(12,w),(13,vI n),(14,vI i),(34,vI L.length),(35,vI k)],[(2,[vI s])],G.set id (.row 1 (upV (K.map encI))),B,[]⟩
def q0dy (s:Int) (w:V) (n i:Nat) (L:List Int) (H0:Nat) (id:Nat) (G:Heap) (B:Nat) (K:List Int):Ex×St:=
 (.exit 2,⟨[(2,.lptr 2 0),(5,.row H0 n 0 n),(6,vI i),(12,w),(13,vI n),(14,vI i),(34,vI L.length),(35,vI L.length),(36,.p (.bool false))],[(2,[vI s])],G.set id (.row 1 (upV (K.map encI))),B,[]⟩)
theorem q0fb (s:Int) (hs:I64 s) (w:V) (n i:Nat) (hi:i<n) (L:List Int) (hL: ∀x∈L,I64 x) (hn:L.length≤1000000) (H0 id:Nat) (G:Heap) (B:Nat) (es:List (List V)) (v2:V)
  (h0:Eng.rowAt G H0=some (2,es)) (he:es.length=n) (hei:es[i]? =some [.row id L.length 0 L.length,v2]) (hid:id<G.length) (hne:id≠H0) (hB:B≤id):
  evD EE q082 (q0ao s w n i L H0 id G B L 0)=some (q0dy s w n i L H0 id G B (L.map fun x=>upG x s)):=by
 unfold q082
 refine (q028 L (q0ao s w n i L H0 id G B) (fun M k=>M.length=L.length∧M.drop k=L.drop k) (fun M k x=>M.set k (upG x s)) (q0dy s w n i L H0 id G B) (fun _ _=>rfl) ?_ ?_ L 0 ⟨rfl,rfl⟩ (Nat.zero_le _)).trans ?_
 ·rintro M k x ⟨hM,hd⟩ hx
  have hlt:=(List.getElem?_eq_some_iff.1 hx).1
  have hMx:M[k]? =some x:=by
   have:=congrArg (·[0]?) hd
   simpa [List.getElem?_drop,hx] using this
  have w1:IntKind.i64.wrap ((k:Int)+1)=((k+1:Nat):Int):=w64 (by omega) (by omega)
  have ho:=hL x (List.mem_of_getElem? hx)
  have hu:(upV (M.map encI))[k]? =some [vI x]:=by simp [upV,hMx,encI]
  have inv:(M.set k (upG x s)).length=L.length∧(M.set k (upG x s)).drop (k+1)=L.drop (k+1):=by
   refine ⟨by simp [hM],?_⟩
   rw [List.drop_set_of_lt (Nat.lt_succ_self k)]
   have:=congrArg (List.drop 1) hd
   simpa [List.drop_drop,Nat.add_comm] using this
  refine ⟨?_,inv⟩
  have hrow:=q0qx G id 1 (upV (M.map encI)) hid
  have hrow0:Eng.rowAt (G.set id (.row 1 (upV (M.map encI)))) H0=some (2,es):=by rw [q0ai _ _ _ _ hne,h0]
  have hlen:(upV (M.map encI)).length=L.length:=by simp [hM]
  have t1:=q093 197 (fun n=>upG n s) x s (G.set id (.row 1 (upV (M.map encI)))) id L.length k 0 1 _ _ hrow hlen hu rfl (by simpa using hid) (fun H'=>q088 x s H' ho hs)
  have e:(upV (M.map encI)).set k [vI (upG x s)]=upV ((M.set k (upG x s)).map encI):=by
   rw [←q06e];rfl
  simp only [List.set_cons_zero,e,List.set_set] at t1
  simp [-getElem?_pos,q0ao,hlt,hi,he,hei,q017,hM,hrow,hrow0,hu,subs,t1,w1,hB]
 ·rintro M ⟨hM,hd⟩
  simp [q0ao,q0dy]
 ·have:=q08x (fun x=>upG x s) L []
  simp at this
  simp [this]
abbrev q0jo (n:Note):Prop:=(∀x∈n.lines,I64 x)∧n.lines.length≤1000000∧n.pens.length≤1000000
def rowsH (l:List Int):Heap:=if l=[] then [] else [.row 1 (upV (l.map encI))]
def noteH (s:Int) (n:Note):Heap:=rowsH (n.lines.map fun x=>upG x s)++rowsH n.pens
def noteV (id:Nat) (n:Note):List V:=[q00n id n.lines,q00n (id+(if n.lines=[] then 0 else 1)) n.pens]
def q01v (s:Int):List Note→Heap
 |[]=>[]
 |n::r=>noteH s n++q01v s r
def q01w (s:Int):Nat→List Note→List (List V)
 |_,[]=>[]
 |id,n::r=>noteV id n::q01w s (id+(noteH s n).length) r
theorem q0dz (s:Int): ∀a b,q01v s (a++b)=q01v s a++q01v s b
 |[],b=>rfl
 |n::r,b=>by simp only [List.cons_append,q01v,q0dz s r b,List.append_assoc]
theorem q0e0 (s:Int): ∀a id b,q01w s id (a++b)=q01w s id a++q01w s (id+(q01v s a).length) b
 |[],id,b=>by simp [q01w,q01v]
 |n::r,id,b=>by simp only [List.cons_append,q01w,q01v,q0e0 s r,List.length_append,Nat.add_assoc]
theorem q094 (s:Int): ∀l id,(q01w s id l).length=l.length
 |[],_=>rfl
 |n::r,id=>by simp only [q01w,List.length_cons,q094 s r]
def q04z (s:Int) (l:List Note) (H:Heap) (i:Nat):Heap:=
 H++[.row 2 (q01w s (H.length+1) (l.take i)++List.replicate (l.length-i) [.nils,.nils])]++q01v s (l.take i)
def q0ap (s:Int) (l:List Note) (H:Heap) (i:Nat):St:=
 ⟨[(2,.lptr 2 0),(5,.row H.length l.length 0 l.length),(12,q00q l),(13,vI l.length),(14,vI i)],[(2,[vI s])],q04z s l H i,H.length,[]⟩
def q0aq (s:Int) (l:List Note) (H:Heap):Ex×St:=
 (.exit 0,⟨[(2,.lptr 2 0),(5,.row H.length l.length 0 l.length),(12,q00q l),(13,vI l.length),(14,vI l.length),(15,.p (.bool false))],[(2,[vI s])],q04z s l H l.length,H.length,[]⟩)
theorem q0jp (s:Int) (l:List Note) (H:Heap) (i:Nat) (n:Note) (hx:l[i]? =some n):
  q04z s l H (i+1)=H++[.row 2 (q01w s (H.length+1) (l.take i)++noteV (H.length+1+(q01v s (l.take i)).length) n::List.replicate (l.length-i-1) [.nils,.nils])]++q01v s (l.take i)++noteH s n:=by
 have e:l.take (i+1)=l.take i++[n]:=by rw [List.take_add_one,hx];rfl
 unfold q04z
 rw [e,q0e0,q0dz]
 simp [q01w,q01v,Nat.sub_sub]
theorem q0ud (H:Heap) (l:List Int) (hm:l.length≤1000000):clD EE (.p (.fn 191)) [sli l] H=some (q00n H.length l,q03m encI 1 H l):=q05d _ 1 _ H encI (fun _=>rfl) q0lg l (by unfold most;omega)
theorem q0r6 (H:Heap) (l:List Int) (hm:l.length≤1000000):clD EE (.p (.fn 192)) [sli l] H=some (q00n H.length l,q03m encI 1 H l):=q05d _ 1 _ H encI (fun _=>rfl) q0jn l (by unfold most;omega)
theorem q0ob (a b c d e f:V) (u:List V) (H:Heap) (B:Nat):evD EE q082 ⟨[(2,a),(5,b),(6,c),(12,d),(13,e),(14,f),(34,vI 0),(35,vI 0)],[(2,u)],H,B,[]⟩=
  some (.exit 2,⟨[(2,a),(5,b),(6,c),(12,d),(13,e),(14,f),(34,vI 0),(35,vI 0),(36,.p (.bool false))],[(2,u)],H,B,[]⟩):=by
 unfold q082
 rw [q005]
 simp
theorem q0y9 {α:Type} {A:List α} {i:Nat} (h:A.length=i) (x:α) (r:List α):(A++x::r)[i]? =some x:=by subst h;simp
theorem q0ya {α:Type} {A:List α} {i:Nat} (h:A.length=i) (x y:α) (r:List α):(A++x::r).set i y=A++y::r:=by subst h;simp
@[simp] theorem q0A9 {α:Type} (n:Nat) (l:List α):(q00n n l).cells=[q00n n l] :=by unfold q00n;split<;>rfl
@[simp] theorem q0Cd {α:Type} (n:Nat) (l:List α):(q00n n l).oneB=true:=by unfold q00n;split<;>rfl
@[simp] theorem q0Ce {α:Type} (n:Nat) (l:List α):(q00n n l).outB=true:=by unfold q00n;split<;>rfl
@[simp] theorem q0Cf {α:Type} (n:Nat) (l:List α):(q00n n l).notL=true:=by unfold q00n;split<;>rfl
@[simp] theorem q0e1 {α:Type} (n:Nat):q00n n ([] :List α)= .nils:=rfl
@[simp] theorem q0ge:rowsH [] =[] :=rfl
@[simp] theorem q05v {α:Type} (n:Nat) (x:α) (r:List α):q00n n (x::r)= .row n (x::r).length 0 (x::r).length:=rfl
@[simp] theorem q0e2 (x:Int) (r:List Int):rowsH (x::r)=[.row 1 (upV ((x::r).map encI))] :=rfl
theorem q0ar (env:List (Nat×V)) (loc:List (Nat×List V)) (hp:Heap) (base:Nat) (dirty:List Nat) (n:Nat) (d:Option Nat) (l:List Int):
  callR ⟨env,loc,hp,base,dirty⟩ false d (some (q00n n l,q03m encI 1 hp l))=some (St.put ⟨env,loc,hp++rowsH l,base,dirty⟩ d (q00n n l)):=by
 unfold q00n q03m rowsH
 split
 ·rename_i h;subst h;simp
 ·simp
theorem q0fc (s:Int) (hs:I64 s) (l:List Note) (hl: ∀x∈l,q0jo x) (hn:l.length≤1000000) (H:Heap):
  evD EE q0ev (q0ap s l H 0)=some (q0aq s l H):=by
 unfold q0ev
 refine (q028 l (fun (_:Unit) i=>q0ap s l H i) (fun _ _=>True) (fun _ _ _=>()) (fun _=>q0aq s l H) (fun _ _=>rfl) ?_ ?_ () 0 trivial (Nat.zero_le _))
 ·rintro _ i n-hx
  refine ⟨?_,trivial⟩
  have hlt:=(List.getElem?_eq_some_iff.1 hx).1
  have w1:IntKind.i64.wrap ((i:Int)+1)=((i+1:Nat):Int):=w64 (by omega) (by omega)
  obtain ⟨h1,h2,h3⟩:=hl n (List.mem_of_getElem? hx)
  have hix:=fun H k=>q00z H q00f (k:=k) (s:=2) hx rfl
  obtain ⟨k,hk⟩: ∃k,l.length-i=k+1:=⟨l.length-i-1,by omega⟩
  have hk2:l.length-i-1=k:=by omega
  have hsucc:=q0jp s l H i n hx
  rw [hk2] at hsucc
  have hA:=q094 s (l.take i) (H.length+1)
  rw [List.length_take,Nat.min_eq_left (Nat.le_of_lt hlt)] at hA
  have e0:q04z s l H i=H++[.row 2 (q01w s (H.length+1) (l.take i)++List.replicate (k+1) [.nils,.nils])]++q01v s (l.take i):=by unfold q04z;rw [hk]
  simp only [q0ap]
  generalize q04z s l H (i+1)=R at hsucc⊢
  rw [e0]
  generalize q01w s (H.length+1) (l.take i)=A at*
  generalize q01v s (l.take i)=T at*
  have hrow: ∀(v:List V) (U:Heap),Eng.rowAt (H++DObj.row 2 (A++v::List.replicate k [.nils,.nils])::U) H.length=some (2,A++v::List.replicate k [.nils,.nils]):=fun v U=>by simp
  have hes: ∀(v:List V),(A++v::List.replicate k [.nils,.nils]).length=l.length:=fun v=>by simp;omega
  have mg:=fun x r=>q0y9 (α:=List V) hA x r
  have ms:=fun x y r=>q0ya (α:=List V) hA x y r
  simp only [List.replicate_succ,List.append_assoc,List.cons_append,List.nil_append] at hsucc⊢
  have c1:=q0ud (H++DObj.row 2 (A++[.nils,.nils]::List.replicate k [.nils,.nils])::T) n.lines h2
  have c2:=q0r6 (H++DObj.row 2 (A++[.nils,.nils]::List.replicate k [.nils,.nils])::(T++rowsH n.lines)) n.pens h3
  simp only [sli] at c1 c2
  cases hL:n.lines with
  |nil=>
   simp only [hL,List.map_nil,q0ge,List.append_nil] at c1 c2
   simp only [q0e1] at c1
   rw [show q03m encI 1 (H++DObj.row 2 (A++[.nils,.nils]::List.replicate k [.nils,.nils])::T) []=none from rfl] at c1
   have nl:=fun v U=>q0ob (.lptr 2 0) (.row H.length l.length 0 l.length) (vI i) (q00q l) (vI l.length) (vI i) [vI s] (H++DObj.row 2 (A++v::List.replicate k [.nils,.nils])::(T++U)) H.length
   simp only [noteV,noteH,hL,List.map_nil,q0ge,q0e1,if_pos,Nat.add_zero,Nat.add_assoc,Nat.add_comm 1,List.nil_append] at hsucc
   simp only [List.length_append,List.length_cons] at c1 c2
   rw [hsucc]
   simp [-getElem?_pos,hlt,hix,q00f,subs,q001,q017,hrow,hes,mg,ms,hL,c1,c2,q0ar,nl,w1]
  |cons x r=>
   simp only [hL,q0e2,q05v] at c1 c2
   rw [show∀G,q03m encI 1 G (x::r)=some (G++[.row 1 (upV ((x::r).map encI))],[]) from fun _=>rfl] at c1
   simp only [noteV,noteH,hL,List.map_cons,q0e2,q05v,List.cons_ne_nil,if_false,reduceCtorEq,Nat.add_assoc,Nat.add_comm 1,List.nil_append] at hsucc
   simp only [List.length_append,List.length_cons,List.length_nil,Nat.zero_add,List.append_assoc,List.cons_append,List.nil_append] at c1 c2
   have hset: ∀v K,(H++DObj.row 2 (A++v::List.replicate k [.nils,.nils])::(T++DObj.row 1 (upV ((x::r).map encI))::rowsH n.pens)).set (H.length+(T.length+1)) (.row 1 K)=
     H++DObj.row 2 (A++v::List.replicate k [.nils,.nils])::(T++DObj.row 1 K::rowsH n.pens):=fun v K=>by simp
   have key:=q0fb s hs (q00q l) l.length i hlt (x::r) (fun y hy=>h1 y (hL▸hy)) (by rw [←hL];exact h2) H.length (H.length+(T.length+1))
    (H++DObj.row 2 (A++[.row (H.length+(T.length+1)) (x::r).length 0 (x::r).length,q00n (H.length+(T.length+2)) n.pens]::List.replicate k [.nils,.nils])::(T++DObj.row 1 (upV ((x::r).map encI))::rowsH n.pens)) H.length _ (q00n (H.length+(T.length+2)) n.pens)
    (hrow _ _) (hes _) (mg _ _) (by simp) (by omega) (by omega)
   simp only [q0ao,q0dy,hset] at key
   rw [hsucc]
   simp at c1 c2 key
   simp [-getElem?_pos,hlt,hix,q00f,subs,q001,q017,hrow,hes,mg,ms,hL,c1,c2,q0ar,key,w1]
 ·rintro _-
  refine ⟨?_,by simp [q0aq]⟩
  simp [q0ap,q0aq]
theorem q0gf (base id:Nat) (G:Heap) (d:Nat) (L K:List Int) (h:Eng.rowAt G id=some (1,upV (K.map encI))∨L=[]) (hb:base≤id) (hl:K.length=L.length):frz base G (d+1) (q00n id L)=some (.sl (K.map encI)):=by
 cases L with
 |nil=>
  have:K=[]:=by simpa using hl
  subst this;rfl
 |cons x r=>
  rcases h with h|h
  ·rw [q05v,q0f4,if_pos hb,h,q0jb];simp [hl]
   rw [←List.length_cons (a:=x) (as:=r),←hl];simp
  ·cases h
theorem q0lh (s:Int) (n:Note) (H0:Heap) (U:Heap):Eng.rowAt (H0++(noteH s n++U)) H0.length=some (1,upV ((n.lines.map fun x=>upG x s).map encI))∨n.lines=[]:=by
 unfold noteH
 cases h:n.lines with
 |nil=>exact .inr rfl
 |cons x r=>left;simp
theorem q0li (s:Int) (n:Note) (H0:Heap) (U:Heap):Eng.rowAt (H0++(noteH s n++U)) (H0.length+(if n.lines=[] then 0 else 1))=some (1,upV (n.pens.map encI))∨n.pens=[]:=by
 unfold noteH
 cases h:n.pens with
 |nil=>exact .inr rfl
 |cons x r=>
  left
  cases h2:n.lines with
  |nil=>simp
  |cons y q=>simp
theorem q0gg (s:Int) (base:Nat): ∀(l:List Note) (H0:Heap),base≤H0.length→allO (allO (frz base (H0++q01v s l) 2)) (q01w s H0.length l)=some (l.map fun n=>q00f (noteG s n))
 |[],_,_=>rfl
 |n::r,H0,hb=>by
  have ih:=q0gg s base r (H0++noteH s n) (by simp;omega)
  rw [List.append_assoc,List.length_append] at ih
  have f1:=q0gf base H0.length (H0++(noteH s n++q01v s r)) 1 n.lines (n.lines.map fun x=>upG x s) (q0lh s n H0 _) hb (by simp)
  have f2:=q0gf base (H0.length+(if n.lines=[] then 0 else 1)) (H0++(noteH s n++q01v s r)) 1 n.pens n.pens (q0li s n H0 _) (by omega) rfl
  simp only [q01v,q01w,noteV,allO,f1,f2,ih,List.map_cons]
  rfl
theorem q0r7 (s:Int) (hs:I64 s) (l:List Note) (hl: ∀x∈l,q0jo x) (hn:l.length≤1000000) (H:Heap):
  clD EE (.p (.fn 194)) [.agg [vI s],q00q l] H=some (q00q (l.map (noteG s)),none):=by
 rw [q002 _ _ _ _ _ _ (noP _) fn194]
 have key:=q0fc s hs l hl hn H
 have hm:l.length<most:=by unfold most;omega
 have fz:=q0gg s H.length l (H++[.row 2 (q01w s (H.length+1) l)]) (by simp)
 have hl2:=q094 s l (H.length+1)
 simp [q0ap,q0aq,q04z,q01v,q01w] at key fz
 have ht:List.take l.length (q01w s (H.length+1) l)=q01w s (H.length+1) l:=List.take_of_length_le (by omega)
 simp [St.enter,q000,q0tx,hm,key,subs,frzK,hl2,ht,fz]
abbrev q0e3 (g:Geom):Prop:=I64 g.cols∧I64 g.wide∧I64 g.gap∧I64 g.high∧I64 g.first∧I64 g.grid∧I64 g.rule∧I64 g.sep∧I64 g.noteMost∧I64 g.topMost∧I64 g.botMost∧I64 g.topMany∧I64 g.botMany∧I64 g.club∧I64 g.widow∧I64 g.split∧I64 g.defer∧I64 g.spare
structure okJob (j:Job):Prop where
 g:q0e3 j.g
 items: ∀x∈j.items,q089 x
 notes: ∀x∈j.notes,q0jo x
 floats: ∀x∈j.floats,q0f9 x
 n1:j.items.length≤1000000
 n2:j.notes.length≤1000000
 n3:j.floats.length≤1000000
def q08a (s:Int) (l:List Float) (u:List V) (g:Geom) (a b:V) (H:Heap) (M:List Float) (i:Nat):St:=
 ⟨[(2,.lptr 2 0),(3,.lptr 3 0),(4,.ptr (H.length+1) 0),(44,vI l.length),(45,vI i)],[(2,u),(3,[vI s])],H++[.row 3 (upV (M.map q00m)),.box (cGeom g++[a,b,.row H.length l.length 0 l.length])],H.length,[]⟩
def q0bh (s:Int) (l:List Float) (u:List V) (g:Geom) (a b:V) (H:Heap) (M:List Float):Ex×St:=
 (.exit 0,⟨[(2,.lptr 2 0),(3,.lptr 3 0),(4,.ptr (H.length+1) 0),(44,vI l.length),(45,vI l.length),(46,.p (.bool false))],[(2,u),(3,[vI s])],H++[.row 3 (upV (M.map q00m)),.box (cGeom g++[a,b,.row H.length l.length 0 l.length])],H.length,[]⟩)
theorem q0e4 (s:Int) (hs:I64 s) (l:List Float) (hl: ∀x∈l,q0f9 x) (hn:l.length≤1000000) (u:List V) (g:Geom) (a b:V) (H:Heap):
  evD EE q0ad (q08a s l u g a b H l 0)=some (q0bh s l u g a b H (l.map (q03l s))):=by
 unfold q0ad
 refine (q028 l (q08a s l u g a b H) (fun M k=>M.length=l.length∧M.drop k=l.drop k) (fun M k x=>M.set k (q03l s x)) (q0bh s l u g a b H) (fun _ _=>rfl) ?_ ?_ l 0 ⟨rfl,rfl⟩ (Nat.zero_le _)).trans ?_
 ·rintro M i x ⟨hM,hd⟩ hx
  have hlt:=(List.getElem?_eq_some_iff.1 hx).1
  have hMx:M[i]? =some x:=by
   have:=congrArg (·[0]?) hd
   simpa [List.getElem?_drop,hx] using this
  have w:IntKind.i64.wrap ((i:Int)+1)=((i+1:Nat):Int):=w64 (by omega) (by omega)
  have ho:=hl x (List.mem_of_getElem? hx)
  have hu:(upV (M.map q00m))[i]? =some ((q00m x).map .p):=by simp [upV,hMx]
  have inv:(M.set i (q03l s x)).length=l.length∧(M.set i (q03l s x)).drop (i+1)=l.drop (i+1):=by
   refine ⟨by simp [hM],?_⟩
   rw [List.drop_set_of_lt (Nat.lt_succ_self i)]
   have:=congrArg (List.drop 1) hd
   simpa [List.drop_drop,Nat.add_comm] using this
  refine ⟨?_,inv⟩
  have hrow: ∀U:Heap,Eng.rowAt (H++DObj.row 3 (upV (M.map q00m))::U) H.length=some (3,upV (M.map q00m)):=fun U=>by simp
  have hlen:(upV (M.map q00m)).length=l.length:=by simp [hM]
  have hj:((q00m x).map V.p)[1]? =some (vI x.h):=rfl
  have t1:=fun U:Heap=>q093 197 (fun n=>upG n s) x.h s (H++DObj.row 3 (upV (M.map q00m))::U) H.length l.length i 1 3 _ _ (hrow U) hlen hu hj (by simp) (fun H'=>q088 x.h s H' ho.2.1 hs)
  have e:(upV (M.map q00m)).set i (((q00m x).map V.p).set 1 (vI (upG x.h s)))=upV ((M.set i (q03l s x)).map q00m):=by
   rw [←q06e];rfl
  simp only [e] at t1
  simp [-getElem?_pos,q08a,hlt,q017,hM,hu,q00m,subs,t1,w]
 ·rintro M ⟨hM,hd⟩
  simp [q08a,q0bh]
 ·have:=q08x (q03l s) l []
  simp at this
  simp [this]
theorem q0my (j:Job) (ok:okJob j) (H:Heap):clD EE (.p (.fn 73)) [vJob j] H=some (vJob (snapG j),none):=by
 rw [q002 _ _ _ _ _ _ (noP _) fn73]
 obtain ⟨g,items,notes,floats⟩:=j
 have hg:=ok.g
 simp only [q0e3] at hg
 by_cases c:g.grid<1
 ·simp [St.enter,q000,subs,q001,c,snapG]
 ·have h1:=q0uc g.grid hg.2.2.2.2.2.1 items ok.items ok.n1 H
  have h2:=q0r7 g.grid hg.2.2.2.2.2.1 notes ok.notes ok.n2 H
  have hc:=q05d _ 3 _ H q00m (fun _=>rfl) q0fa floats (by have:=ok.n3;simp only at this;unfold most;omega)
  have i1:=fun H'=>q0cv g.high g.grid H' hg.2.2.2.1 hg.2.2.2.2.2.1
  have i2:=fun H'=>q0cv g.first g.grid H' hg.2.2.2.2.1 hg.2.2.2.2.2.1
  have i3:=fun H'=>q088 g.rule g.grid H' hg.2.2.2.2.2.2.1 hg.2.2.2.2.2.1
  have i4:=fun H'=>q088 g.sep g.grid H' hg.2.2.2.2.2.2.2.1 hg.2.2.2.2.2.1
  obtain ⟨I,hI⟩: ∃I,(items.map (itemG g.grid)).map q006=I:=⟨_,rfl⟩
  obtain ⟨N,hN⟩: ∃I,(notes.map (noteG g.grid)).map q00f=I:=⟨_,rfl⟩
  have hj:snapG ⟨g,items,notes,floats⟩=⟨geomG g,items.map (itemG g.grid),notes.map (noteG g.grid),floats.map (q03l g.grid)⟩:=if_neg c
  rw [hj]
  show _=some (V.agg (cGeom (geomG g)++[.p (.sl ((items.map (itemG g.grid)).map q006)),.p (.sl ((notes.map (noteG g.grid)).map q00f)),q00b (floats.map (q03l g.grid))]),none)
  simp only [q00g,q00q,hI,hN] at h1 h2⊢
  clear hj hI hN
  cases floats with
  |nil=>
   have b1:=q07d 196 (fun n=>downG n g.grid) g.high g.first g.grid (H++[.box (cGeom g++[.p (.sl I),.p (.sl N),.nils])])
    H.length 3 4 _ (by simp;rfl) rfl rfl (by decide) (by simp) i1 i2
   have b2:=q07d 197 (fun n=>upG n g.grid) g.rule g.sep g.grid (H++[.box (cGeom {g with high:=downG g.high g.grid,first:=downG g.first g.grid}++[.p (.sl I),.p (.sl N),.nils])])
    H.length 6 7 _ (by simp;rfl) rfl rfl (by decide) (by simp) i3 i4
   have key: ∀u cs,evD EE q0ad ⟨[(2,.lptr 2 0),(3,.lptr 3 0),(4,.ptr H.length 0),(44,vI 0),(45,vI 0)],[(2,u),(3,[vI g.grid])],H++[.box cs],H.length,[]⟩=
     some (.exit 0,⟨[(2,.lptr 2 0),(3,.lptr 3 0),(4,.ptr H.length 0),(44,vI 0),(45,vI 0),(46,.p (.bool false))],[(2,u),(3,[vI g.grid])],H++[.box cs],H.length,[]⟩):=by
    intro u cs
    unfold q0ad
    rw [q005]
    simp
   simp [q00n,q03m] at hc
   simp at b1 b2
   simp [St.enter,q000,subs,q001,c,h1,h2,hc,b1,b2,key,geomG]
  |cons x r=>
   have b1:=q07d 196 (fun n=>downG n g.grid) g.high g.first g.grid (H++[.row 3 (upV ((x::r).map q00m)),.box (cGeom g++[.p (.sl I),.p (.sl N),.row H.length (x::r).length 0 (x::r).length])])
    (H.length+1) 3 4 _ (by simp;rfl) rfl rfl (by decide) (by simp) i1 i2
   have b2:=q07d 197 (fun n=>upG n g.grid) g.rule g.sep g.grid (H++[.row 3 (upV ((x::r).map q00m)),.box (cGeom {g with high:=downG g.high g.grid,first:=downG g.first g.grid}++[.p (.sl I),.p (.sl N),.row H.length (x::r).length 0 (x::r).length])])
    (H.length+1) 6 7 _ (by simp;rfl) rfl rfl (by decide) (by simp) i3 i4
   have key:=fun u=>q0e4 g.grid hg.2.2.2.2.2.1 (x::r) ok.floats ok.n3 u (geomG g) (.p (.sl I)) (.p (.sl N)) H
   simp [q00n,q03m] at hc
   simp at b1 b2
   simp [q08a,q0bh,geomG] at key
   simp [St.enter,q000,subs,q001,c,h1,h2,hc,b1,b2,key,geomG]
def off (s n:Int):Bool:= !decide (n.tmod s=0)
theorem q0ue:EE.fns 509=some (idxI 1 false):=fn509
theorem q0uf:EE.fns 489=some (conI 509):=fn489
theorem q0ug (hv:V) (p:Int→Bool) (l:List Int) (H:Heap) (ho:(normA hv).outB=true) (ho2:normA hv=hv) (hn:l.length≤1000000) (hH: ∀x∈l,clD EE hv [vI x] H=some (vB (p x),none)):
  clD EE (.p (.fn 489)) [sli l,hv] H=some (vB (l.any p),none):=
 q0A4 _ _ (noP _) q0uf (sli l) hv p l H rfl rfl ho ho2 (q0aj _ 1 false encI (fun x=>vI x) (noP _) q0ue (fun _=>rfl) (fun _=>rfl) (fun _=>rfl) (fun _=>rfl) l (by omega) hv p H hH)
def lenOK (n:Int):Bool:= !(decide (n<0)||decide (1073741823<n))
def q02r (x:Item):Item:=if x.k=1 then ⟨1,x.h,x.f,0,0,0,0⟩ else if x.k=2 then ⟨2,x.h,0,x.str,x.ord,x.shr,0⟩ else if x.k=7 then ⟨7,0,0,0,0,0,0⟩ else ⟨x.k,0,0,0,0,0,x.n⟩
def upTo (m n:Int):Bool:=decide (0≤n)&&decide (n≤m)
def nOk (x:Item):Bool:=if x.k=3 then decide (x.n= -10000)||upTo 10000 x.n else if x.k=4 then upTo 1048576 x.n else if x.k=5 then upTo 511 x.n else if x.k=6 then upTo 255 x.n else upTo 0 x.n
def q01o (x:Item):Bool:=decide (1≤x.k)&&decide (x.k≤7)&&decide (q02r x=x)&&nOk x&&(lenOK x.h&&lenOK x.str&&lenOK x.shr)&&upTo 3 x.f&&upTo 3 x.ord&& !(decide (x.k=2)&&decide (x.h<x.shr))
theorem q095 (m n:Int) (p:Nat) (H:Heap) (hb:Eng.boxAt H p=some [vI m]):clD EE (.p (.fn 488)) [vI n,.ptr p 0] H=some (vB (upTo m n),none):=by
 rw [q002 _ _ _ _ _ _ (noP _) fn488]
 have e:subs [vI m] 0 1=some [vI m]:=rfl
 by_cases c:0≤n
 ·simp [St.enter,q000,hb,e,upTo,c]
 ·simp [St.enter,q000,upTo,c]
theorem q03u (m:Int) (H:Heap):clD EE (.p (.fn 443)) [vI m] H=some (.fn (.func 488) [] [.ptr H.length 0],some (H++[.box [vI m]],[])):=by
 rw [q002 _ _ _ _ _ _ (noP _) fn443]
 simp [St.enter,q000]
theorem q0lj (f:FuncId) (H:Heap):clD EE (.p (.fn 475)) [.p (.fn f)] H=some (.fn (.func 476) [] [.ptr H.length 0],some (H++[.box [.p (.fn f)]],[])):=by
 rw [q002 _ _ _ _ _ _ (noP _) fn475]
 simp [St.enter,q000]
theorem q0jq (f:FuncId) (g:Int→Item) (x:Item) (p:Nat) (H:Heap) (hb:Eng.boxAt H p=some [.p (.fn f)]) (hg: ∀H',clD EE (.p (.fn f)) [vI x.n] H'=some (vItem (g x.n),none)):
  clD EE (.p (.fn 476)) [vItem x,.ptr p 0] H=some (vItem (g x.n),none):=by
 rw [q002 _ _ _ _ _ _ (noP _) fn476]
 have h:=hg H
 simp [St.enter,q000,hb,subs,h,q001]
theorem q0Aa (h f:Int) (H:Heap):clD EE (.p (.fn 478)) [vI h,vI f] H=some (vItem ⟨1,h,f,0,0,0,0⟩,none):=by
 rw [q002 _ _ _ _ _ _ (noP _) fn478]
 simp [St.enter,q000,subs,q001]
theorem q0yb (h s o r:Int) (H:Heap):clD EE (.p (.fn 480)) [vI h,vI s,vI o,vI r] H=some (vItem ⟨2,h,0,s,o,r,0⟩,none):=by
 rw [q002 _ _ _ _ _ _ (noP _) fn480]
 simp [St.enter,q000,subs,q001]
theorem q0lk (n:Int) (H:Heap):clD EE (.p (.fn 481)) [vI n] H=some (vItem ⟨3,0,0,0,0,0,n⟩,none):=by
 rw [q002 _ _ _ _ _ _ (noP _) fn481]
 simp [St.enter,q000,subs,q001]
theorem q0yc (n:Int) (H:Heap):clD EE (.p (.fn 483)) [vI n] H=some (vItem ⟨4,0,0,0,0,0,n⟩,none):=by
 rw [q002 _ _ _ _ _ _ (noP _) fn483]
 simp [St.enter,q000,subs,q001]
theorem q0jr (n:Int) (H:Heap):clD EE (.p (.fn 484)) [vI n] H=some (vItem ⟨5,0,0,0,0,0,n⟩,none):=by
 rw [q002 _ _ _ _ _ _ (noP _) fn484]
 simp [St.enter,q000,subs,q001]
theorem q0hl (n:Int) (H:Heap):clD EE (.p (.fn 485)) [vI n] H=some (vItem ⟨6,0,0,0,0,0,n⟩,none):=by
 rw [q002 _ _ _ _ _ _ (noP _) fn485]
 simp [St.enter,q000,subs,q001]
theorem q0oc (H:Heap):clD EE (.p (.fn 487)) [] H=some (vItem ⟨7,0,0,0,0,0,0⟩,none):=by
 rw [q002 _ _ _ _ _ _ (noP _) fn487]
 simp [St.enter,q000,subs,q001]
theorem q0uh (x:Item) (H:Heap):clD EE (.p (.fn 477)) [vItem x] H=some (vItem ⟨1,x.h,x.f,0,0,0,0⟩,none):=by
 rw [q002 _ _ _ _ _ _ (noP _) fn477]
 simp [St.enter,q000,subs,q001,q0Aa]
theorem q0ui (x:Item) (H:Heap):clD EE (.p (.fn 479)) [vItem x] H=some (vItem ⟨2,x.h,0,x.str,x.ord,x.shr,0⟩,none):=by
 rw [q002 _ _ _ _ _ _ (noP _) fn479]
 simp [St.enter,q000,subs,q001,q0yb]
theorem q0uj (x:Item) (H:Heap):clD EE (.p (.fn 486)) [vItem x] H=some (vItem ⟨7,0,0,0,0,0,0⟩,none):=by
 rw [q002 _ _ _ _ _ _ (noP _) fn486]
 simp [St.enter,q000,subs,q001,q0oc]
theorem q0r8 (n:Int) (H:Heap):clD EE (.p (.fn 482)) [vI n] H=some (vB (decide (n= -10000)||upTo 10000 n),none):=by
 rw [q002 _ _ _ _ _ _ (noP _) fn482]
 have h:=q095 10000 n H.length (H++[.box [vI 10000]]) (by simp)
 by_cases c:n= -10000
 ·simp [St.enter,q000,c]
 ·simp [St.enter,q000,c,q03u,h]
def formH:Heap:=[.box [vI 0],.box [vI 0],.box [.p (.fn 481)],.box [.p (.fn 483)],.box [vI 1048576],.box [.p (.fn 484)],.box [vI 511],.box [.p (.fn 485)],.box [vI 255],.box [vI 0]]
def up1 (n:Nat):V:= .fn (.func 488) [] [.ptr n 0]
def num1 (n:Nat):V:= .fn (.func 476) [] [.ptr n 0]
def formV (n:Nat):List (List V):=[[.p (.fn 477),up1 n],[.p (.fn 479),up1 (n+1)],[num1 (n+2),.p (.fn 482)],[num1 (n+3),up1 (n+4)],[num1 (n+5),up1 (n+6)],[num1 (n+7),up1 (n+8)],[.p (.fn 486),up1 (n+9)]]
theorem q0uk (H:Heap):clD EE (.p (.fn 442)) [] H=some (.vsl (formV H.length),some (H++formH,[])):=by
 rw [q002 _ _ _ _ _ _ (noP _) fn442]
 simp [St.enter,q000,q001,q03u,q0lj,formV,formH,up1,num1]
theorem q0ul (x:Item) (h1:1≤x.k) (h7:x.k≤7) (H:Heap): ∃sv nv,(∀H',ixsI H' (.vsl (formV H.length)) (.p (.int .i64 (x.k-1))) 2=some (.eptr [sv,nv] 0))∧sv.oneB=true∧nv.oneB=true∧sv.cells=[sv]∧nv.cells=[nv]∧sv.notL=true∧nv.notL=true∧
  (∀T,clD EE sv [vItem x] (H++(formH++T))=some (vItem (q02r x),none))∧(∀T,clD EE nv [vI x.n] (H++(formH++T))=some (vB (nOk x),none)):=by
 have hk:x.k=1∨x.k=2∨x.k=3∨x.k=4∨x.k=5∨x.k=6∨x.k=7:=by omega
 have up: ∀(i:Nat) (m:Int) T,formH[i]? =some (.box [vI m])→clD EE (up1 (H.length+i)) [vI x.n] (H++(formH++T))=some (vB (upTo m x.n),none):=fun i m T hi=>by
  unfold up1
  rw [q02e]
  refine q095 m x.n (H.length+i) _ ?_
  have hlt:=(List.getElem?_eq_some_iff.1 hi).1
  rw [q0ah];unfold Eng.boxAt;rw [List.getElem?_append_left hlt,hi]
 have nm: ∀(i:Nat) (f:FuncId) (g:Int→Item) T,formH[i]? =some (.box [.p (.fn f)])→(∀H',clD EE (.p (.fn f)) [vI x.n] H'=some (vItem (g x.n),none))→clD EE (num1 (H.length+i)) [vItem x] (H++(formH++T))=some (vItem (g x.n),none):=fun i f g T hi hg=>by
  unfold num1
  rw [q02e]
  refine q0jq f g x (H.length+i) _ ?_ hg
  have hlt:=(List.getElem?_eq_some_iff.1 hi).1
  rw [q0ah];unfold Eng.boxAt;rw [List.getElem?_append_left hlt,hi]
 rcases hk with k|k|k|k|k|k|k
 ·refine ⟨.p (.fn 477),up1 H.length,fun H'=>by simp [k,ixsI,ixsV,formV],rfl,rfl,rfl,rfl,rfl,rfl,fun T=> ?_,fun T=> ?_⟩
  ·rw [q0uh];simp [q02r,k]
  ·rw [show up1 H.length=up1 (H.length+0) from rfl,up 0 0 T rfl];simp [nOk,k]
 ·refine ⟨.p (.fn 479),up1 (H.length+1),fun H'=>by simp [k,ixsI,ixsV,formV],rfl,rfl,rfl,rfl,rfl,rfl,fun T=> ?_,fun T=> ?_⟩
  ·rw [q0ui];simp [q02r,k]
  ·rw [up 1 0 T rfl];simp [nOk,k]
 ·refine ⟨num1 (H.length+2),.p (.fn 482),fun H'=>by simp [k,ixsI,ixsV,formV],rfl,rfl,rfl,rfl,rfl,rfl,fun T=> ?_,fun T=> ?_⟩
  ·rw [nm 2 481 (fun n=>⟨3,0,0,0,0,0,n⟩) T rfl (fun H'=>q0lk x.n H')];simp [q02r,k]
  ·rw [q0r8];simp [nOk,k]
 ·refine ⟨num1 (H.length+3),up1 (H.length+4),fun H'=>by simp [k,ixsI,ixsV,formV],rfl,rfl,rfl,rfl,rfl,rfl,fun T=> ?_,fun T=> ?_⟩
  ·rw [nm 3 483 (fun n=>⟨4,0,0,0,0,0,n⟩) T rfl (fun H'=>q0yc x.n H')];simp [q02r,k]
  ·rw [up 4 1048576 T rfl];simp [nOk,k]
 ·refine ⟨num1 (H.length+5),up1 (H.length+6),fun H'=>by simp [k,ixsI,ixsV,formV],rfl,rfl,rfl,rfl,rfl,rfl,fun T=> ?_,fun T=> ?_⟩
  ·rw [nm 5 484 (fun n=>⟨5,0,0,0,0,0,n⟩) T rfl (fun H'=>q0jr x.n H')];simp [q02r,k]
  ·rw [up 6 511 T rfl];simp [nOk,k]
 ·refine ⟨num1 (H.length+7),up1 (H.length+8),fun H'=>by simp [k,ixsI,ixsV,formV],rfl,rfl,rfl,rfl,rfl,rfl,fun T=> ?_,fun T=> ?_⟩
  ·rw [nm 7 485 (fun n=>⟨6,0,0,0,0,0,n⟩) T rfl (fun H'=>q0hl x.n H')];simp [q02r,k]
  ·rw [up 8 255 T rfl];simp [nOk,k]
 ·refine ⟨.p (.fn 486),up1 (H.length+9),fun H'=>by simp [k,ixsI,ixsV,formV],rfl,rfl,rfl,rfl,rfl,rfl,fun T=> ?_,fun T=> ?_⟩
  ·rw [q0uj];simp [q02r,k]
  ·rw [up 9 0 T rfl];simp [nOk,k]
theorem q0um (n:Int) (H:Heap):clD EE (.p (.fn 490)) [vI n] H=some (vB (!lenOK n),none):=by
 rw [q002 _ _ _ _ _ _ (noP _) fn490]
 by_cases c:n<0
 ·simp [St.enter,q000,lenOK,c]
 ·simp [St.enter,q000,lenOK,c]
theorem q0yd (a b c:Int) (H:Heap):clD EE (.p (.fn 444)) [.p (.sl [[.int .i64 a],[.int .i64 b],[.int .i64 c]])] H=some (vB (lenOK a&&lenOK b&&lenOK c),none):=by
 rw [q002 _ _ _ _ _ _ (noP _) fn444]
 have h:=q0ug (.p (.fn 490)) (fun n=> !lenOK n) [a,b,c] H rfl rfl (by simp) (fun x _=>q0um x H)
 simp only [sli,List.map_cons,List.map_nil,encI] at h
 simp [St.enter,q000,h]
 cases lenOK a<;>cases lenOK b<;>cases lenOK c<;>rfl
theorem q0ll (x y:Item):q009 [true,true,true,true,true,true,true] [vI x.k,vI x.h,vI x.f,vI x.str,vI x.ord,vI x.shr,vI x.n] [vI y.k,vI y.h,vI y.f,vI y.str,vI y.ord,vI y.shr,vI y.n]=some (decide (x=y)):=by
 obtain ⟨a,b,c,d,e,f,g⟩:=x
 obtain ⟨a',b',c',d',e',f',g'⟩:=y
 simp [Bool.decide_and]
theorem q0js (x:Item) (H:Heap):clD EE (.p (.fn 402)) [vItem x] H=some (vI (if q01o x=true then 0 else 8),none):=by
 rw [q002 _ _ _ _ _ _ (noP _) fn402]
 by_cases c1:x.k<1
 ·have e:q01o x=false:=by
   have: ¬1≤x.k:=by omega
   simp [q01o,this]
  simp [St.enter,q000,subs,c1,e]
 ·by_cases c7:7<x.k
  ·have e:q01o x=false:=by
    have: ¬x.k≤7:=by omega
    simp [q01o,this]
   simp [St.enter,q000,subs,c1,c7,e]
  ·obtain ⟨sv,nv,f1,f2,f3,f4,f5,f8,f9,f6,f7⟩:=q0ul x (by omega) (by omega) H
   have w:IntKind.i64.wrap (x.k-1)=x.k-1:=w64 (by omega) (by omega)
   have g6:=f6 [.box [vI 3]]
   have g7:=f7 [.box [vI 3]]
   have hb:Eng.boxAt (H++(formH++[.box [vI 3]])) (H.length+formH.length)=some [vI 3]:=by simp
   have t1:=q095 3 x.f (H.length+formH.length) _ hb
   have t2:=q095 3 x.ord (H.length+formH.length) _ hb
   have hl:=q0yd x.h x.str x.shr (H++(formH++[.box [vI 3]]))
   have he:=q0ll (q02r x) x
   have hf:=q0uk H
   have a1:(1:Int)≤x.k:=by omega
   have a7:x.k≤7:=by omega
   unfold q01o
   simp only [a1,a7,decide_true,Bool.true_and]
   generalize formV H.length=fv at*
   generalize formH=FH at*
   generalize q02r x=y at*
   cases e1:decide (y=x) with
   |false=>
    rw [e1] at he
    simp [-q01m,St.enter,q000,subs,q001,c1,c7,hf,f1,f2,f3,f4,f5,f8,f9,w,q03u,g6,he]
   |true=>
    rw [e1] at he
    cases e2:nOk x with
    |false=>
     rw [e2] at g7
     simp [-q01m,St.enter,q000,subs,q001,c1,c7,hf,f1,f2,f3,f4,f5,f8,f9,w,q03u,g6,g7,he]
    |true=>
     rw [e2] at g7
     cases e3:(lenOK x.h&&lenOK x.str&&lenOK x.shr) with
     |false=>
      rw [e3] at hl
      simp [-q01m,St.enter,q000,subs,q001,c1,c7,hf,f1,f2,f3,f4,f5,f8,f9,w,q03u,g6,g7,he,hl]
     |true=>
      rw [e3] at hl
      cases e4:upTo 3 x.f with
      |false=>
       rw [e4] at t1
       simp [-q01m,St.enter,q000,subs,q001,c1,c7,hf,f1,f2,f3,f4,f5,f8,f9,w,q03u,g6,g7,he,hl,t1]
      |true=>
       rw [e4] at t1
       cases e5:upTo 3 x.ord with
       |false=>
        rw [e5] at t2
        simp [-q01m,St.enter,q000,subs,q001,c1,c7,hf,f1,f2,f3,f4,f5,f8,f9,w,q03u,g6,g7,he,hl,t1,t2]
       |true=>
        rw [e5] at t2
        by_cases k2:x.k=2
        ·have w1:IntKind.i64.wrap 1=1:=w64 (by omega) (by omega)
         have e21:(2:Int)-1=1:=rfl
         rw [k2] at he
         simp only [vItem,k2,e21] at f1 g6
         by_cases k3:x.h<x.shr
         ·simp [-q01m,St.enter,q000,subs,q001,c1,c7,hf,f1,f2,f3,f4,f5,f8,f9,w1,q03u,g6,g7,he,hl,t1,t2,k2,k3]
         ·simp [-q01m,St.enter,q000,subs,q001,c1,c7,hf,f1,f2,f3,f4,f5,f8,f9,w1,q03u,g6,g7,he,hl,t1,t2,k2,k3]
        ·simp [-q01m,St.enter,q000,subs,q001,c1,c7,hf,f1,f2,f3,f4,f5,f8,f9,w,q03u,g6,g7,he,hl,t1,t2,k2]
end Go.EnvOf
