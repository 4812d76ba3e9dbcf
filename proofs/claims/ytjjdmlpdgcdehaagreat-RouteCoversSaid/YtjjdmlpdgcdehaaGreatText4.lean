/- The program's functions and the document's, evaluated. -/
import Derived.Test.YtjjdmlpdgcdehaaGreatText3
import Derived.Test.YtjjdmlpdgcdehaaGreatText2
set_option linter.unusedSimpArgs false
set_option linter.unusedVariables false
namespace Go.EnvOf
open Go Go.Eng
theorem q0dw {e:List V} {j:Nat} {v:V} (h:e[j]? =some v):subs e j 1=some [v]:=by
 obtain ⟨h1,h2⟩:=Za.1 h
 have h3:j+1<=e.length:=h1
 simp [subs,h3,ZA h1,h2]
theorem q082 {e:List V} {j:Nat} {v u:V} (h:e[j]? =some v):q001 e j [u]=some (e.set j u):=by
 obtain ⟨h1,h2⟩:=Za.1 h
 have h3:j+1<=e.length:=h1
 simp [q001,h1,h3,List.set_eq_take_append_cons_drop]
theorem q09n (f:FuncId) (g:Int->Int) (n s:Int) (H:Heap) (id tot i j sz:Nat) (es:List (List V)) (e:List V) (hr:Eng.rowAt H id=some (sz,es)) (ht:es.length=tot) (he:es[i]? =some e) (hj:e[j]? =some (vI n)) (hlt:id<H.length)
  (hg: ∀H',clD EE (.p (.fn f)) [vI n,vI s] H'=some (vI (g n),none)):
  clD EE (.p (.fn 130)) [.agg [vI s],.p (.fn f),.vsl [[.rptr id tot i j]]] H=some (.tup [],some (H.set id (.row sz (es.set i (e.set j (vI (g n))))),[id])):=by
 rw [q002 _ _ _ _ _ _ (noP _) fn130]
 have key:evD EE q0W1 ⟨[(1,.p (.fn f)),(3,.lptr 3 0),(8,.vsl [[.rptr id tot i j]]),(9,.p (.int .i64 1)),(10,.p (.int .i64 0))],[(3,[vI s])],H,H.length,[]⟩=
   some (.exit 0,⟨[(1,.p (.fn f)),(3,.lptr 3 0),(8,.vsl [[.rptr id tot i j]]),(9,.p (.int .i64 1)),(10,.p (.int .i64 1)),(11,.p (.bool false))],[(3,[vI s])],H.set id (.row sz (es.set i (e.set j (vI (g n))))),H.length,[id]⟩):=by
  unfold q0W1
  have w:IntKind.i64.wrap 1=1:=w64 (by omega) (by omega)
  rw [q003]
  have e3:subs [vI s] 0 1=some [vI s]:=rfl
  have e4:subs [V.rptr id tot i j] 0 1=some [V.rptr id tot i j]:=rfl
  simp [q0dw hj,q082 hj,hr,ht,he,hg,hlt,w,ixsI,ixsV,e3,e4]
  rw [q003]
  simp
 simp [zEa,key]
theorem q07q (f:FuncId) (g:Int->Int) (n m s:Int) (H:Heap) (id a b:Nat) (cs:List V) (hr:Eng.boxAt H id=some cs) (ha:cs[a]? =some (vI n)) (hb:cs[b]? =some (vI m)) (hab:a≠b) (hlt:id<H.length)
  (hg: ∀H',clD EE (.p (.fn f)) [vI n,vI s] H'=some (vI (g n),none)) (hg2: ∀H',clD EE (.p (.fn f)) [vI m,vI s] H'=some (vI (g m),none)):
  clD EE (.p (.fn 130)) [.agg [vI s],.p (.fn f),.vsl [[.ptr id a],[.ptr id b]]] H=some (.tup [],some (H.set id (.box ((cs.set a (vI (g n))).set b (vI (g m)))),[id,id])):=by
 rw [q002 _ _ _ _ _ _ (noP _) fn130]
 have key:evD EE q0W1 ⟨[(1,.p (.fn f)),(3,.lptr 3 0),(8,.vsl [[.ptr id a],[.ptr id b]]),(9,.p (.int .i64 2)),(10,.p (.int .i64 0))],[(3,[vI s])],H,H.length,[]⟩=
   some (.exit 0,⟨[(1,.p (.fn f)),(3,.lptr 3 0),(8,.vsl [[.ptr id a],[.ptr id b]]),(9,.p (.int .i64 2)),(10,.p (.int .i64 2)),(11,.p (.bool false))],[(3,[vI s])],H.set id (.box ((cs.set a (vI (g n))).set b (vI (g m)))),H.length,[id,id]⟩):=by
  unfold q0W1
  have w:IntKind.i64.wrap 1=1:=w64 (by omega) (by omega)
  have w2:IntKind.i64.wrap 2=2:=w64 (by omega) (by omega)
  have e3:subs [vI s] 0 1=some [vI s]:=rfl
  have e4: ∀x:V,subs [x] 0 1=some [x]:=fun _=>rfl
  have hb2:(cs.set a (vI (g n)))[b]? =some (vI m):=by rw [Zr hab];exact hb
  have hset:Eng.boxAt (H.set id (.box (cs.set a (vI (g n))))) id=some (cs.set a (vI (g n))):=by simp [Eng.boxAt,List.getElem?_set,hlt]
  rw [q003]
  simp [q0dw ha,q082 ha,hr,hg,hlt,w,ixsI,ixsV,e3,e4]
  rw [q003]
  simp [q0dw hb2,q082 hb2,hset,hg2,hlt,w2,ixsI,ixsV,e3,e4]
  rw [q003]
  simp
 simp [zEa,key]
def itemG (s:Int) (x:Item):Item:=if x.k=1 then {x with h:=upG x.h s} else if x.k=2 then {x with h:=nearG x.h s,str:=0,ord:=0,shr:=0} else x
def noteG (s:Int) (n:Note):Note:= {n with lines:=n.lines.map fun x=>upG x s}
def q01h (s:Int) (f:Float):Float:= {f with h:=upG f.h s}
def geomG (g:Geom):Geom:= {g with high:=downG g.high g.grid,first:=downG g.first g.grid,rule:=upG g.rule g.grid,sep:=upG g.sep g.grid}
def snapG (j:Job):Job:=if j.g.grid<1 then j else ⟨geomG j.g,j.items.map (itemG j.g.grid),j.notes.map (noteG j.g.grid),j.floats.map (q01h j.g.grid)⟩
abbrev q079 (x:Item):Prop:=I64 x.k/\I64 x.h/\I64 x.f/\I64 x.str/\I64 x.ord/\I64 x.shr/\I64 x.n
abbrev q0h3 (f:Float):Prop:=I64 f.c/\I64 f.h/\I64 f.w
def q07a (s:Int) (l:List Item) (H:Heap) (M:List Item) (i:Nat):St:=
 ⟨[(2,.lptr 2 0),(5,.row H.length l.length 0 l.length),(11,vI l.length),(12,vI i)],[(2,[vI s])],H++[.row 7 (upV (M.map q004))],H.length,[]⟩
def q0fa (s:Int) (l:List Item) (H:Heap) (M:List Item):Ex×St:=
 (.exit 0,⟨[(2,.lptr 2 0),(5,.row H.length l.length 0 l.length),(11,vI l.length),(12,vI l.length),(13,.p (.bool false))],[(2,[vI s])],H++[.row 7 (upV (M.map q004))],H.length,[]⟩)
theorem q0xy (s:Int) (hs:I64 s) (l:List Item) (hl: ∀x∈l,q079 x) (hn:l.length<=1000000) (H:Heap):
  evD EE q0Vz (q07a s l H l 0)=some (q0fa s l H (l.map (itemG s))):=by
 unfold q0Vz
 refine (q00u l (q07a s l H) (fun M i=>M.length=l.length/\M.drop i=l.drop i) (fun M i x=>M.set i (itemG s x)) (q0fa s l H) (fun _ _=>rfl) ?_ ?_ l 0 ⟨rfl,rfl⟩ (Zj _)).trans ?_
 ·rintro M i x ⟨hM,hd⟩ hx
  have hlt:=(Za.1 hx).1
  have hMx:M[i]? =some x:=by
   have:=congrArg (·[0]?) hd
   simpa [List.getElem?_drop,hx] using this
  have w:IntKind.i64.wrap ((i:Int)+1)=((i+1:Nat):Int):=w64 (by omega) (by omega)
  have ho:=hl x (Zp hx)
  have hu:(upV (M.map q004))[i]? =some ((q004 x).map .p):=by simp [upV,hMx]
  have hset:M.set i (itemG s x)=M.set i (itemG s x):=rfl
  have inv:(M.set i (itemG s x)).length=l.length/\(M.set i (itemG s x)).drop (i+1)=l.drop (i+1):=by
   refine ⟨by simp [hM],?_⟩
   rw [List.drop_set_of_lt (Nat.lt_succ_self i)]
   have:=congrArg (List.drop 1) hd
   simpa [List.drop_drop,Nat.add_comm] using this
  refine ⟨?_,inv⟩
  have hrow:Eng.rowAt (H++[DObj.row 7 (upV (M.map q004))]) H.length=some (7,upV (M.map q004)):=by simp
  have hlen:(upV (M.map q004)).length=l.length:=by simp [hM]
  have hj:((q004 x).map V.p)[1]? =some (vI x.h):=rfl
  have t1:=q09n 132 (fun n=>upG n s) x.h s (H++[DObj.row 7 (upV (M.map q004))]) H.length l.length i 1 7 _ _ hrow hlen hu hj (by simp) (fun H'=>q08q x.h s H' ho.2.1 hs)
  have t2:=q09n 233 (fun n=>nearG n s) x.h s (H++[DObj.row 7 (upV (M.map q004))]) H.length l.length i 1 7 _ _ hrow hlen hu hj (by simp) (fun H'=>q0xu x.h s H' ho.2.1 hs)
  by_cases k1:x.k=1
  ·have e:(upV (M.map q004)).set i (((q004 x).map V.p).set 1 (vI (upG x.h s)))=upV ((M.set i (itemG s x)).map q004):=by
    rw [<-q06r];simp [itemG,k1,q004]
   rw [e] at t1
   simp [-getElem?_pos,q07a,hlt,q01f,hM,hu,q004,subs,k1,t1,w]
  ·by_cases k2:x.k=2
   ·have g: ∀a,((upV (M.map q004)).set i a)[i]? =some a:=fun a=>by rw [ZX (by simp [hM,hlt])]
    have e:(upV (M.map q004)).set i [vI x.k,vI (nearG x.h s),vI x.f,vI 0,vI 0,vI 0,vI x.n]=upV ((M.set i (itemG s x)).map q004):=by
     rw [<-q06r];simp [itemG,k2,q004]
    rw [k2] at e
    simp [-getElem?_pos,q07a,hlt,q01f,hM,hu,q004,subs,q001,k1,k2,t2,w,g]
    simp [q004,upV] at e⊢
    exact e
   ·have e:M.set i (itemG s x)=M:=by
     have:itemG s x=x:=by simp [itemG,k1,k2]
     rw [this]
     refine List.ext_getElem? fun j=> ?_
     rw [List.getElem?_set]
     split
     ·rename_i h;subst h;rw [if_pos (by omega),hMx]
     ·rfl
    rw [e]
    simp [-getElem?_pos,q07a,hlt,q01f,hM,hu,q004,subs,q001,k1,k2,w]
 ·rintro M ⟨hM,hd⟩
  simp [q07a,q0fa]
 ·have:=q09e (itemG s) l []
  simp at this
  simp [this]
theorem q0jp:EE.fns 124=some (q05m 7 [vI 0,vI 0,vI 0,vI 0,vI 0,vI 0,vI 0]):=fn124
theorem q0h4:EE.fns 125=some (q05m 3 [vI 0,vI 0,vI 0]):=fn125
theorem q0o1:EE.fns 126=some (q05m 1 [vI 0]):=fn126
theorem q0m9:EE.fns 127=some (q05m 1 [vI 0]):=fn127
def q00k {α:Type} (n:Nat) (l:List α):V:=if l=[] then .nils else .row n l.length 0 l.length
def q03w {α:Type} (enc:α->List PV) (s:Nat) (H:Heap) (l:List α):Option (Heap×List Nat):=if l=[] then none else some (H++[.row s (upV (l.map enc))],[])
theorem q05n {α:Type} (f:FuncId) (s:Nat) (z:List V) (H:Heap) (enc:α->List PV) (hs: ∀x,(enc x).length=s) (hf:EE.fns f=some (q05m s z)) (l:List α) (hm:l.length<most) (hp:EE.prims f=none:=by exact noP _):
  clD EE (.p (.fn f)) [.p (.sl (l.map enc))] H=some (q00k H.length l,q03w enc s H l):=by
 cases l with
 |nil=>exact q0f0 EE f s z H _ hp hf rfl
 |cons x r=>
  have:=q0wv EE f s z H (enc x) (r.map enc) hp hf (by simp [hs]) (by simpa using hm)
  simpa [q00k,q03w] using this
theorem q0xz (s:Int) (hs:I64 s) (l:List Item) (hl: ∀x∈l,q079 x) (hn:l.length<=1000000) (H:Heap):
  clD EE (.p (.fn 128)) [.agg [vI s],q006 l] H=some (q006 (l.map (itemG s)),none):=by
 rw [q002 _ _ _ _ _ _ (noP _) fn128]
 have hc:=q05n _ 7 _ H q004 (fun _=>rfl) q0jp l (by unfold most;omega)
 cases l with
 |nil=>
  simp [q00k,q03w] at hc
  have key:evD EE q0Vz ⟨[(2,.lptr 2 0),(5,.nils),(11,vI 0),(12,vI 0)],[(2,[vI s])],H,H.length,[]⟩=some (.exit 0,⟨[(2,.lptr 2 0),(5,.nils),(11,vI 0),(12,vI 0),(13,.p (.bool false))],[(2,[vI s])],H,H.length,[]⟩):=by
   unfold q0Vz
   rw [q003]
   simp
  simp [zEb,hc,key]
 |cons x r=>
  have key:=q0xy s hs (x::r) hl hn H
  simp [q00k,q03w] at hc
  simp [q07a,q0fa] at key
  simp [zEb,hc,key]
def q0bc (s:Int) (w:V) (n i:Nat) (L:List Int) (H0:Nat) (id:Nat) (G:Heap) (B:Nat) (K:List Int) (k:Nat):St:=
 ⟨[(2,.lptr 2 0),(5,.row H0 n 0 n),(6,vI i),(12,w),(13,vI n),(14,vI i),(34,vI L.length),(35,vI k)],[(2,[vI s])],G.set id (.row 1 (upV (K.map encI))),B,[]⟩
def q0fb (s:Int) (w:V) (n i:Nat) (L:List Int) (H0:Nat) (id:Nat) (G:Heap) (B:Nat) (K:List Int):Ex×St:=
 (.exit 2,⟨[(2,.lptr 2 0),(5,.row H0 n 0 n),(6,vI i),(12,w),(13,vI n),(14,vI i),(34,vI L.length),(35,vI L.length),(36,.p (.bool false))],[(2,[vI s])],G.set id (.row 1 (upV (K.map encI))),B,[]⟩)
theorem q0h5 (s:Int) (hs:I64 s) (w:V) (n i:Nat) (hi:i<n) (L:List Int) (hL: ∀x∈L,I64 x) (hn:L.length<=1000000) (H0 id:Nat) (G:Heap) (B:Nat) (es:List (List V)) (v2:V)
  (h0:Eng.rowAt G H0=some (2,es)) (he:es.length=n) (hei:es[i]? =some [.row id L.length 0 L.length,v2]) (hid:id<G.length) (hne:id≠H0) (hB:B<=id):
  evD EE q0W0 (q0bc s w n i L H0 id G B L 0)=some (q0fb s w n i L H0 id G B (L.map fun x=>upG x s)):=by
 unfold q0W0
 refine (q00u L (q0bc s w n i L H0 id G B) (fun M k=>M.length=L.length/\M.drop k=L.drop k) (fun M k x=>M.set k (upG x s)) (q0fb s w n i L H0 id G B) (fun _ _=>rfl) ?_ ?_ L 0 ⟨rfl,rfl⟩ (Zj _)).trans ?_
 ·rintro M k x ⟨hM,hd⟩ hx
  have hlt:=(Za.1 hx).1
  have hMx:M[k]? =some x:=by
   have:=congrArg (·[0]?) hd
   simpa [List.getElem?_drop,hx] using this
  have w1:IntKind.i64.wrap ((k:Int)+1)=((k+1:Nat):Int):=w64 (by omega) (by omega)
  have ho:=hL x (Zp hx)
  have hu:(upV (M.map encI))[k]? =some [vI x]:=by simp [upV,hMx,encI]
  have inv:(M.set k (upG x s)).length=L.length/\(M.set k (upG x s)).drop (k+1)=L.drop (k+1):=by
   refine ⟨by simp [hM],?_⟩
   rw [List.drop_set_of_lt (Nat.lt_succ_self k)]
   have:=congrArg (List.drop 1) hd
   simpa [List.drop_drop,Nat.add_comm] using this
  refine ⟨?_,inv⟩
  have hrow:=q0hx G id 1 (upV (M.map encI)) hid
  have hrow0:Eng.rowAt (G.set id (.row 1 (upV (M.map encI)))) H0=some (2,es):=by rw [q05l _ _ _ _ hne,h0]
  have hlen:(upV (M.map encI)).length=L.length:=by simp [hM]
  have t1:=q09n 132 (fun n=>upG n s) x s (G.set id (.row 1 (upV (M.map encI)))) id L.length k 0 1 _ _ hrow hlen hu rfl (by simpa using hid) (fun H'=>q08q x s H' ho hs)
  have e:(upV (M.map encI)).set k [vI (upG x s)]=upV ((M.set k (upG x s)).map encI):=by
   rw [<-q06r];rfl
  simp only [List.set_cons_zero,e,List.set_set] at t1
  simp [-getElem?_pos,q0bc,hlt,hi,he,hei,q01f,hM,hrow,hrow0,hu,subs,t1,w1,hB]
 ·rintro M ⟨hM,hd⟩
  simp [q0bc,q0fb]
 ·have:=q09e (fun x=>upG x s) L []
  simp at this
  simp [this]
abbrev q0ma (n:Note):Prop:=(∀x∈n.lines,I64 x)/\n.lines.length<=1000000/\n.pens.length<=1000000
def rowsH (l:List Int):Heap:=if l=[] then [] else [.row 1 (upV (l.map encI))]
def noteH (s:Int) (n:Note):Heap:=rowsH (n.lines.map fun x=>upG x s)++rowsH n.pens
def noteV (id:Nat) (n:Note):List V:=[q00k id n.lines,q00k (id+(if n.lines=[] then 0 else 1)) n.pens]
def q029 (s:Int):List Note->Heap
 |[]=>[]
 |n::r=>noteH s n++q029 s r
def q02a (s:Int):Nat->List Note->List (List V)
 |_,[]=>[]
 |id,n::r=>noteV id n::q02a s (id+(noteH s n).length) r
theorem q0fc (s:Int): ∀a b,q029 s (a++b)=q029 s a++q029 s b
 |[],b=>rfl
 |n::r,b=>by simp only [Zd,q029,q0fc s r b,Zx]
theorem q0fd (s:Int): ∀a id b,q02a s id (a++b)=q02a s id a++q02a s (id+(q029 s a).length) b
 |[],id,b=>by simp [q02a,q029]
 |n::r,id,b=>by simp only [Zd,q02a,q029,q0fd s r,Zt,Z3]
theorem q09o (s:Int): ∀l id,(q02a s id l).length=l.length
 |[],_=>rfl
 |n::r,id=>by simp only [q02a,Zg,q09o s r]
def q058 (s:Int) (l:List Note) (H:Heap) (i:Nat):Heap:=
 H++[.row 2 (q02a s (H.length+1) (l.take i)++List.replicate (l.length-i) [.nils,.nils])]++q029 s (l.take i)
def q0bd (s:Int) (l:List Note) (H:Heap) (i:Nat):St:=
 ⟨[(2,.lptr 2 0),(5,.row H.length l.length 0 l.length),(12,q00b l),(13,vI l.length),(14,vI i)],[(2,[vI s])],q058 s l H i,H.length,[]⟩
def q0be (s:Int) (l:List Note) (H:Heap):Ex×St:=
 (.exit 0,⟨[(2,.lptr 2 0),(5,.row H.length l.length 0 l.length),(12,q00b l),(13,vI l.length),(14,vI l.length),(15,.p (.bool false))],[(2,[vI s])],q058 s l H l.length,H.length,[]⟩)
theorem q0mb (s:Int) (l:List Note) (H:Heap) (i:Nat) (n:Note) (hx:l[i]? =some n):
  q058 s l H (i+1)=H++[.row 2 (q02a s (H.length+1) (l.take i)++noteV (H.length+1+(q029 s (l.take i)).length) n::List.replicate (l.length-i-1) [.nils,.nils])]++q029 s (l.take i)++noteH s n:=by
 have e:l.take (i+1)=l.take i++[n]:=by rw [List.take_add_one,hx];rfl
 unfold q058
 rw [e,q0fd,q0fc]
 simp [q02a,q029,Nat.sub_sub]
theorem q0y0 (H:Heap) (l:List Int) (hm:l.length<=1000000):clD EE (.p (.fn 126)) [sli l] H=some (q00k H.length l,q03w encI 1 H l):=q05n _ 1 _ H encI (fun _=>rfl) q0o1 l (by unfold most;omega)
theorem q0uh (H:Heap) (l:List Int) (hm:l.length<=1000000):clD EE (.p (.fn 127)) [sli l] H=some (q00k H.length l,q03w encI 1 H l):=q05n _ 1 _ H encI (fun _=>rfl) q0m9 l (by unfold most;omega)
theorem q0r4 (a b c d e f:V) (u:List V) (H:Heap) (B:Nat):evD EE q0W0 ⟨[(2,a),(5,b),(6,c),(12,d),(13,e),(14,f),(34,vI 0),(35,vI 0)],[(2,u)],H,B,[]⟩=
  some (.exit 2,⟨[(2,a),(5,b),(6,c),(12,d),(13,e),(14,f),(34,vI 0),(35,vI 0),(36,.p (.bool false))],[(2,u)],H,B,[]⟩):=by
 unfold q0W0
 rw [q003]
 simp
theorem q0C0 {α:Type} {A:List α} {i:Nat} (h:A.length=i) (x:α) (r:List α):(A++x::r)[i]? =some x:=by subst h;simp
theorem q0C1 {α:Type} {A:List α} {i:Nat} (h:A.length=i) (x y:α) (r:List α):(A++x::r).set i y=A++y::r:=by subst h;simp
@[simp] theorem q0E1 {α:Type} (n:Nat) (l:List α):(q00k n l).cells=[q00k n l] :=by unfold q00k;split<;>rfl
@[simp] theorem q0G3 {α:Type} (n:Nat) (l:List α):(q00k n l).oneB=true:=by unfold q00k;split<;>rfl
@[simp] theorem q0G4 {α:Type} (n:Nat) (l:List α):(q00k n l).outB=true:=by unfold q00k;split<;>rfl
@[simp] theorem q0G5 {α:Type} (n:Nat) (l:List α):(q00k n l).notL=true:=by unfold q00k;split<;>rfl
@[simp] theorem q0fe {α:Type} (n:Nat):q00k n ([] :List α)= .nils:=rfl
@[simp] theorem q0im:rowsH [] =[] :=rfl
@[simp] theorem q065 {α:Type} (n:Nat) (x:α) (r:List α):q00k n (x::r)= .row n (x::r).length 0 (x::r).length:=rfl
@[simp] theorem q0ff (x:Int) (r:List Int):rowsH (x::r)=[.row 1 (upV ((x::r).map encI))] :=rfl
theorem q0bf (env:List (Nat×V)) (loc:List (Nat×List V)) (hp:Heap) (base:Nat) (dirty:List Nat) (n:Nat) (d:Option Nat) (l:List Int):
  callR ⟨env,loc,hp,base,dirty⟩ false d (some (q00k n l,q03w encI 1 hp l))=some (St.put ⟨env,loc,hp++rowsH l,base,dirty⟩ d (q00k n l)):=by
 unfold q00k q03w rowsH
 split
 ·rename_i h;subst h;simp
 ·simp
theorem q0h6 (s:Int) (hs:I64 s) (l:List Note) (hl: ∀x∈l,q0ma x) (hn:l.length<=1000000) (H:Heap):
  evD EE q0Wo (q0bd s l H 0)=some (q0be s l H):=by
 unfold q0Wo
 refine (q00u l (fun (_:Unit) i=>q0bd s l H i) (fun _ _=>True) (fun _ _ _=>()) (fun _=>q0be s l H) (fun _ _=>rfl) ?_ ?_ () 0 trivial (Zj _))
 ·rintro _ i n-hx
  refine ⟨?_,trivial⟩
  have hlt:=(Za.1 hx).1
  have w1:IntKind.i64.wrap ((i:Int)+1)=((i+1:Nat):Int):=w64 (by omega) (by omega)
  obtain ⟨h1,h2,h3⟩:=hl n (Zp hx)
  have hix:=fun H k=>q00c H q00e (k:=k) (s:=2) hx rfl
  obtain ⟨k,hk⟩: ∃k,l.length-i=k+1:=⟨l.length-i-1,by omega⟩
  have hk2:l.length-i-1=k:=by omega
  have hsucc:=q0mb s l H i n hx
  rw [hk2] at hsucc
  have hA:=q09o s (l.take i) (H.length+1)
  rw [ZC,Nat.min_eq_left (Nat.le_of_lt hlt)] at hA
  have e0:q058 s l H i=H++[.row 2 (q02a s (H.length+1) (l.take i)++List.replicate (k+1) [.nils,.nils])]++q029 s (l.take i):=by unfold q058;rw [hk]
  simp only [q0bd]
  generalize q058 s l H (i+1)=R at hsucc⊢
  rw [e0]
  generalize q02a s (H.length+1) (l.take i)=A at*
  generalize q029 s (l.take i)=T at*
  have hrow: ∀(v:List V) (U:Heap),Eng.rowAt (H++DObj.row 2 (A++v::List.replicate k [.nils,.nils])::U) H.length=some (2,A++v::List.replicate k [.nils,.nils]):=fun v U=>by simp
  have hes: ∀(v:List V),(A++v::List.replicate k [.nils,.nils]).length=l.length:=fun v=>by simp;omega
  have mg:=fun x r=>q0C0 (α:=List V) hA x r
  have ms:=fun x y r=>q0C1 (α:=List V) hA x y r
  simp only [Z9,Zx,Zd,Zf] at hsucc⊢
  have c1:=q0y0 (H++DObj.row 2 (A++[.nils,.nils]::List.replicate k [.nils,.nils])::T) n.lines h2
  have c2:=q0uh (H++DObj.row 2 (A++[.nils,.nils]::List.replicate k [.nils,.nils])::(T++rowsH n.lines)) n.pens h3
  simp only [sli] at c1 c2
  cases hL:n.lines with
  |nil=>
   simp only [hL,ZL,q0im,List.append_nil] at c1 c2
   simp only [q0fe] at c1
   rw [show q03w encI 1 (H++DObj.row 2 (A++[.nils,.nils]::List.replicate k [.nils,.nils])::T) []=none from rfl] at c1
   have nl:=fun v U=>q0r4 (.lptr 2 0) (.row H.length l.length 0 l.length) (vI i) (q00b l) (vI l.length) (vI i) [vI s] (H++DObj.row 2 (A++v::List.replicate k [.nils,.nils])::(T++U)) H.length
   simp only [noteV,noteH,hL,ZL,q0im,q0fe,if_pos,Nat.add_zero,Z3,Nat.add_comm 1,Zf] at hsucc
   simp only [Zt,Zg] at c1 c2
   rw [hsucc]
   simp [-getElem?_pos,hlt,hix,q00e,subs,q001,q01f,hrow,hes,mg,ms,hL,c1,c2,q0bf,nl,w1]
  |cons x r=>
   simp only [hL,q0ff,q065] at c1 c2
   rw [show∀G,q03w encI 1 G (x::r)=some (G++[.row 1 (upV ((x::r).map encI))],[]) from fun _=>rfl] at c1
   simp only [noteV,noteH,hL,Zo,q0ff,q065,List.cons_ne_nil,if_false,reduceCtorEq,Z3,Nat.add_comm 1,Zf] at hsucc
   simp only [Zt,Zg,Zq,Zs,Zx,Zd,Zf] at c1 c2
   have hset: ∀v K,(H++DObj.row 2 (A++v::List.replicate k [.nils,.nils])::(T++DObj.row 1 (upV ((x::r).map encI))::rowsH n.pens)).set (H.length+(T.length+1)) (.row 1 K)=
     H++DObj.row 2 (A++v::List.replicate k [.nils,.nils])::(T++DObj.row 1 K::rowsH n.pens):=fun v K=>by simp
   have key:=q0h5 s hs (q00b l) l.length i hlt (x::r) (fun y hy=>h1 y (hL▸hy)) (by rw [<-hL];exact h2) H.length (H.length+(T.length+1))
    (H++DObj.row 2 (A++[.row (H.length+(T.length+1)) (x::r).length 0 (x::r).length,q00k (H.length+(T.length+2)) n.pens]::List.replicate k [.nils,.nils])::(T++DObj.row 1 (upV ((x::r).map encI))::rowsH n.pens)) H.length _ (q00k (H.length+(T.length+2)) n.pens)
    (hrow _ _) (hes _) (mg _ _) (by simp) (by omega) (by omega)
   simp only [q0bc,q0fb,hset] at key
   rw [hsucc]
   simp at c1 c2 key
   simp [-getElem?_pos,hlt,hix,q00e,subs,q001,q01f,hrow,hes,mg,ms,hL,c1,c2,q0bf,key,w1]
 ·rintro _-
  refine ⟨?_,by simp [q0be]⟩
  simp [q0bd,q0be]
theorem q0in (base id:Nat) (G:Heap) (d:Nat) (L K:List Int) (h:Eng.rowAt G id=some (1,upV (K.map encI))\/L=[]) (hb:base<=id) (hl:K.length=L.length):frz base G (d+1) (q00k id L)=some (.sl (K.map encI)):=by
 cases L with
 |nil=>
  have:K=[]:=by simpa using hl
  subst this;rfl
 |cons x r=>
  rcases h with h|h
  ·rw [q065,q056,if_pos hb,h,q09c];simp [hl]
   rw [<-Zg (a:=x) (as:=r),<-hl];simp
  ·cases h
theorem q0o2 (s:Int) (n:Note) (H0:Heap) (U:Heap):Eng.rowAt (H0++(noteH s n++U)) H0.length=some (1,upV ((n.lines.map fun x=>upG x s).map encI))\/n.lines=[]:=by
 unfold noteH
 cases h:n.lines with
 |nil=>exact .inr rfl
 |cons x r=>left;simp
theorem q0o3 (s:Int) (n:Note) (H0:Heap) (U:Heap):Eng.rowAt (H0++(noteH s n++U)) (H0.length+(if n.lines=[] then 0 else 1))=some (1,upV (n.pens.map encI))\/n.pens=[]:=by
 unfold noteH
 cases h:n.pens with
 |nil=>exact .inr rfl
 |cons x r=>
  left
  cases h2:n.lines with
  |nil=>simp
  |cons y q=>simp
theorem q0io (s:Int) (base:Nat): ∀(l:List Note) (H0:Heap),base<=H0.length->allO (allO (frz base (H0++q029 s l) 2)) (q02a s H0.length l)=some (l.map fun n=>q00e (noteG s n))
 |[],_,_=>rfl
 |n::r,H0,hb=>by
  have ih:=q0io s base r (H0++noteH s n) (by simp;omega)
  rw [Zx,Zt] at ih
  have f1:=q0in base H0.length (H0++(noteH s n++q029 s r)) 1 n.lines (n.lines.map fun x=>upG x s) (q0o2 s n H0 _) hb (by simp)
  have f2:=q0in base (H0.length+(if n.lines=[] then 0 else 1)) (H0++(noteH s n++q029 s r)) 1 n.pens n.pens (q0o3 s n H0 _) (by omega) rfl
  simp only [q029,q02a,noteV,allO,f1,f2,ih,Zo]
  rfl
theorem q0ui (s:Int) (hs:I64 s) (l:List Note) (hl: ∀x∈l,q0ma x) (hn:l.length<=1000000) (H:Heap):
  clD EE (.p (.fn 129)) [.agg [vI s],q00b l] H=some (q00b (l.map (noteG s)),none):=by
 rw [q002 _ _ _ _ _ _ (noP _) fn129]
 have key:=q0h6 s hs l hl hn H
 have hm:l.length<most:=by unfold most;omega
 have fz:=q0io s H.length l (H++[.row 2 (q02a s (H.length+1) l)]) (by simp)
 have hl2:=q09o s l (H.length+1)
 simp [q0bd,q0be,q058,q029,q02a] at key fz
 have ht:List.take l.length (q02a s (H.length+1) l)=q02a s (H.length+1) l:=Zy (by omega)
 simp [zEa,q0wu,hm,key,subs,frzK,hl2,ht,fz]
abbrev q0bg (g:Geom):Prop:=I64 g.cols/\I64 g.wide/\I64 g.gap/\I64 g.high/\I64 g.first/\I64 g.grid/\I64 g.rule/\I64 g.sep/\I64 g.noteMost/\I64 g.topMost/\I64 g.botMost/\I64 g.topMany/\I64 g.botMany/\I64 g.club/\I64 g.widow/\I64 g.split/\I64 g.defer/\I64 g.spare
structure okJob (j:Job):Prop where
 g:q0bg j.g
 items: ∀x∈j.items,q079 x
 notes: ∀x∈j.notes,q0ma x
 floats: ∀x∈j.floats,q0h3 x
 n1:j.items.length<=1000000
 n2:j.notes.length<=1000000
 n3:j.floats.length<=1000000
def q08s (s:Int) (l:List Float) (u:List V) (g:Geom) (a b:V) (H:Heap) (M:List Float) (i:Nat):St:=
 ⟨[(2,.lptr 2 0),(3,.lptr 3 0),(4,.ptr (H.length+1) 0),(44,vI l.length),(45,vI i)],[(2,u),(3,[vI s])],H++[.row 3 (upV (M.map q009)),.box (cGeom g++[a,b,.row H.length l.length 0 l.length])],H.length,[]⟩
def q0cc (s:Int) (l:List Float) (u:List V) (g:Geom) (a b:V) (H:Heap) (M:List Float):Ex×St:=
 (.exit 0,⟨[(2,.lptr 2 0),(3,.lptr 3 0),(4,.ptr (H.length+1) 0),(44,vI l.length),(45,vI l.length),(46,.p (.bool false))],[(2,u),(3,[vI s])],H++[.row 3 (upV (M.map q009)),.box (cGeom g++[a,b,.row H.length l.length 0 l.length])],H.length,[]⟩)
theorem q0fg (s:Int) (hs:I64 s) (l:List Float) (hl: ∀x∈l,q0h3 x) (hn:l.length<=1000000) (u:List V) (g:Geom) (a b:V) (H:Heap):
  evD EE q0Wc (q08s s l u g a b H l 0)=some (q0cc s l u g a b H (l.map (q01h s))):=by
 unfold q0Wc
 refine (q00u l (q08s s l u g a b H) (fun M k=>M.length=l.length/\M.drop k=l.drop k) (fun M k x=>M.set k (q01h s x)) (q0cc s l u g a b H) (fun _ _=>rfl) ?_ ?_ l 0 ⟨rfl,rfl⟩ (Zj _)).trans ?_
 ·rintro M i x ⟨hM,hd⟩ hx
  have hlt:=(Za.1 hx).1
  have hMx:M[i]? =some x:=by
   have:=congrArg (·[0]?) hd
   simpa [List.getElem?_drop,hx] using this
  have w:IntKind.i64.wrap ((i:Int)+1)=((i+1:Nat):Int):=w64 (by omega) (by omega)
  have ho:=hl x (Zp hx)
  have hu:(upV (M.map q009))[i]? =some ((q009 x).map .p):=by simp [upV,hMx]
  have inv:(M.set i (q01h s x)).length=l.length/\(M.set i (q01h s x)).drop (i+1)=l.drop (i+1):=by
   refine ⟨by simp [hM],?_⟩
   rw [List.drop_set_of_lt (Nat.lt_succ_self i)]
   have:=congrArg (List.drop 1) hd
   simpa [List.drop_drop,Nat.add_comm] using this
  refine ⟨?_,inv⟩
  have hrow: ∀U:Heap,Eng.rowAt (H++DObj.row 3 (upV (M.map q009))::U) H.length=some (3,upV (M.map q009)):=fun U=>by simp
  have hlen:(upV (M.map q009)).length=l.length:=by simp [hM]
  have hj:((q009 x).map V.p)[1]? =some (vI x.h):=rfl
  have t1:=fun U:Heap=>q09n 132 (fun n=>upG n s) x.h s (H++DObj.row 3 (upV (M.map q009))::U) H.length l.length i 1 3 _ _ (hrow U) hlen hu hj (by simp) (fun H'=>q08q x.h s H' ho.2.1 hs)
  have e:(upV (M.map q009)).set i (((q009 x).map V.p).set 1 (vI (upG x.h s)))=upV ((M.set i (q01h s x)).map q009):=by
   rw [<-q06r];rfl
  simp only [e] at t1
  simp [-getElem?_pos,q08s,hlt,q01f,hM,hu,q009,subs,t1,w]
 ·rintro M ⟨hM,hd⟩
  simp [q08s,q0cc]
 ·have:=q09e (q01h s) l []
  simp at this
  simp [this]
theorem q0pi (j:Job) (ok:okJob j) (H:Heap):clD EE (.p (.fn 54)) [vJob j] H=some (vJob (snapG j),none):=by
 rw [q002 _ _ _ _ _ _ (noP _) fn54]
 obtain ⟨g,items,notes,floats⟩:=j
 have hg:=ok.g
 simp only [q0bg] at hg
 by_cases c:g.grid<1
 ·simp [zEc,c,snapG]
 ·have h1:=q0xz g.grid hg.2.2.2.2.2.1 items ok.items ok.n1 H
  have h2:=q0ui g.grid hg.2.2.2.2.2.1 notes ok.notes ok.n2 H
  have hc:=q05n _ 3 _ H q009 (fun _=>rfl) q0h4 floats (by have:=ok.n3;simp only at this;unfold most;omega)
  have i1:=fun H'=>q0du g.high g.grid H' hg.2.2.2.1 hg.2.2.2.2.2.1
  have i2:=fun H'=>q0du g.first g.grid H' hg.2.2.2.2.1 hg.2.2.2.2.2.1
  have i3:=fun H'=>q08q g.rule g.grid H' hg.2.2.2.2.2.2.1 hg.2.2.2.2.2.1
  have i4:=fun H'=>q08q g.sep g.grid H' hg.2.2.2.2.2.2.2.1 hg.2.2.2.2.2.1
  obtain ⟨I,hI⟩: ∃I,(items.map (itemG g.grid)).map q004=I:=⟨_,rfl⟩
  obtain ⟨N,hN⟩: ∃I,(notes.map (noteG g.grid)).map q00e=I:=⟨_,rfl⟩
  have hj:snapG ⟨g,items,notes,floats⟩=⟨geomG g,items.map (itemG g.grid),notes.map (noteG g.grid),floats.map (q01h g.grid)⟩:=if_neg c
  rw [hj]
  show _=some (V.agg (cGeom (geomG g)++[.p (.sl ((items.map (itemG g.grid)).map q004)),.p (.sl ((notes.map (noteG g.grid)).map q00e)),q005 (floats.map (q01h g.grid))]),none)
  simp only [q006,q00b,hI,hN] at h1 h2⊢
  clear hj hI hN
  cases floats with
  |nil=>
   have b1:=q07q 131 (fun n=>downG n g.grid) g.high g.first g.grid (H++[.box (cGeom g++[.p (.sl I),.p (.sl N),.nils])])
    H.length 3 4 _ (by simp;rfl) rfl rfl (by decide) (by simp) i1 i2
   have b2:=q07q 132 (fun n=>upG n g.grid) g.rule g.sep g.grid (H++[.box (cGeom {g with high:=downG g.high g.grid,first:=downG g.first g.grid}++[.p (.sl I),.p (.sl N),.nils])])
    H.length 6 7 _ (by simp;rfl) rfl rfl (by decide) (by simp) i3 i4
   have key: ∀u cs,evD EE q0Wc ⟨[(2,.lptr 2 0),(3,.lptr 3 0),(4,.ptr H.length 0),(44,vI 0),(45,vI 0)],[(2,u),(3,[vI g.grid])],H++[.box cs],H.length,[]⟩=
     some (.exit 0,⟨[(2,.lptr 2 0),(3,.lptr 3 0),(4,.ptr H.length 0),(44,vI 0),(45,vI 0),(46,.p (.bool false))],[(2,u),(3,[vI g.grid])],H++[.box cs],H.length,[]⟩):=by
    intro u cs
    unfold q0Wc
    rw [q003]
    simp
   simp [q00k,q03w] at hc
   simp at b1 b2
   simp [zEc,c,h1,h2,hc,b1,b2,key,geomG]
  |cons x r=>
   have b1:=q07q 131 (fun n=>downG n g.grid) g.high g.first g.grid (H++[.row 3 (upV ((x::r).map q009)),.box (cGeom g++[.p (.sl I),.p (.sl N),.row H.length (x::r).length 0 (x::r).length])])
    (H.length+1) 3 4 _ (by simp;rfl) rfl rfl (by decide) (by simp) i1 i2
   have b2:=q07q 132 (fun n=>upG n g.grid) g.rule g.sep g.grid (H++[.row 3 (upV ((x::r).map q009)),.box (cGeom {g with high:=downG g.high g.grid,first:=downG g.first g.grid}++[.p (.sl I),.p (.sl N),.row H.length (x::r).length 0 (x::r).length])])
    (H.length+1) 6 7 _ (by simp;rfl) rfl rfl (by decide) (by simp) i3 i4
   have key:=fun u=>q0fg g.grid hg.2.2.2.2.2.1 (x::r) ok.floats ok.n3 u (geomG g) (.p (.sl I)) (.p (.sl N)) H
   simp [q00k,q03w] at hc
   simp at b1 b2
   simp [q08s,q0cc,geomG] at key
   simp [zEc,c,h1,h2,hc,b1,b2,key,geomG]
def off (s n:Int):Bool:= !decide (n.tmod s=0)
theorem q0y1:EE.fns 413=some (idxI 1 false):=fn413
theorem q0y2:EE.fns 408=some (conI 413):=fn408
theorem q0y3 (hv:V) (p:Int->Bool) (l:List Int) (H:Heap) (ho:(normA hv).outB=true) (ho2:normA hv=hv) (hn:l.length<=1000000) (hH: ∀x∈l,clD EE hv [vI x] H=some (vB (p x),none)):
  clD EE (.p (.fn 408)) [sli l,hv] H=some (vB (l.any p),none):=
 q0Dx _ _ (noP _) q0y2 (sli l) hv p l H rfl rfl ho ho2 (q0b7 _ 1 false encI (fun x=>vI x) (noP _) q0y1 (fun _=>rfl) (fun _=>rfl) (fun _=>rfl) (fun _=>rfl) l (by omega) hv p H hH)
def lenOK (n:Int):Bool:= !(decide (n<0)||decide (1073741823<n))
def q00i (x:Item):Item:=if x.k=1 then ⟨1,x.h,x.f,0,0,0,0⟩ else if x.k=2 then ⟨2,x.h,0,x.str,x.ord,x.shr,0⟩ else if x.k=7 then ⟨7,0,0,0,0,0,0⟩ else ⟨x.k,0,0,0,0,0,x.n⟩
def upTo (m n:Int):Bool:=decide (0<=n)&&decide (n<=m)
def nOk (x:Item):Bool:=if x.k=3 then decide (x.n= -10000)||upTo 10000 x.n else if x.k=4 then upTo 1048576 x.n else if x.k=5 then upTo 511 x.n else if x.k=6 then upTo 255 x.n else upTo 0 x.n
def q016 (x:Item):Bool:=decide (1<=x.k)&&decide (x.k<=7)&&decide (q00i x=x)&&nOk x&&(lenOK x.h&&lenOK x.str&&lenOK x.shr)&&upTo 3 x.f&&upTo 3 x.ord&& !(decide (x.k=2)&&decide (x.h<x.shr))
theorem q09p (m n:Int) (p:Nat) (H:Heap) (hb:Eng.boxAt H p=some [vI m]):clD EE (.p (.fn 407)) [vI n,.ptr p 0] H=some (vB (upTo m n),none):=by
 rw [q002 _ _ _ _ _ _ (noP _) fn407]
 have e:subs [vI m] 0 1=some [vI m]:=rfl
 by_cases c:0<=n
 ·simp [zEa,hb,e,upTo,c]
 ·simp [zEa,upTo,c]
theorem q044 (m:Int) (H:Heap):clD EE (.p (.fn 364)) [vI m] H=some (.fn (.func 407) [] [.ptr H.length 0],some (H++[.box [vI m]],[])):=by
 rw [q002 _ _ _ _ _ _ (noP _) fn364]
 simp [zEa]
theorem q0o4 (f:FuncId) (H:Heap):clD EE (.p (.fn 394)) [.p (.fn f)] H=some (.fn (.func 395) [] [.ptr H.length 0],some (H++[.box [.p (.fn f)]],[])):=by
 rw [q002 _ _ _ _ _ _ (noP _) fn394]
 simp [zEa]
theorem q0mc (f:FuncId) (g:Int->Item) (x:Item) (p:Nat) (H:Heap) (hb:Eng.boxAt H p=some [.p (.fn f)]) (hg: ∀H',clD EE (.p (.fn f)) [vI x.n] H'=some (vItem (g x.n),none)):
  clD EE (.p (.fn 395)) [vItem x,.ptr p 0] H=some (vItem (g x.n),none):=by
 rw [q002 _ _ _ _ _ _ (noP _) fn395]
 have h:=hg H
 simp [zEa,hb,subs,h,q001]
theorem q0E2 (h f:Int) (H:Heap):clD EE (.p (.fn 397)) [vI h,vI f] H=some (vItem ⟨1,h,f,0,0,0,0⟩,none):=by
 rw [q002 _ _ _ _ _ _ (noP _) fn397]
 simp [zEc]
theorem q0C2 (h s o r:Int) (H:Heap):clD EE (.p (.fn 399)) [vI h,vI s,vI o,vI r] H=some (vItem ⟨2,h,0,s,o,r,0⟩,none):=by
 rw [q002 _ _ _ _ _ _ (noP _) fn399]
 simp [zEc]
theorem q0o5 (n:Int) (H:Heap):clD EE (.p (.fn 400)) [vI n] H=some (vItem ⟨3,0,0,0,0,0,n⟩,none):=by
 rw [q002 _ _ _ _ _ _ (noP _) fn400]
 simp [zEc]
theorem q0C3 (n:Int) (H:Heap):clD EE (.p (.fn 402)) [vI n] H=some (vItem ⟨4,0,0,0,0,0,n⟩,none):=by
 rw [q002 _ _ _ _ _ _ (noP _) fn402]
 simp [zEc]
theorem q0md (n:Int) (H:Heap):clD EE (.p (.fn 403)) [vI n] H=some (vItem ⟨5,0,0,0,0,0,n⟩,none):=by
 rw [q002 _ _ _ _ _ _ (noP _) fn403]
 simp [zEc]
theorem q0jq (n:Int) (H:Heap):clD EE (.p (.fn 404)) [vI n] H=some (vItem ⟨6,0,0,0,0,0,n⟩,none):=by
 rw [q002 _ _ _ _ _ _ (noP _) fn404]
 simp [zEc]
theorem q0r5 (H:Heap):clD EE (.p (.fn 406)) [] H=some (vItem ⟨7,0,0,0,0,0,0⟩,none):=by
 rw [q002 _ _ _ _ _ _ (noP _) fn406]
 simp [zEc]
theorem q0y4 (x:Item) (H:Heap):clD EE (.p (.fn 396)) [vItem x] H=some (vItem ⟨1,x.h,x.f,0,0,0,0⟩,none):=by
 rw [q002 _ _ _ _ _ _ (noP _) fn396]
 simp [zEc,q0E2]
theorem q0y5 (x:Item) (H:Heap):clD EE (.p (.fn 398)) [vItem x] H=some (vItem ⟨2,x.h,0,x.str,x.ord,x.shr,0⟩,none):=by
 rw [q002 _ _ _ _ _ _ (noP _) fn398]
 simp [zEc,q0C2]
theorem q0y6 (x:Item) (H:Heap):clD EE (.p (.fn 405)) [vItem x] H=some (vItem ⟨7,0,0,0,0,0,0⟩,none):=by
 rw [q002 _ _ _ _ _ _ (noP _) fn405]
 simp [zEc,q0r5]
theorem q0uj (n:Int) (H:Heap):clD EE (.p (.fn 401)) [vI n] H=some (vB (decide (n= -10000)||upTo 10000 n),none):=by
 rw [q002 _ _ _ _ _ _ (noP _) fn401]
 have h:=q09p 10000 n H.length (H++[.box [vI 10000]]) (by simp)
 by_cases c:n= -10000
 ·simp [zEa,c]
 ·simp [zEa,c,q044,h]
def formH:Heap:=[.box [vI 0],.box [vI 0],.box [.p (.fn 400)],.box [.p (.fn 402)],.box [vI 1048576],.box [.p (.fn 403)],.box [vI 511],.box [.p (.fn 404)],.box [vI 255],.box [vI 0]]
def up1 (n:Nat):V:= .fn (.func 407) [] [.ptr n 0]
def num1 (n:Nat):V:= .fn (.func 395) [] [.ptr n 0]
def formV (n:Nat):List (List V):=[[.p (.fn 396),up1 n],[.p (.fn 398),up1 (n+1)],[num1 (n+2),.p (.fn 401)],[num1 (n+3),up1 (n+4)],[num1 (n+5),up1 (n+6)],[num1 (n+7),up1 (n+8)],[.p (.fn 405),up1 (n+9)]]
theorem q0y7 (H:Heap):clD EE (.p (.fn 363)) [] H=some (.vsl (formV H.length),some (H++formH,[])):=by
 rw [q002 _ _ _ _ _ _ (noP _) fn363]
 simp [zEa,q001,q044,q0o4,formV,formH,up1,num1]
theorem q0y8 (x:Item) (h1:1<=x.k) (h7:x.k<=7) (H:Heap): ∃sv nv,(∀H',ixsI H' (.vsl (formV H.length)) (.p (.int .i64 (x.k-1))) 2=some (.eptr [sv,nv] 0))/\sv.oneB=true/\nv.oneB=true/\sv.cells=[sv]/\nv.cells=[nv]/\sv.notL=true/\nv.notL=true/\
  (∀T,clD EE sv [vItem x] (H++(formH++T))=some (vItem (q00i x),none))/\(∀T,clD EE nv [vI x.n] (H++(formH++T))=some (vB (nOk x),none)):=by
 have hk:x.k=1\/x.k=2\/x.k=3\/x.k=4\/x.k=5\/x.k=6\/x.k=7:=by omega
 have up: ∀(i:Nat) (m:Int) T,formH[i]? =some (.box [vI m])->clD EE (up1 (H.length+i)) [vI x.n] (H++(formH++T))=some (vB (upTo m x.n),none):=fun i m T hi=>by
  unfold up1
  rw [q02m]
  refine q09p m x.n (H.length+i) _ ?_
  have hlt:=(Za.1 hi).1
  rw [q0b0];unfold Eng.boxAt;rw [Zw hlt,hi]
 have nm: ∀(i:Nat) (f:FuncId) (g:Int->Item) T,formH[i]? =some (.box [.p (.fn f)])->(∀H',clD EE (.p (.fn f)) [vI x.n] H'=some (vItem (g x.n),none))->clD EE (num1 (H.length+i)) [vItem x] (H++(formH++T))=some (vItem (g x.n),none):=fun i f g T hi hg=>by
  unfold num1
  rw [q02m]
  refine q0mc f g x (H.length+i) _ ?_ hg
  have hlt:=(Za.1 hi).1
  rw [q0b0];unfold Eng.boxAt;rw [Zw hlt,hi]
 rcases hk with k|k|k|k|k|k|k
 ·refine ⟨.p (.fn 396),up1 H.length,fun H'=>by simp [k,ixsI,ixsV,formV],rfl,rfl,rfl,rfl,rfl,rfl,fun T=> ?_,fun T=> ?_⟩
  ·rw [q0y4];simp [q00i,k]
  ·rw [show up1 H.length=up1 (H.length+0) from rfl,up 0 0 T rfl];simp [nOk,k]
 ·refine ⟨.p (.fn 398),up1 (H.length+1),fun H'=>by simp [k,ixsI,ixsV,formV],rfl,rfl,rfl,rfl,rfl,rfl,fun T=> ?_,fun T=> ?_⟩
  ·rw [q0y5];simp [q00i,k]
  ·rw [up 1 0 T rfl];simp [nOk,k]
 ·refine ⟨num1 (H.length+2),.p (.fn 401),fun H'=>by simp [k,ixsI,ixsV,formV],rfl,rfl,rfl,rfl,rfl,rfl,fun T=> ?_,fun T=> ?_⟩
  ·rw [nm 2 400 (fun n=>⟨3,0,0,0,0,0,n⟩) T rfl (fun H'=>q0o5 x.n H')];simp [q00i,k]
  ·rw [q0uj];simp [nOk,k]
 ·refine ⟨num1 (H.length+3),up1 (H.length+4),fun H'=>by simp [k,ixsI,ixsV,formV],rfl,rfl,rfl,rfl,rfl,rfl,fun T=> ?_,fun T=> ?_⟩
  ·rw [nm 3 402 (fun n=>⟨4,0,0,0,0,0,n⟩) T rfl (fun H'=>q0C3 x.n H')];simp [q00i,k]
  ·rw [up 4 1048576 T rfl];simp [nOk,k]
 ·refine ⟨num1 (H.length+5),up1 (H.length+6),fun H'=>by simp [k,ixsI,ixsV,formV],rfl,rfl,rfl,rfl,rfl,rfl,fun T=> ?_,fun T=> ?_⟩
  ·rw [nm 5 403 (fun n=>⟨5,0,0,0,0,0,n⟩) T rfl (fun H'=>q0md x.n H')];simp [q00i,k]
  ·rw [up 6 511 T rfl];simp [nOk,k]
 ·refine ⟨num1 (H.length+7),up1 (H.length+8),fun H'=>by simp [k,ixsI,ixsV,formV],rfl,rfl,rfl,rfl,rfl,rfl,fun T=> ?_,fun T=> ?_⟩
  ·rw [nm 7 404 (fun n=>⟨6,0,0,0,0,0,n⟩) T rfl (fun H'=>q0jq x.n H')];simp [q00i,k]
  ·rw [up 8 255 T rfl];simp [nOk,k]
 ·refine ⟨.p (.fn 405),up1 (H.length+9),fun H'=>by simp [k,ixsI,ixsV,formV],rfl,rfl,rfl,rfl,rfl,rfl,fun T=> ?_,fun T=> ?_⟩
  ·rw [q0y6];simp [q00i,k]
  ·rw [up 9 0 T rfl];simp [nOk,k]
theorem q0y9 (n:Int) (H:Heap):clD EE (.p (.fn 409)) [vI n] H=some (vB (!lenOK n),none):=by
 rw [q002 _ _ _ _ _ _ (noP _) fn409]
 by_cases c:n<0
 ·simp [zEa,lenOK,c]
 ·simp [zEa,lenOK,c]
theorem q0C4 (a b c:Int) (H:Heap):clD EE (.p (.fn 365)) [.p (.sl [[.int .i64 a],[.int .i64 b],[.int .i64 c]])] H=some (vB (lenOK a&&lenOK b&&lenOK c),none):=by
 rw [q002 _ _ _ _ _ _ (noP _) fn365]
 have h:=q0y3 (.p (.fn 409)) (fun n=> !lenOK n) [a,b,c] H rfl rfl (by simp) (fun x _=>q0y9 x H)
 simp only [sli,Zo,ZL,encI] at h
 simp [zEa,h]
 cases lenOK a<;>cases lenOK b<;>cases lenOK c<;>rfl
theorem q0d4 (x y:Item):q00h [true,true,true,true,true,true,true] [vI x.k,vI x.h,vI x.f,vI x.str,vI x.ord,vI x.shr,vI x.n] [vI y.k,vI y.h,vI y.f,vI y.str,vI y.ord,vI y.shr,vI y.n]=some (decide (x=y)):=by
 obtain ⟨a,b,c,d,e,f,g⟩:=x
 obtain ⟨a',b',c',d',e',f',g'⟩:=y
 simp [Bool.decide_and]
theorem q0me (x:Item) (H:Heap):clD EE (.p (.fn 311)) [vItem x] H=some (vI (if q016 x=true then 0 else 8),none):=by
 rw [q002 _ _ _ _ _ _ (noP _) fn311]
 by_cases c1:x.k<1
 ·have e:q016 x=false:=by
   have: ¬1<=x.k:=by omega
   simp [q016,this]
  simp [zEb,c1,e]
 ·by_cases c7:7<x.k
  ·have e:q016 x=false:=by
    have: ¬x.k<=7:=by omega
    simp [q016,this]
   simp [zEb,c1,c7,e]
  ·obtain ⟨sv,nv,f1,f2,f3,f4,f5,f8,f9,f6,f7⟩:=q0y8 x (by omega) (by omega) H
   have w:IntKind.i64.wrap (x.k-1)=x.k-1:=w64 (by omega) (by omega)
   have g6:=f6 [.box [vI 3]]
   have g7:=f7 [.box [vI 3]]
   have hb:Eng.boxAt (H++(formH++[.box [vI 3]])) (H.length+formH.length)=some [vI 3]:=by simp
   have t1:=q09p 3 x.f (H.length+formH.length) _ hb
   have t2:=q09p 3 x.ord (H.length+formH.length) _ hb
   have hl:=q0C4 x.h x.str x.shr (H++(formH++[.box [vI 3]]))
   have he:=q0d4 (q00i x) x
   have hf:=q0y7 H
   have a1:(1:Int)<=x.k:=by omega
   have a7:x.k<=7:=by omega
   unfold q016
   simp only [a1,a7,decide_true,ZV]
   generalize formV H.length=fv at*
   generalize formH=FH at*
   generalize q00i x=y at*
   cases e1:decide (y=x) with
   |false=>
    rw [e1] at he
    simp [-q00p,zEc,c1,c7,hf,f1,f2,f3,f4,f5,f8,f9,w,q044,g6,he]
   |true=>
    rw [e1] at he
    cases e2:nOk x with
    |false=>
     rw [e2] at g7
     simp [-q00p,zEc,c1,c7,hf,f1,f2,f3,f4,f5,f8,f9,w,q044,g6,g7,he]
    |true=>
     rw [e2] at g7
     cases e3:(lenOK x.h&&lenOK x.str&&lenOK x.shr) with
     |false=>
      rw [e3] at hl
      simp [-q00p,zEc,c1,c7,hf,f1,f2,f3,f4,f5,f8,f9,w,q044,g6,g7,he,hl]
     |true=>
      rw [e3] at hl
      cases e4:upTo 3 x.f with
      |false=>
       rw [e4] at t1
       simp [-q00p,zEc,c1,c7,hf,f1,f2,f3,f4,f5,f8,f9,w,q044,g6,g7,he,hl,t1]
      |true=>
       rw [e4] at t1
       cases e5:upTo 3 x.ord with
       |false=>
        rw [e5] at t2
        simp [-q00p,zEc,c1,c7,hf,f1,f2,f3,f4,f5,f8,f9,w,q044,g6,g7,he,hl,t1,t2]
       |true=>
        rw [e5] at t2
        by_cases k2:x.k=2
        ·have w1:IntKind.i64.wrap 1=1:=w64 (by omega) (by omega)
         have e21:(2:Int)-1=1:=rfl
         rw [k2] at he
         simp only [vItem,k2,e21] at f1 g6
         by_cases k3:x.h<x.shr
         ·simp [-q00p,zEc,c1,c7,hf,f1,f2,f3,f4,f5,f8,f9,w1,q044,g6,g7,he,hl,t1,t2,k2,k3]
         ·simp [-q00p,zEc,c1,c7,hf,f1,f2,f3,f4,f5,f8,f9,w1,q044,g6,g7,he,hl,t1,t2,k2,k3]
        ·simp [-q00p,zEc,c1,c7,hf,f1,f2,f3,f4,f5,f8,f9,w,q044,g6,g7,he,hl,t1,t2,k2]
def sndIC:IC->IC
 | .seq _ b=>b
 |c=>c
def fstIC:IC->IC
 | .seq a _=>a
 |c=>c
def rTail:IC:=sndIC (sndIC (sndIC ir140.body))
theorem q0dx (n:Int) (H:Heap):clD EE (.p (.fn 242)) [vI n] H=some (vB (lenOK n),none):=by
 rw [q002 _ _ _ _ _ _ (noP _) fn242]
 by_cases c:n<0
 ·have c2: ¬0<=n:=by omega
  simp [zEa,lenOK,c,c2]
 ·have c2:0<=n:=by omega
  by_cases d:n<=1073741823
  ·have d2: ¬1073741823<n:=by omega
   simp [zEa,lenOK,c,c2,d,d2]
  ·have d2:1073741823<n:=by omega
   simp [zEa,lenOK,c,c2,d,d2]
def tailF (x y:Item):Bool:=decide (x=y)&&lenOK x.h&&lenOK x.str&&lenOK x.shr&&decide (0<=x.f)&&decide (x.f<=3)&&decide (0<=x.ord)&&decide (x.ord<=3)&&(!decide (x.k=2)||decide (x.shr<=x.h))
abbrev cItem (x:Item):List V:=[vI x.k,vI x.h,vI x.f,vI x.str,vI x.ord,vI x.shr,vI x.n]
theorem q0C5 (x y:Item) (H:Heap) (e:List (Nat×V)):evD EE rTail ⟨(1,.lptr 1 0)::(3,.lptr 3 0)::e,[(1,cItem x),(3,cItem y)],H,H.length,[]⟩=some (.ret,⟨[(2,vB (tailF x y))],[],H,H.length,[]⟩):=by
 simp only [rTail,ir140,sndIC]
 have he:=q0d4 x y
 have l1:=q0dx x.h H
 have l2:=q0dx x.str H
 have l3:=q0dx x.shr H
 unfold tailF
 cases e1:decide (x=y) with
 |false=>rw [e1] at he;simp [-q00p,subs,he]
 |true=>
  rw [e1] at he
  cases e2:lenOK x.h with
  |false=>rw [e2] at l1;simp [-q00p,subs,he,l1]
  |true=>
   rw [e2] at l1
   cases e3:lenOK x.str with
   |false=>rw [e3] at l2;simp [-q00p,subs,he,l1,l2]
   |true=>
    rw [e3] at l2
    cases e4:lenOK x.shr with
    |false=>rw [e4] at l3;simp [-q00p,subs,he,l1,l2,l3]
    |true=>
     rw [e4] at l3
     by_cases a1:0<=x.f
     ·by_cases a2:x.f<=3
      ·by_cases a3:0<=x.ord
       ·by_cases a4:x.ord<=3
        ·generalize hk:decide (x.k=2)=k2
         cases k2 with
         |true=>
          have k2:x.k=2:=by simpa using hk
          rw [k2] at he
          simp [-q00p,subs,he,l1,l2,l3,a1,a2,a3,a4,k2]
         |false=>
          have k2: ¬x.k=2:=by simpa using hk
          simp [-q00p,subs,he,l1,l2,l3,a1,a2,a3,a4,k2]
        ·simp [-q00p,subs,he,l1,l2,l3,a1,a2,a3,a4]
       ·simp [-q00p,subs,he,l1,l2,l3,a1,a2,a3]
      ·simp [-q00p,subs,he,l1,l2,l3,a1,a2]
     ·simp [-q00p,subs,he,l1,l2,l3,a1]
theorem q0ya (x:Item) (h1:1<=x.k) (h7:x.k<=7):q016 x=(nOk x&&tailF x (q00i x)):=by
 unfold q016 tailF upTo
 have e:decide (q00i x=x)=decide (x=q00i x):=by
  by_cases h:x=q00i x
  ·simp [<-h]
  ·have: ¬q00i x=x:=fun e=>h e.symm
   simp [h,this]
 rw [e]
 have e2:(!(decide (x.k=2)&&decide (x.h<x.shr)))=(!decide (x.k=2)||decide (x.shr<=x.h)):=by
  by_cases a:x.k=2<;>by_cases b:x.h<x.shr
  ·have: ¬x.shr<=x.h:=by omega
   simp [a,b,this]
  ·have:x.shr<=x.h:=by omega
   simp [a,b,this]
  ·simp [a]
  ·simp [a]
 rw [e2]
 simp only [h1,h7,decide_true,ZV]
 generalize nOk x=b1
 generalize decide (x=q00i x)=b2
 cases b1<;>cases b2<;>simp [Bool.and_assoc]
theorem q0uk (x:Item) (H:Heap):clD EE (.p (.fn 140)) [vItem x] H=some (vB (q016 x),none):=by
 rw [q002 _ _ _ _ _ _ (noP _) fn140]
 have key:=q0C5 x (q00i x) H
 show finK false [.tmp 2] (evD EE (.seq (fstIC ir140.body) (.seq (fstIC (sndIC ir140.body)) (.seq (fstIC (sndIC (sndIC ir140.body))) rTail))) (St.enter [vItem x] H))=_
 simp only [ir140,sndIC,fstIC]
 by_cases c:1<=x.k/\x.k<=7
 ·rw [q0ya x c.1 c.2]
  have hk:x.k=1\/x.k=2\/x.k=3\/x.k=4\/x.k=5\/x.k=6\/x.k=7:=by omega
  obtain ⟨k,h,f,str,ord,shr,n⟩:=x
  simp only at hk
  rcases hk with rfl|rfl|rfl|rfl|rfl|rfl|rfl
  ·have e:(nOk ⟨1,h,f,str,ord,shr,n⟩&&tailF ⟨1,h,f,str,ord,shr,n⟩ (q00i ⟨1,h,f,str,ord,shr,n⟩))=tailF ⟨1,h,f,str,ord,shr,n⟩ (q00i ⟨1,h,f,str,ord,shr,n⟩):=by
    by_cases z:n=0
    ·simp [nOk,upTo,z]
    ·simp [tailF,q00i,z]
   rw [e]
   generalize tailF ⟨1,h,f,str,ord,shr,n⟩ (q00i ⟨1,h,f,str,ord,shr,n⟩)=T at key⊢
   simp [q00i] at key
   simp [zEc,key]
  ·have e:(nOk ⟨2,h,f,str,ord,shr,n⟩&&tailF ⟨2,h,f,str,ord,shr,n⟩ (q00i ⟨2,h,f,str,ord,shr,n⟩))=tailF ⟨2,h,f,str,ord,shr,n⟩ (q00i ⟨2,h,f,str,ord,shr,n⟩):=by
    by_cases z:n=0
    ·simp [nOk,upTo,z]
    ·simp [tailF,q00i,z]
   rw [e]
   generalize tailF ⟨2,h,f,str,ord,shr,n⟩ (q00i ⟨2,h,f,str,ord,shr,n⟩)=T at key⊢
   simp [q00i] at key
   simp [zEc,key]
  ·generalize tailF ⟨3,h,f,str,ord,shr,n⟩ (q00i ⟨3,h,f,str,ord,shr,n⟩)=T at key⊢
   simp [q00i] at key
   by_cases z:n= -10000
   ·subst z
    simp [zEc,key,nOk]
   ·by_cases a1:n<0
    ·have a2: ¬0<=n:=by omega
     simp [zEc,nOk,upTo,z,a1,a2]
    ·have a2:0<=n:=by omega
     by_cases b1:10000<n
     ·have b2: ¬n<=10000:=by omega
      simp [zEc,nOk,upTo,z,a1,a2,b1,b2]
     ·have b2:n<=10000:=by omega
      simp [zEc,key,nOk,upTo,z,a1,a2,b1,b2]
  ·generalize tailF ⟨4,h,f,str,ord,shr,n⟩ (q00i ⟨4,h,f,str,ord,shr,n⟩)=T at key⊢
   simp [q00i] at key
   by_cases a1:n<0
   ·have a2: ¬0<=n:=by omega
    simp [zEc,nOk,upTo,a1,a2]
   ·have a2:0<=n:=by omega
    by_cases b1:1048576<n
    ·have b2: ¬n<=1048576:=by omega
     simp [zEc,nOk,upTo,a1,a2,b1,b2]
    ·have b2:n<=1048576:=by omega
     simp [zEc,key,nOk,upTo,a1,a2,b1,b2]
  ·generalize tailF ⟨5,h,f,str,ord,shr,n⟩ (q00i ⟨5,h,f,str,ord,shr,n⟩)=T at key⊢
   simp [q00i] at key
   by_cases a1:n<0
   ·have a2: ¬0<=n:=by omega
    simp [zEc,nOk,upTo,a1,a2]
   ·have a2:0<=n:=by omega
    by_cases b1:511<n
    ·have b2: ¬n<=511:=by omega
     simp [zEc,nOk,upTo,a1,a2,b1,b2]
    ·have b2:n<=511:=by omega
     simp [zEc,key,nOk,upTo,a1,a2,b1,b2]
  ·generalize tailF ⟨6,h,f,str,ord,shr,n⟩ (q00i ⟨6,h,f,str,ord,shr,n⟩)=T at key⊢
   simp [q00i] at key
   by_cases a1:n<0
   ·have a2: ¬0<=n:=by omega
    simp [zEc,nOk,upTo,a1,a2]
   ·have a2:0<=n:=by omega
    by_cases b1:255<n
    ·have b2: ¬n<=255:=by omega
     simp [zEc,nOk,upTo,a1,a2,b1,b2]
    ·have b2:n<=255:=by omega
     simp [zEc,key,nOk,upTo,a1,a2,b1,b2]
  ·have e:(nOk ⟨7,h,f,str,ord,shr,n⟩&&tailF ⟨7,h,f,str,ord,shr,n⟩ (q00i ⟨7,h,f,str,ord,shr,n⟩))=tailF ⟨7,h,f,str,ord,shr,n⟩ (q00i ⟨7,h,f,str,ord,shr,n⟩):=by
    by_cases z:n=0
    ·simp [nOk,upTo,z]
    ·simp [tailF,q00i,z]
   rw [e]
   generalize tailF ⟨7,h,f,str,ord,shr,n⟩ (q00i ⟨7,h,f,str,ord,shr,n⟩)=T at key⊢
   simp [q00i] at key
   simp [zEc,key]
 ·have e:q016 x=false:=by
   unfold q016
   by_cases a:1<=x.k
   ·have: ¬x.k<=7:=fun h=>c ⟨a,h⟩
    simp [this]
   ·simp [a]
  have n1: ¬x.k=1:=by omega
  have n2: ¬x.k=2:=by omega
  have n3: ¬x.k=3:=by omega
  have n4: ¬x.k=4:=by omega
  have n5: ¬x.k=5:=by omega
  have n6: ¬x.k=6:=by omega
  have n7: ¬x.k=7:=by omega
  rw [e]
  simp [zEc,n1,n2,n3,n4,n5,n6,n7]
def inR (lo hi:Int) (l:List Int):Bool:= !l.any fun x=>decide (x<lo)||decide (hi<x)
def wiE (x:V) (H:Heap) (p q:Nat) (n:Nat) (i:Nat):St:=⟨[(1,.ptr p 0),(2,.ptr q 0),(7,x),(8,vI n),(9,vI i)],[],H,H.length,[]⟩
def wiX (x:V) (H:Heap) (p q:Nat) (n:Nat):Ex×St:=(.exit 0,⟨[(1,.ptr p 0),(2,.ptr q 0),(7,x),(8,vI n),(9,vI n),(10,vB false)],[],H,H.length,[]⟩)
def wiB (H:Heap):Ex×St:=(.ret,⟨[(4,vB false)],[],H,H.length,[]⟩)
structure Reads (H:Heap) (x:V) (l:List Int):Prop where
 len:lenV x=some l.length
 at_: ∀(i:Nat) (v:Int),l[i]? =some v-> ∃a,ixsI H x (.p (.int .i64 (i:Int))) 1=some a/\ ∀env loc base dirty,q011 ⟨env,loc,H,base,dirty⟩ a 1=some [vI v]
theorem q05x (H:Heap) (l:List Int):Reads H (sli l) l:=⟨by simp,fun i v h=>⟨_,q00c H encI h rfl,fun _ _ _ _=>rfl⟩⟩
theorem q0ud (l:List Int) (hn:l.length<=1000000) (x:V) (H:Heap) (hx:Reads H x l) (p q:Nat) (lo hi:Int) (hp:Eng.boxAt H p=some [vI lo]) (hq:Eng.boxAt H q=some [vI hi]):
  evD EE q0Xc (wiE x H p q l.length 0)=some (if (l.any fun x=>decide (x<lo)||decide (hi<x))=true then wiB H else wiX x H p q l.length):=by
 unfold q0Xc
 refine Eq.trans (q013 l (fun (_:Unit) i=>wiE x H p q l.length i) (fun _ _=>True) (stepB (fun x=>decide (x<lo)||decide (hi<x)) (wiB H)) (fun _=>wiX x H p q l.length) (fun _ _=>rfl) ?_ ?_ () 0 trivial (Zj _)) (by rw [q043];rfl)
 ·rintro _ i v-hv
  have hlt:=(Za.1 hv).1
  have w1:IntKind.i64.wrap ((i:Int)+1)=((i+1:Nat):Int):=w64 (by omega) (by omega)
  obtain ⟨a,ha,hl⟩:=hx.at_ i v hv
  have e1:subs [vI lo] 0 1=some [vI lo]:=rfl
  have e2:subs [vI hi] 0 1=some [vI hi]:=rfl
  by_cases c1:v<lo
  ·simp [stepB,wiE,wiB,hlt,ha,hl,hp,hq,e1,e2,c1]
  ·by_cases c2:hi<v
   ·simp [stepB,wiE,wiB,hlt,ha,hl,hp,hq,e1,e2,c1,c2]
   ·simp [stepB,wiE,hlt,ha,hl,hp,hq,e1,e2,c1,c2,w1]
 ·rintro _-
  simp [wiE,wiX]
theorem q06m (l:List Int) (hn:l.length<=1000000) (x:V) (H:Heap) (hx:Reads H x l) (p q:Nat) (lo hi:Int) (hp:Eng.boxAt H p=some [vI lo]) (hq:Eng.boxAt H q=some [vI hi]):
  clD EE (.p (.fn 392)) [x,.ptr p 0,.ptr q 0] H=some (vB (inR lo hi l),none):=by
 rw [q002 _ _ _ _ _ _ (noP _) fn392]
 have key:=q0ud l hn x H hx p q lo hi hp hq
 have hl:=hx.len
 unfold inR
 cases b:l.any fun x=>decide (x<lo)||decide (hi<x) with
 |true=>
  rw [b,if_pos rfl] at key
  simp [wiE,wiB] at key
  simp [zEa,hl,key]
 |false=>
  rw [b,if_neg (by simp)] at key
  simp [wiE,wiX] at key
  simp [zEa,hl,key]
theorem q04s (l:List Int) (hn:l.length<=1000000) (x:V) (H:Heap) (hx:Reads H x l) (p q:Nat) (lo hi:Int) (hp:Eng.boxAt H p=some [vI lo]) (hq:Eng.boxAt H q=some [vI hi]):
  clD EE (.p (.fn 393)) [x,.ptr p 0,.ptr q 0] H=some (vB (inR lo hi l),none):=by
 rw [<-q06m l hn x H hx p q lo hi hp hq,q002 _ _ _ _ _ _ (noP _) fn392,q002 _ _ _ _ _ _ (noP _) fn393]
 rfl
theorem q036 (a b:Int) (H:Heap):clD EE (.p (.fn 358)) [vI a,vI b] H=some (.fn (.func 392) [] [.ptr H.length 0,.ptr (H.length+1) 0],some (H++[.box [vI a],.box [vI b]],[])):=by
 rw [q002 _ _ _ _ _ _ (noP _) fn358]
 simp [zEa]
theorem q02s (a b:Int) (H:Heap):clD EE (.p (.fn 359)) [vI a,vI b] H=some (.fn (.func 393) [] [.ptr H.length 0,.ptr (H.length+1) 0],some (H++[.box [vI a],.box [vI b]],[])):=by
 rw [q002 _ _ _ _ _ _ (noP _) fn359]
 simp [zEa]
def geomF (g:Geom):Int:=
 if inR 1 8 [g.cols]=false then 6
 else if inR 1 1073741823 [g.wide,g.high]=false then 7
 else if inR 0 1073741823 [g.gap,g.noteMost,g.topMost,g.botMost]=false then 7
 else if inR 0 536870912 [g.rule,g.sep,g.grid]=false then 7
 else if inR 1 g.high [g.first]=false then 7
 else if inR 0 g.first [g.grid]=false then 7
 else if inR 0 4 [g.topMany,g.botMany]=false then 7
 else if inR 0 1048576 [g.club,g.widow,g.split,g.defer,g.spare]=false then 7
 else 0
theorem q0il (H:Heap) (id:Nat) (l:List Int) (hb:Eng.boxAt H id=some (l.map vI)):Reads H (.bvs id 0 l.length 1) l:=by
 refine ⟨rfl,fun i v h=> ?_⟩
 have hlt:=(Za.1 h).1
 refine ⟨.ptr id i,by simp [ixsI,ixsV,hlt],fun env loc base dirty=> ?_⟩
 have h2:(l.map vI)[i]? =some (vI v):=by simp [h]
 obtain ⟨h3,h4⟩:=Za.1 h2
 have h5:i+1<=(l.map vI).length:=h3
 simp only [q0Da,hb,Ze,subs,h5,if_true]
 rw [ZA h3,h4];rfl
theorem q0m7 (id n s:Nat) (h:n≠0):slcaV s n (.ptr id 0) none=some (.bvs id 0 n s):=by simp [slcaV,h]
theorem q0bb (g:Geom) (H:Heap):clD EE (.p (.fn 307)) [vGeom g] H=some (vI (geomF g),none):=by
 rw [q002 _ _ _ _ _ _ (noP _) fn307]
 have f1:=q06m [g.cols] (by simp) (sli [g.cols]) (H++[.box [vI 1],.box [vI 8]]) (q05x _ _) H.length (H.length+1) 1 8 (by simp) (by simp)
 have f2:=q04s [g.wide,g.high] (by simp) (sli [g.wide,g.high]) (H++[.box [vI 1],.box [vI 8],.box [vI 1],.box [vI 1073741823],.box [vI 0],.box [vI 1073741823],.box [vI 0],.box [vI 536870912],.box [vI g.gap,vI g.noteMost,vI g.topMost,vI g.botMost],.box [vI g.club,vI g.widow,vI g.split,vI g.defer,vI g.spare]]) (q05x _ _) (H.length+2) (H.length+3) 1 1073741823 (by simp) (by simp)
 have f3:=q04s [g.gap,g.noteMost,g.topMost,g.botMost] (by simp) (.bvs (H.length+8) 0 4 1) (H++[.box [vI 1],.box [vI 8],.box [vI 1],.box [vI 1073741823],.box [vI 0],.box [vI 1073741823],.box [vI 0],.box [vI 536870912],.box [vI g.gap,vI g.noteMost,vI g.topMost,vI g.botMost],.box [vI g.club,vI g.widow,vI g.split,vI g.defer,vI g.spare]]) (q0il _ _ [g.gap,g.noteMost,g.topMost,g.botMost] (by simp)) (H.length+4) (H.length+5) 0 1073741823 (by simp) (by simp)
 have f4:=q04s [g.rule,g.sep,g.grid] (by simp) (sli [g.rule,g.sep,g.grid]) (H++[.box [vI 1],.box [vI 8],.box [vI 1],.box [vI 1073741823],.box [vI 0],.box [vI 1073741823],.box [vI 0],.box [vI 536870912],.box [vI g.gap,vI g.noteMost,vI g.topMost,vI g.botMost],.box [vI g.club,vI g.widow,vI g.split,vI g.defer,vI g.spare]]) (q05x _ _) (H.length+6) (H.length+7) 0 536870912 (by simp) (by simp)
 have f5:=q04s [g.first] (by simp) (sli [g.first]) (H++[.box [vI 1],.box [vI 8],.box [vI 1],.box [vI 1073741823],.box [vI 0],.box [vI 1073741823],.box [vI 0],.box [vI 536870912],.box [vI g.gap,vI g.noteMost,vI g.topMost,vI g.botMost],.box [vI g.club,vI g.widow,vI g.split,vI g.defer,vI g.spare],.box [vI 1],.box [vI g.high]]) (q05x _ _) (H.length+10) (H.length+11) 1 g.high (by simp) (by simp)
 have f6:=q04s [g.grid] (by simp) (sli [g.grid]) (H++[.box [vI 1],.box [vI 8],.box [vI 1],.box [vI 1073741823],.box [vI 0],.box [vI 1073741823],.box [vI 0],.box [vI 536870912],.box [vI g.gap,vI g.noteMost,vI g.topMost,vI g.botMost],.box [vI g.club,vI g.widow,vI g.split,vI g.defer,vI g.spare],.box [vI 1],.box [vI g.high],.box [vI 0],.box [vI g.first]]) (q05x _ _) (H.length+12) (H.length+13) 0 g.first (by simp) (by simp)
 have f7:=q06m [g.topMany,g.botMany] (by simp) (sli [g.topMany,g.botMany]) (H++[.box [vI 1],.box [vI 8],.box [vI 1],.box [vI 1073741823],.box [vI 0],.box [vI 1073741823],.box [vI 0],.box [vI 536870912],.box [vI g.gap,vI g.noteMost,vI g.topMost,vI g.botMost],.box [vI g.club,vI g.widow,vI g.split,vI g.defer,vI g.spare],.box [vI 1],.box [vI g.high],.box [vI 0],.box [vI g.first],.box [vI 0],.box [vI 4]]) (q05x _ _) (H.length+14) (H.length+15) 0 4 (by simp) (by simp)
 have f8:=q06m [g.club,g.widow,g.split,g.defer,g.spare] (by simp) (.bvs (H.length+9) 0 5 1) (H++[.box [vI 1],.box [vI 8],.box [vI 1],.box [vI 1073741823],.box [vI 0],.box [vI 1073741823],.box [vI 0],.box [vI 536870912],.box [vI g.gap,vI g.noteMost,vI g.topMost,vI g.botMost],.box [vI g.club,vI g.widow,vI g.split,vI g.defer,vI g.spare],.box [vI 1],.box [vI g.high],.box [vI 0],.box [vI g.first],.box [vI 0],.box [vI 4],.box [vI 0],.box [vI 1048576]]) (q0il _ _ [g.club,g.widow,g.split,g.defer,g.spare] (by simp)) (H.length+16) (H.length+17) 0 1048576 (by simp) (by simp)
 have s1:=fun id=>q0m7 id 4 1 (by simp)
 have s2:=fun id=>q0m7 id 5 1 (by simp)
 simp only [sli,Zo,ZL,encI] at f1 f2 f3 f4 f5 f6 f7 f8
 unfold geomF
 cases e1:inR 1 8 [g.cols] with
 |false=>rw [e1] at f1;simp [zEc,q036,q02s,f1]
 |true=>
  rw [e1] at f1
  cases e2:inR 1 1073741823 [g.wide,g.high] with
  |false=>rw [e2] at f2;simp [zEc,q036,q02s,f1,f2]
  |true=>
   rw [e2] at f2
   cases e3:inR 0 1073741823 [g.gap,g.noteMost,g.topMost,g.botMost] with
   |false=>rw [e3] at f3;simp [zEc,q036,q02s,f1,f2,f3,s1,s2]
   |true=>
    rw [e3] at f3
    cases e4:inR 0 536870912 [g.rule,g.sep,g.grid] with
    |false=>rw [e4] at f4;simp [zEc,q036,q02s,f1,f2,f3,f4,s1,s2]
    |true=>
     rw [e4] at f4
     cases e5:inR 1 g.high [g.first] with
     |false=>rw [e5] at f5;simp [zEc,q036,q02s,f1,f2,f3,f4,f5,s1,s2]
     |true=>
      rw [e5] at f5
      cases e6:inR 0 g.first [g.grid] with
      |false=>rw [e6] at f6;simp [zEc,q036,q02s,f1,f2,f3,f4,f5,f6,s1,s2]
      |true=>
       rw [e6] at f6
       cases e7:inR 0 4 [g.topMany,g.botMany] with
       |false=>rw [e7] at f7;simp [zEc,q036,q02s,f1,f2,f3,f4,f5,f6,f7,s1,s2]
       |true=>
        rw [e7] at f7
        cases e8:inR 0 1048576 [g.club,g.widow,g.split,g.defer,g.spare] with
        |false=>rw [e8] at f8;simp [zEc,q036,q02s,f1,f2,f3,f4,f5,f6,f7,f8,s1,s2]
        |true=>rw [e8] at f8;simp [zEc,q036,q02s,f1,f2,f3,f4,f5,f6,f7,f8,s1,s2]
def out_ (lo hi:Int) (x:Int):Bool:=decide (x<lo)||decide (hi<x)
def gE (g:Geom) (a t:Nat) (l:List Int) (H:Heap) (i:Nat):St:=⟨[(1,.lptr 1 0),(a,.lptr a 0),(t,vI i)],[(1,cGeom g),(a,l.map vI)],H,H.length,[]⟩
def gX (g:Geom) (a t x e:Nat) (l:List Int) (H:Heap):Ex×St:=(.exit e,⟨[(1,.lptr 1 0),(a,.lptr a 0),(t,vI l.length),(x,vB false)],[(1,cGeom g),(a,l.map vI)],H,H.length,[]⟩)
def gB (H:Heap):Ex×St:=(.ret,⟨[(2,vI 7)],[],H,H.length,[]⟩)
theorem q0dv {l:List Int} {i:Nat} {v:Int} (h:l[i]? =some v):subs (l.map vI) i 1=some [vI v]:=by
 have h2:(l.map vI)[i]? =some (vI v):=by simp [h]
 obtain ⟨h3,h4⟩:=Za.1 h2
 have h5:i+1<=(l.map vI).length:=h3
 simp only [subs,h5,if_true]
 rw [ZA h3,h4];rfl
theorem q0h2 (i s n j:Nat) (k:IntKind) (h:i<n):ixaV (.lptr j 0) (.p (.int k (i:Int))) s n=some (.lptr j (i*s)):=by simp [ixaV,q007,h]
theorem q0ue (g:Geom) (l:List Int) (hl:l.length=3) (H:Heap):evD EE q0Wp (gE g 3 4 l H 0)=some (if l.any (out_ 1 1073741823)=true then gB H else gX g 3 4 25 0 l H):=by
 unfold q0Wp
 refine Eq.trans (q013 l (fun (_:Unit) i=>gE g 3 4 l H i) (fun _ _=>True) (stepB (out_ 1 1073741823) (gB H)) (fun _=>gX g 3 4 25 0 l H) (fun _ _=>rfl) ?_ ?_ () 0 trivial (Zj _)) (by rw [q043];rfl)
 ·rintro _ i v-hv
  have hlt:=(Za.1 hv).1
  have hne: ¬l=[]:=by rintro rfl;simp at hlt
  have h3:(i:Int)<3:=by omega
  have h3':i<3:=by omega
  have w1:IntKind.i64.wrap ((i:Int)+1)=((i+1:Nat):Int):=w64 (by omega) (by omega)
  have hs:=q0dv hv
  have hi:=fun k=>q0h2 i 1 3 3 k h3'
  by_cases c1:v<1
  ·simp [stepB,out_,gE,gB,h3,hi,hs,hne,c1]
  ·by_cases c2:1073741823<v
   ·simp [stepB,out_,gE,gB,h3,hi,hs,hne,c1,c2]
   ·simp [stepB,out_,gE,h3,hi,hs,hne,c1,c2,w1]
 ·rintro _-
  simp [gE,gX,hl]
theorem q0uf (g:Geom) (l:List Int) (hl:l.length=7) (H:Heap):evD EE q0Wq (gE g 5 6 l H 0)=some (if l.any (out_ 0 1073741823)=true then gB H else gX g 5 6 54 2 l H):=by
 unfold q0Wq
 refine Eq.trans (q013 l (fun (_:Unit) i=>gE g 5 6 l H i) (fun _ _=>True) (stepB (out_ 0 1073741823) (gB H)) (fun _=>gX g 5 6 54 2 l H) (fun _ _=>rfl) ?_ ?_ () 0 trivial (Zj _)) (by rw [q043];rfl)
 ·rintro _ i v-hv
  have hlt:=(Za.1 hv).1
  have hne: ¬l=[]:=by rintro rfl;simp at hlt
  have h3:(i:Int)<7:=by omega
  have h3':i<7:=by omega
  have w1:IntKind.i64.wrap ((i:Int)+1)=((i+1:Nat):Int):=w64 (by omega) (by omega)
  have hs:=q0dv hv
  have hi:=fun k=>q0h2 i 1 7 5 k h3'
  by_cases c1:v<0
  ·simp [stepB,out_,gE,gB,h3,hi,hs,hne,c1]
  ·by_cases c2:1073741823<v
   ·simp [stepB,out_,gE,gB,h3,hi,hs,hne,c1,c2]
   ·simp [stepB,out_,gE,h3,hi,hs,hne,c1,c2,w1]
 ·rintro _-
  simp [gE,gX,hl]
def out2 (i:Nat) (v:Int):Bool:=out_ 0 1048576 v||(decide ((i:Int)<2)&&decide (4<v))
theorem q0ug (g:Geom) (l:List Int) (hl:l.length=7) (H:Heap):evD EE q0Wr (gE g 7 8 l H 0)=some (if anyI out2 0 l=true then gB H else gX g 7 8 83 4 l H):=by
 unfold q0Wr
 refine Eq.trans (q013 l (fun (_:Unit) i=>gE g 7 8 l H i) (fun _ _=>True) (stepI out2 (gB H)) (fun _=>gX g 7 8 83 4 l H) (fun _ _=>rfl) ?_ ?_ () 0 trivial (Zj _)) (by rw [q0ly];rfl)
 ·rintro _ i v-hv
  have hlt:=(Za.1 hv).1
  have hne: ¬l=[]:=by rintro rfl;simp at hlt
  have h3:(i:Int)<7:=by omega
  have h3':i<7:=by omega
  have w1:IntKind.i64.wrap ((i:Int)+1)=((i+1:Nat):Int):=w64 (by omega) (by omega)
  have hs:=q0dv hv
  have hi:=fun k=>q0h2 i 1 7 7 k h3'
  by_cases c1:v<0
  ·simp [stepI,out2,out_,gE,gB,h3,hi,hs,hne,c1]
  ·by_cases c2:1048576<v
   ·simp [stepI,out2,out_,gE,gB,h3,hi,hs,hne,c1,c2]
   ·by_cases c3:(i:Int)<2
    ·by_cases c4:4<v
     ·simp [stepI,out2,out_,gE,gB,h3,hi,hs,hne,c1,c2,c3,c4]
     ·simp [stepI,out2,out_,gE,h3,hi,hs,hne,c1,c2,c3,c4,w1]
    ·simp [stepI,out2,out_,gE,h3,hi,hs,hne,c1,c2,c3,w1]
 ·rintro _-
  simp [gE,gX,hl]
def q0m8 (g:Geom):Int:=
 if out_ 1 8 g.cols=true then 6
 else if [g.wide,g.high,g.first].any (out_ 1 1073741823)=true then 7
 else if [g.gap,g.rule,g.sep,g.noteMost,g.topMost,g.botMost,g.grid].any (out_ 0 1073741823)=true then 7
 else if anyI out2 0 [g.topMany,g.botMany,g.club,g.widow,g.split,g.defer,g.spare]=true then 7
 else if g.high<g.first\/g.first<g.grid\/536870912<g.grid\/536870912<g.rule\/536870912<g.sep then 7
 else 0
theorem q0xx (g:Geom):q0m8 g=geomF g:=by
 unfold q0m8 geomF
 have e1:(inR 1 8 [g.cols]=false)↔out_ 1 8 g.cols=true:=by simp [inR,out_];omega
 simp only [e1]
 split
 ·rfl
 ·simp only [inR,out_,out2,anyI,List.any_cons,List.any_nil,Bool.or_false,Bool.not_eq_false',Z4,Zb,decide_eq_true_eq]
  repeat' split
  all_goals first|rfl|(exfalso;omega)
theorem q0jo (g:Geom) (H:Heap):clD EE (.p (.fn 139)) [vGeom g] H=some (vI (geomF g),none):=by
 rw [q002 _ _ _ _ _ _ (noP _) fn139,<-q0xx]
 have k0:=q0ue g [g.wide,g.high,g.first] rfl H
 have k1:=q0uf g [g.gap,g.rule,g.sep,g.noteMost,g.topMost,g.botMost,g.grid] rfl H
 have k2:=q0ug g [g.topMany,g.botMany,g.club,g.widow,g.split,g.defer,g.spare] rfl H
 simp only [gE,gX,gB] at k0 k1 k2
 unfold q0m8
 by_cases c1:g.cols<1
 ·simp [zEb,out_,c1]
 ·by_cases c2:8<g.cols
  ·simp [zEb,out_,c1,c2]
  ·have e1:out_ 1 8 g.cols=false:=by simp [out_];omega
   rw [e1]
   cases b0:[g.wide,g.high,g.first].any (out_ 1 1073741823) with
   |true=>
    rw [b0,if_pos rfl] at k0
    simp at k0
    simp [zEc,c1,c2,k0]
   |false=>
    rw [b0,if_neg (by simp)] at k0
    cases b1:[g.gap,g.rule,g.sep,g.noteMost,g.topMost,g.botMost,g.grid].any (out_ 0 1073741823) with
    |true=>
     rw [b1,if_pos rfl] at k1
     simp at k0 k1
     simp [zEc,c1,c2,k0,k1]
    |false=>
     rw [b1,if_neg (by simp)] at k1
     cases b2:anyI out2 0 [g.topMany,g.botMany,g.club,g.widow,g.split,g.defer,g.spare] with
     |true=>
      rw [b2,if_pos rfl] at k2
      simp at k0 k1 k2
      simp [zEc,c1,c2,k0,k1,k2]
     |false=>
      rw [b2,if_neg (by simp)] at k2
      simp at k0 k1 k2
      by_cases d1:g.high<g.first
      ·simp [zEc,c1,c2,k0,k1,k2,d1]
      ·by_cases d2:g.first<g.grid
       ·simp [zEc,c1,c2,k0,k1,k2,d1,d2]
       ·by_cases d3:536870912<g.grid
        ·simp [zEc,c1,c2,k0,k1,k2,d1,d2,d3]
        ·by_cases d4:536870912<g.rule
         ·simp [zEc,c1,c2,k0,k1,k2,d1,d2,d3,d4]
         ·by_cases d5:536870912<g.sep
          ·simp [zEc,c1,c2,k0,k1,k2,d1,d2,d3,d4,d5]
          ·simp [zEc,c1,c2,k0,k1,k2,d1,d2,d3,d4,d5]
end Go.EnvOf
