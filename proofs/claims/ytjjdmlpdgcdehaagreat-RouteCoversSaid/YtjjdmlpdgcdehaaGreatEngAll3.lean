/- The engine: values, instructions, their evaluation, and that it holds of the program. -/
import Derived.RangeFuncLeaves
import Derived.RangeFuncRecord
import Derived.Test.YtjjdmlpdgcdehaaGreatEngAll2
namespace Go.Eng
open Go
inductive RI where
 |nil
 |at (b s cap:Nat)
structure Gh where
 I:Nat->Nat->Value->Prop
 blk:Nat->Option Nat
 rows:Nat->Nat->Option RI
 C:Code->IC->Nat->Prop
structure Gh.Le (G G':Gh):Prop where
 I: ∀b o v,G.I b o v->G'.I b o v
 blk: ∀i b,G.blk i=some b->G'.blk i=some b
 rows: ∀i t r,G.rows i t=some r->G'.rows i t=some r
 C:G'.C=G.C
def Gh.still (G:Gh):Gh:= {G with blk:=fun _=>none,rows:=fun _ _=>none}
theorem Gh.Le.refl (G:Gh):G.Le G:=⟨fun _ _ _ h=>h,fun _ _ h=>h,fun _ _ _ h=>h,rfl⟩
theorem Gh.Le.trans {A B C:Gh} (h:A.Le B) (k:B.Le C):A.Le C:=⟨fun _ _ _ x=>k.I _ _ _ (h.I _ _ _ x),fun _ _ x=>k.blk _ _ (h.blk _ _ x),fun _ _ _ x=>k.rows _ _ _ (h.rows _ _ _ x),k.C.trans h.C⟩
inductive PRep (I:Nat->Nat->Value->Prop):Value->PV->Prop where
 |int (k:IntKind) (n:Int):PRep I (.int k n) (.int k n)
 |bool (b:Bool):PRep I (.bool b) (.bool b)
 |str (s:ByteArray):PRep I (.string s) (.str s)
 |nilp:PRep I (.pointer none) .nilp
 |nilf:PRep I .nilFunc .nilf
 |nilm:PRep I (.map none) .nilm
 |fn (f:FuncId):PRep I (.func (.func f) #[] #[]) (.fn f)
 |sl0 (a:Option Addr) (cap:Nat):PRep I (.slice a 0 cap) (.sl [])
 |sl (b off cap s:Nat) (es:List (List PV)) (c:Nat->Nat->Value) (hn:0<es.length) (hc:es.length<=cap)
   (hs: ∀i (h:i<es.length),(es[i]).length=s)
   (hI: ∀i j,i<es.length->j<s->I b (off+i*s+j) (c i j))
   (hR: ∀i j (hi:i<es.length) (hj:j<(es[i]).length),PRep I (c i j) ((es[i])[j])):
   PRep I (.slice (some ⟨b,off,none⟩) es.length cap) (.sl es)
theorem PRep.mono {I I':Nat->Nat->Value->Prop} (h: ∀b o v,I b o v->I' b o v) {v:Value} {x:PV} (r:PRep I v x):PRep I' v x:=by
 induction r with
 |int k n=>exact .int k n
 |bool b=>exact .bool b
 |str s=>exact .str s
 |nilp=>exact .nilp
 |nilf=>exact .nilf
 |nilm=>exact .nilm
 |fn f=>exact .fn f
 |sl0 a c=>exact .sl0 a c
 |sl b off cap s es c hn hc hs hI _ ih=>exact .sl b off cap s es c hn hc hs (fun i j hi hj=>h _ _ _ (hI i j hi hj)) ih
inductive VRep (G:Gh):Value->V->Prop where
 |p {v:Value} {x:PV} (h:PRep G.I v x):VRep G v (.p x)
 |agg (cs:Array Value) (xs:List V) (hs:cs.size=xs.length) (h: ∀j (hj:j<xs.length),VRep G (cs.getD j undef) (xs[j])):VRep G (.agg cs) (.agg xs)
 |tup (cs:Array Value) (xs:List V) (hs:cs.size=xs.length) (h: ∀j (hj:j<xs.length),VRep G (cs.getD j undef) (xs[j])):VRep G (.tuple cs) (.tup xs)
 |nils (a:Option Addr):VRep G (.slice a 0 0) .nils
 |rown (id:Nat) (h:G.rows id 0=some .nil):VRep G (.slice none 0 0) (.row id 0 0 0)
 |row (id tot off len b s cap:Nat) (h:G.rows id tot=some (.at b s cap)) (h1:off+len<=tot) (h2:tot<=cap):VRep G (.slice (some ⟨b,off*s,none⟩) len (cap-off)) (.row id tot off len)
 |rowz (id tot off:Nat) (h:0<off) (a:Option Addr) (cap:Nat):VRep G (.slice a 0 cap) (.row id tot off 0)
 |bvs (id off len s b cap:Nat) (h:G.blk id=some b) (hc:len<=cap) (hl:0<len):VRep G (.slice (some ⟨b,off,none⟩) len cap) (.bvs id off len s)
 |vsl0 (a:Option Addr) (cap:Nat):VRep G (.slice a 0 cap) (.vsl [])
 |vsl (b off cap s:Nat) (es:List (List V)) (c:Nat->Nat->Value) (hn:0<es.length) (hc:es.length<=cap)
   (hs: ∀i (h:i<es.length),(es[i]).length=s)
   (hI: ∀i j,i<es.length->j<s->G.I b (off+i*s+j) (c i j))
   (hR: ∀i j (hi:i<es.length) (hj:j<(es[i]).length),VRep G (c i j) ((es[i])[j])):
   VRep G (.slice (some ⟨b,off,none⟩) es.length cap) (.vsl es)
 |ptr (id off b:Nat) (h:G.blk id=some b):VRep G (.pointer (some ⟨b,off,none⟩)) (.ptr id off)
 |rptr (id tot i j b s cap:Nat) (h:G.rows id tot=some (.at b s cap)):VRep G (.pointer (some ⟨b,i*s+j,none⟩)) (.rptr id tot i j)
 |eptr (b base off:Nat) (cs:List V) (c:Nat->Value) (hI: ∀j,j<cs.length->G.I b (base+j) (c j)) (hR: ∀j (hj:j<cs.length),VRep G (c j) (cs[j])):
   VRep G (.pointer (some ⟨b,base+off,none⟩)) (.eptr cs off)
 |fn (f:Fn) (fa ca:Array Value) (xs ys:List V) (h1:fa.size=xs.length) (h2:ca.size=ys.length)
   (h3: ∀j (hj:j<xs.length),VRep G (fa.getD j undef) (xs[j])) (h4: ∀j (hj:j<ys.length),VRep G (ca.getD j undef) (ys[j])):VRep G (.func f fa ca) (.fn f xs ys)
 |mtn (cap:Nat):VRep G (.slice none 0 cap) (.mt true)
 |mts (ad:Addr) (cap:Nat):VRep G (.slice (some ad) 0 cap) (.mt false)
 |undef (v:Value):VRep G v .undef
 |yld (id l:Nat) (h:G.blk id=some l):VRep G (.func (.yield l) #[] #[]) (.yld id)
 |map (id b:Nat) (h:G.blk id=some b):VRep G (.map (some b)) (.map id)
 |nil0:VRep G (.slice none 0 0) .nil0
theorem VRep.mono {G G':Gh} (h:G.Le G') {v:Value} {x:V} (r:VRep G v x):VRep G' v x:=by
 induction r with
 |p h'=>exact .p (h'.mono h.I)
 |agg cs xs hs _ ih=>exact .agg cs xs hs ih
 |tup cs xs hs _ ih=>exact .tup cs xs hs ih
 |nils a=>exact .nils a
 |rown id h'=>exact .rown id (h.rows _ _ _ h')
 |row id tot off len b s cap h' h1 h2=>exact .row id tot off len b s cap (h.rows _ _ _ h') h1 h2
 |rowz id tot off h' a cap=>exact .rowz id tot off h' a cap
 |bvs id off len s b cap h' hc hl=>exact .bvs id off len s b cap (h.blk _ _ h') hc hl
 |vsl0 a cap=>exact .vsl0 a cap
 |vsl b off cap s es c hn hc hs hI _ ih=>exact .vsl b off cap s es c hn hc hs (fun i j hi hj=>h.I _ _ _ (hI i j hi hj)) ih
 |ptr id off b h'=>exact .ptr id off b (h.blk _ _ h')
 |rptr id tot i j b s cap h'=>exact .rptr id tot i j b s cap (h.rows _ _ _ h')
 |eptr b base off cs c hI _ ih=>exact .eptr b base off cs c (fun j hj=>h.I _ _ _ (hI j hj)) ih
 |fn f fa ca xs ys h1 h2 _ _ ih3 ih4=>exact .fn f fa ca xs ys h1 h2 ih3 ih4
 |mtn c=>exact .mtn c
 |mts ad c=>exact .mts ad c
 |undef v=>exact .undef v
 |yld id l h'=>exact .yld id l (h.blk _ _ h')
 |map id b h'=>exact .map id b (h.blk _ _ h')
 |nil0=>exact .nil0
def CRep (G:Gh) (c:Nat->Value) (xs:List V):Prop:= ∀j (hj:j<xs.length),VRep G (c j) (xs[j])
theorem CRep.mono {G G':Gh} (h:G.Le G') {c:Nat->Value} {xs:List V} (r:CRep G c xs):CRep G' c xs:=fun j hj=>(r j hj).mono h
inductive Key where
 |obj (id:Nat)
 |loc (s:Nat)
abbrev Own:=Nat->Option Key
def BlockIs (w:World) (b:Nat) (c:Array Value):Prop:= ∃e,w.heap[b]? =some (.cells c e (0,0))
def jumpC:Ex->Option Code
 | .normal=>none
 | .ret=>some .ret
 | .exit id=>some (.exit id)
 | .goto l=>some (.goto l)
def LStOK (r:Loop):LSt->Prop
 | .ready=>r.state= .ready/\r.pending=none
 | .busy=>r.state= .busy
 | .done e=>r.state= .done/\r.pending=jumpC e/\e≠ .normal
def LoopOK (G:Gh) (r:Loop) (st:LSt) (env:List (Nat×V)) (ps:List Nat) (a b:IC):Prop:=
 LStOK r st/\r.params.toList=ps/\(∀p∈ps,p<r.tmps.size)/\(∀t,VRep G (r.tmps.getD t undef) (getE env t))/\G.C r.assign a r.tmps.size/\G.C r.body b r.tmps.size
def EntsOK (G:Gh) (c:Array MapEntry) (es:List (V×V)):Prop:=
 c.size=es.length/\ ∀i (hi:i<es.length) (hc:i<c.size),VRep G c[i].key (es[i]).1/\VRep G c[i].val (es[i]).2/\(es[i]).2.outB=true
def ObjOK (G:Gh) (own:Own) (w:World) (id:Nat):DObj->Prop
 | .box cs=> ∃b c,G.blk id=some b/\own b=some (.obj id)/\BlockIs w b c/\c.size=cs.length/\CRep G (fun j=>c.getD j undef) cs
 | .row s es=>(es=[]/\G.rows id 0=some .nil)\/
   ∃b cap c,G.rows id es.length=some (.at b s cap)/\own b=some (.obj id)/\BlockIs w b c/\c.size=cap*s/\es.length<=cap/\
    (∀i (hi:i<es.length),(es[i]).length=s)/\(∀i j (hi:i<es.length) (hj:j<(es[i]).length),VRep G (c.getD (i*s+j) undef) ((es[i])[j]))/\ ∀e∈es,e.all V.oneB=true
 | .loop st env ps a b=> ∃l r,G.blk id=some l/\own l=some (.obj id)/\w.heap[l]? =some (.loop r)/\LoopOK G r st env ps a b
 | .map es=> ∃b c clk,G.blk id=some b/\own b=some (.obj id)/\w.heap[b]? =some (.map c clk)/\EntsOK G c es
 | .dead=>True
def LocOK (G:Gh) (own:Own) (L:Nat->Option Nat) (w:World) (s:Nat) (cs:List V):Prop:=cs=[]\/
 ∃b c,L s=some b/\own b=some (.loc s)/\BlockIs w b c/\c.size=cs.length/\CRep G (fun j=>c.getD j undef) cs
structure WOK (G:Gh) (own:Own) (H:Heap) (L:Nat->Option Nat) (loc:List (Nat×List V)) (w:World):Prop where
 imm: ∀b o v,G.I b o v->w.cell? ⟨b,o,none⟩=some v
 dom: ∀i b,G.blk i=some b->i<H.length
 domr: ∀i t r,G.rows i t=some r->i<H.length
 top: ∀i s es,H[i]? =some (.row s es)-> ∀t r,G.rows i t=some r->t<=es.length
 obj: ∀i o,H[i]? =some o->ObjOK G own w i o
 locs: ∀s cs,getL loc s=some cs->LocOK G own L w s cs
 noI: ∀b o v,G.I b o v->own b=none
 lt: ∀b k,own b=some k->b<w.heap.size
 ilt: ∀b o v,G.I b o v->b<w.heap.size
structure Foot (G:Gh) (own:Own) (w:World) (G':Gh) (own':Own) (w':World):Prop where
 le:G.Le G'
 size:w.heap.size<=w'.heap.size
 same: ∀b,b<w.heap.size->own b=none->w'.heap[b]? =w.heap[b]?
 news: ∀b k,own' b=some k->own b=some k\/w.heap.size<=b
 imms: ∀b o v,G'.I b o v->G.I b o v\/w.heap.size<=b
 os:w'.os=w.os
 tape:w'.tape=w.tape
 output:w'.output=w.output
theorem Foot.refl (G:Gh) (own:Own) (w:World):Foot G own w G own w:=⟨.refl G,Zm _,fun _ _ _=>rfl,fun _ _ h=> .inl h,fun _ _ _ h=> .inl h,rfl,rfl,rfl⟩
theorem Foot.trans {G G' G'':Gh} {o o' o'':Own} {w w' w'':World} (h:Foot G o w G' o' w') (k:Foot G' o' w' G'' o'' w''):Foot G o w G'' o'' w'':=by
 refine ⟨h.le.trans k.le,Nat.le_trans h.size k.size,fun b hb ho=> ?_,fun b x hb=> ?_,fun b o v hi=> ?_,k.os.trans h.os,k.tape.trans h.tape,k.output.trans h.output⟩
 ·have ho':o' b=none:=by
   cases hx:o' b with
   |none=>rfl
   |some x=>rcases h.news b x hx with h1|h1
            ·rw [ho] at h1;cases h1
            ·omega
  rw [k.same b (Nat.lt_of_lt_of_le hb h.size) ho',h.same b hb ho]
 ·rcases k.news b x hb with h1|h1
  ·exact h.news b x h1
  ·exact .inr (Nat.le_trans h.size h1)
 ·rcases k.imms b o v hi with h1|h1
  ·exact h.imms b o v h1
  ·exact .inr (Nat.le_trans h.size h1)
def Kp (base:Nat) (d:List Nat) (own:Own) (w w':World):Prop:=
 ∀b,b<w.heap.size->(∀k,own b=some k-> ∃id,k= .obj id/\id<base/\id∉d)->w'.heap[b]? =w.heap[b]?
theorem Kp.of_same {base:Nat} {d:List Nat} {own:Own} {w w':World} (h: ∀b,b<w.heap.size->w'.heap[b]? =w.heap[b]?):Kp base d own w w':=fun b hb _=>h b hb
theorem Kp.refl (base:Nat) (d:List Nat) (own:Own) (w:World):Kp base d own w w:= .of_same fun _ _=>rfl
theorem q02w {base id x:Nat} {d:List Nat}:x∈addD base id d↔(x=id/\id<base)\/x∈d:=by
 unfold addD;split
 ·rename_i h;simp [h]
 ·rename_i h;simp [h]
theorem q04y {base x:Nat} {d:List Nat}: ∀ {ds:List Nat},x∈ds.foldr (addD base) d↔(x∈ds/\x<base)\/x∈d
 |[]=>by simp
 |y::r=>by
  simp only [List.foldr_cons,q02w,q04y (ds:=r),ZI]
  constructor
  ·rintro (⟨rfl,h⟩|⟨h1,h2⟩|h)
   ·exact .inl ⟨.inl rfl,h⟩
   ·exact .inl ⟨.inr h1,h2⟩
   ·exact .inr h
  ·rintro (⟨rfl|h1,h2⟩|h)
   ·exact .inl ⟨rfl,h2⟩
   ·exact .inr (.inl ⟨h1,h2⟩)
   ·exact .inr (.inr h)
theorem LoopOK.mono {G G':Gh} (hle:G.Le G') {r:Loop} {st:LSt} {env:List (Nat×V)} {ps:List Nat} {a b:IC} (h:LoopOK G r st env ps a b):LoopOK G' r st env ps a b:=by
 obtain ⟨h1,h2,h3,h4,h5,h6⟩:=h
 exact ⟨h1,h2,h3,fun t=>(h4 t).mono hle,by rw [hle.C];exact h5,by rw [hle.C];exact h6⟩
theorem EntsOK.mono {G G':Gh} (hle:G.Le G') {c:Array MapEntry} {es:List (V×V)} (h:EntsOK G c es):EntsOK G' c es:=
 ⟨h.1,fun i hi hc=>let ⟨h1,h2,h3⟩:=h.2 i hi hc;⟨h1.mono hle,h2.mono hle,h3⟩⟩
theorem ObjOK.frame {G G':Gh} {own own':Own} {w w':World} {id:Nat} {o:DObj} (h:ObjOK G own w id o) (hle:G.Le G')
  (hown: ∀b,own b=some (.obj id)->own' b=some (.obj id)) (hb: ∀b,own b=some (.obj id)->w'.heap[b]? =w.heap[b]?):ObjOK G' own' w' id o:=by
 cases o with
 |dead=>trivial
 |loop st env ps a b=>
  obtain ⟨l,r,h1,h2,h3,h4⟩:=h
  exact ⟨l,r,hle.blk _ _ h1,hown l h2,by rw [hb l h2];exact h3,h4.mono hle⟩
 |map es=>
  obtain ⟨b,c,clk,h1,h2,h3,h4⟩:=h
  exact ⟨b,c,clk,hle.blk _ _ h1,hown b h2,by rw [hb b h2];exact h3,h4.mono hle⟩
 |box cs=>
  obtain ⟨b,c,h1,h2,⟨e,h3⟩,h4,h5⟩:=h
  exact ⟨b,c,hle.blk _ _ h1,hown b h2,⟨e,by rw [hb b h2];exact h3⟩,h4,h5.mono hle⟩
 |row s es=>
  rcases h with ⟨h1,h2⟩|⟨b,cap,c,h1,h2,⟨e,h3⟩,h4,h5,h6,h7,h8⟩
  ·exact .inl ⟨h1,hle.rows _ _ _ h2⟩
  ·exact .inr ⟨b,cap,c,hle.rows _ _ _ h1,hown b h2,⟨e,by rw [hb b h2];exact h3⟩,h4,h5,h6,fun i j hi hj=>(h7 i j hi hj).mono hle,h8⟩
theorem LocOK.frame {G G':Gh} {own own':Own} {L L':Nat->Option Nat} {w w':World} {s:Nat} {cs:List V} (h:LocOK G own L w s cs) (hle:G.Le G')
  (hL:L' s=L s) (hown: ∀b,own b=some (.loc s)->own' b=some (.loc s)) (hb: ∀b,own b=some (.loc s)->w'.heap[b]? =w.heap[b]?):LocOK G' own' L' w' s cs:=by
 rcases h with h|⟨b,c,h1,h2,⟨e,h3⟩,h4,h5⟩
 ·exact .inl h
 ·exact .inr ⟨b,c,hL.trans h1,hown b h2,⟨e,by rw [hb b h2];exact h3⟩,h4,h5.mono hle⟩
theorem q030 {w w':World} {b:Nat} (h:w'.heap[b]? =w.heap[b]?) (o:Nat):w'.cell? ⟨b,o,none⟩=w.cell? ⟨b,o,none⟩:=World.cell?_of_block (a:=⟨b,o,none⟩) h
theorem BlockIs.lt {w:World} {b:Nat} {c:Array Value} (h:BlockIs w b c):b<w.heap.size:=let ⟨_,h⟩:=h;(ZN.1 h).1
section
variable {G:Gh} {own:Own} {H:Heap} {L:Nat->Option Nat} {loc:List (Nat×List V)} {w:World}
theorem WOK.frame (h:WOK G own H L loc w) {w':World} (hs:w.heap.size<=w'.heap.size) (hb: ∀b,b<w.heap.size->w'.heap[b]? =w.heap[b]?):WOK G own H L loc w' where
 imm b o v hi:=by rw [q030 (hb b (h.ilt b o v hi))];exact h.imm b o v hi
 dom:=h.dom
 domr:=h.domr
 top:=h.top
 obj i o hi:=(h.obj i o hi).frame (.refl G) (fun _ x=>x) (fun b x=>hb b (h.lt b _ x))
 locs s cs hc:=(h.locs s cs hc).frame (.refl G) rfl (fun _ x=>x) (fun b x=>hb b (h.lt b _ x))
 noI:=h.noI
 lt b k x:=Nat.lt_of_lt_of_le (h.lt b k x) hs
 ilt b o v x:=Nat.lt_of_lt_of_le (h.ilt b o v x) hs
theorem Foot.frame {w':World} (hs:w.heap.size<=w'.heap.size) (hb: ∀b,b<w.heap.size->w'.heap[b]? =w.heap[b]?) (h1:w'.os=w.os) (h2:w'.tape=w.tape) (h3:w'.output=w.output):
  Foot G own w G own w':=⟨.refl G,hs,fun b hb' _=>hb b hb',fun _ _ x=> .inl x,fun _ _ _ x=> .inl x,h1,h2,h3⟩
theorem World.size_putObj (w:World) (b:Nat) (ob:Obj):(w.putObj b ob).heap.size=w.heap.size:=by simp [World.putObj]
theorem q01c (w:World) (o:Obj) (b:Nat) (h:b<w.heap.size):(w.alloc o).heap[b]? =w.heap[b]? :=Go.RowKit.Below.heap_alloc w o b h
theorem WOK.alloc (h:WOK G own H L loc w) (o:Obj):WOK G own H L loc (w.alloc o):=h.frame (by simp) (fun b hb=>q01c w o b hb)
theorem Foot.alloc (o:Obj):Foot G own w G own (w.alloc o):= .frame (by simp) (fun b hb=>q01c w o b hb) rfl rfl rfl
theorem WOK.drew (h:WOK G own H L loc w):WOK G own H L loc w.drew:=h.frame (Zm _) (fun _ _=>rfl)
theorem Foot.drew:Foot G own w G own w.drew:= .frame (Zm _) (fun _ _=>rfl) rfl rfl rfl
def upd {α:Type} (f:Nat->Option α) (n:Nat) (v:α):Nat->Option α:=fun i=>if i=n then some v else f i
theorem q01n {α:Type} (f:Nat->Option α) (n:Nat) (v:α):upd f n v n=some v:=by simp [upd]
theorem q01t {α:Type} (f:Nat->Option α) {n i:Nat} (v:α) (h:i≠n):upd f n v i=f i:=by simp [upd,h]
def Gh.withI (G:Gh) (b:Nat) (c:Array Value):Gh:= {G with I:=fun b' o v=>G.I b' o v\/(b'=b/\c[o]? =some v)}
theorem Gh.le_withI (G:Gh) (b:Nat) (c:Array Value):G.Le (G.withI b c):=⟨fun _ _ _ h=> .inl h,fun _ _ h=>h,fun _ _ _ h=>h,rfl⟩
theorem BlockIs.cell {w:World} {b:Nat} {c:Array Value} (h:BlockIs w b c) (o:Nat):w.cell? ⟨b,o,none⟩=c[o]? :=by
 obtain ⟨e,h⟩:=h;exact cell_of_row w b o c e (0,0) h
theorem q03t (w:World) (c:Array Value) (e:TypeId):BlockIs (w.alloc (.cells c e)) w.heap.size c:=⟨e,heap_alloc_new w _⟩
theorem WOK.withI (h:WOK G own H L loc w) {b:Nat} {c:Array Value} (hb:BlockIs w b c) (ho:own b=none):WOK (G.withI b c) own H L loc w where
 imm b' o v hi:=by
  rcases hi with hi|⟨rfl,hi⟩
  ·exact h.imm b' o v hi
  ·rw [hb.cell];exact hi
 dom:=h.dom
 domr:=h.domr
 top:=h.top
 obj i o hi:=(h.obj i o hi).frame (G.le_withI b c) (fun _ x=>x) (fun _ _=>rfl)
 locs s cs hc:=(h.locs s cs hc).frame (G.le_withI b c) rfl (fun _ x=>x) (fun _ _=>rfl)
 noI b' o v hi:=by
  rcases hi with hi|⟨rfl,_⟩
  ·exact h.noI b' o v hi
  ·exact ho
 lt:=h.lt
 ilt b' o v hi:=by
  rcases hi with hi|⟨rfl,_⟩
  ·exact h.ilt b' o v hi
  ·exact hb.lt
theorem WOK.allocI (h:WOK G own H L loc w) (c:Array Value) (e:TypeId):WOK (G.withI w.heap.size c) own H L loc (w.alloc (.cells c e)):=
 (h.alloc _).withI (q03t w c e) (by
  cases hx:own w.heap.size with
  |none=>rfl
  |some k=>exact absurd (h.lt _ _ hx) (Nat.lt_irrefl _))
theorem Foot.allocI (c:Array Value) (e:TypeId):Foot G own w (G.withI w.heap.size c) own (w.alloc (.cells c e)):=
 ⟨G.le_withI _ _,by simp,fun b hb _=>q01c w _ b hb,fun _ _ x=> .inl x,fun b o v hi=>by
  rcases hi with hi|⟨rfl,_⟩
  ·exact .inl hi
  ·exact .inr (Zm _),rfl,rfl,rfl⟩
def Gh.withBox (G:Gh) (id b:Nat):Gh:= {G with blk:=upd G.blk id b}
def Gh.withRow (G:Gh) (id t:Nat) (r:RI):Gh:= {G with rows:=fun i n=>if i=id/\n=t then some r else G.rows i n}
theorem Gh.le_withBox {G:Gh} {id b:Nat} (h:G.blk id=none):G.Le (G.withBox id b):=
 ⟨fun _ _ _ h=>h,fun i x hx=>by
  have:i≠id:=fun e=>by subst e;rw [h] at hx;cases hx
  simp only [Gh.withBox];rw [q01t _ _ this];exact hx,fun _ _ _ h=>h,rfl⟩
theorem Gh.le_withRow {G:Gh} {id t:Nat} {r:RI} (h:G.rows id t=none):G.Le (G.withRow id t r):=
 ⟨fun _ _ _ h=>h,fun _ _ h=>h,fun i n x hx=>by
  simp only [Gh.withRow]
  rw [if_neg]
  ·exact hx
  ·rintro ⟨rfl,rfl⟩;rw [h] at hx;(cases hx),rfl⟩
theorem WOK.blk_new (h:WOK G own H L loc w):G.blk H.length=none:=by
 cases hx:G.blk H.length with
 |none=>rfl
 |some b=>exact absurd (h.dom _ _ hx) (Nat.lt_irrefl _)
theorem WOK.row_new (h:WOK G own H L loc w) (t:Nat):G.rows H.length t=none:=by
 cases hx:G.rows H.length t with
 |none=>rfl
 |some b=>exact absurd (h.domr _ _ _ hx) (Nat.lt_irrefl _)
theorem WOK.own_new (h:WOK G own H L loc w) (b:Nat) (hb:w.heap.size<=b):own b=none:=by
 cases hx:own b with
 |none=>rfl
 |some k=>exact absurd (h.lt _ _ hx) (by omega)
theorem q047 {α:Type} {l:List α} {x:α} {i:Nat} {y:α} (h:(l++[x])[i]? =some y):l[i]? =some y\/(i=l.length/\y=x):=by
 rcases Nat.lt_trichotomy i l.length with hi|hi|hi
 ·rw [Zw hi] at h;exact .inl h
 ·subst hi;simp at h;exact .inr ⟨rfl,h.symm⟩
 ·rw [ZF (by simp;omega)] at h;cases h
theorem q05d (h:WOK G own H L loc w) (k:Key) (b:Nat) (hb:w.heap.size<=b) (b':Nat) (k':Key) (hk:own b'=some k'):upd own b k b'=some k':=by
 have:b'≠b:=fun e=>by subst e;have:=h.lt _ _ hk;omega
 rw [q01t _ _ this];exact hk
theorem WOK.newOwnO (h:WOK G own H L loc w) (id:Nat) (H':Heap) (G':Gh) (ob:Obj) (hle:G.Le G') (hI:G'.I=G.I)
  (hdom: ∀i b,G'.blk i=some b->i<H'.length) (hdomr: ∀i t r,G'.rows i t=some r->i<H'.length)
  (htop: ∀i s es,H'[i]? =some (.row s es)-> ∀t r,G'.rows i t=some r->t<=es.length)
  (ho: ∀i o,H'[i]? =some o->H[i]? =some o\/ObjOK G' (upd own w.heap.size (.obj id)) (w.alloc ob) i o):
  WOK G' (upd own w.heap.size (.obj id)) H' L loc (w.alloc ob) where
 imm b o' v hi:=by
  rw [hI] at hi
  rw [q030 (q01c w _ b (h.ilt b o' v hi))];exact h.imm b o' v hi
 dom:=hdom
 domr:=hdomr
 top:=htop
 obj i o' hi:=by
  rcases ho i o' hi with hi|hi
  ·exact (h.obj i o' hi).frame hle (fun b hb=>q05d h _ _ (Zm _) _ _ hb) (fun b hb=>q01c w _ b (h.lt b _ hb))
  ·exact hi
 locs s cs hc:=(h.locs s cs hc).frame hle rfl (fun b hb=>q05d h _ _ (Zm _) _ _ hb) (fun b hb=>q01c w _ b (h.lt b _ hb))
 noI b o' v hi:=by
  rw [hI] at hi
  rw [q01t _ _ (Nat.ne_of_lt (h.ilt b o' v hi))];exact h.noI b o' v hi
 lt b k hb:=by
  by_cases e':b=w.heap.size
  ·subst e';simp
  ·rw [q01t _ _ e'] at hb;have:=h.lt b k hb;simp;omega
 ilt b o' v hi:=by rw [hI] at hi;have:=h.ilt b o' v hi;simp;omega
theorem WOK.newObjO (h:WOK G own H L loc w) (o:DObj) (G':Gh) (ob:Obj) (hle:G.Le G') (hI:G'.I=G.I)
  (hdom: ∀i b,G'.blk i=some b->i<H.length+1) (hdomr: ∀i t r,G'.rows i t=some r->i<H.length+1)
  (htop: ∀i t r,i<H.length->G'.rows i t=some r->G.rows i t=some r) (htop': ∀s es,o= .row s es-> ∀t r,G'.rows H.length t=some r->t<=es.length)
  (ho:ObjOK G' (upd own w.heap.size (.obj H.length)) (w.alloc ob) H.length o):
  WOK G' (upd own w.heap.size (.obj H.length)) (H++[o]) L loc (w.alloc ob):=by
 refine h.newOwnO _ _ G' ob hle hI (by simpa using hdom) (by simpa using hdomr) ?_ ?_
 ·intro i s es hi t r hr
  rcases q047 hi with hi2|⟨rfl,hi2⟩
  ·exact h.top i s es hi2 t r (htop i t r (Za.1 hi2).1 hr)
  ·exact htop' s es hi2.symm t r hr
 ·intro i o' hi
  rcases q047 hi with hi|⟨rfl,rfl⟩
  ·exact .inl hi
  ·exact .inr ho
theorem Foot.newOwnO (k:Key) (G':Gh) (ob:Obj) (hle:G.Le G') (hI:G'.I=G.I):
  Foot G own w G' (upd own w.heap.size k) (w.alloc ob):=
 ⟨hle,by simp,fun b hb _=>q01c w _ b hb,fun b k' hb=>by
  by_cases e':b=w.heap.size
  ·exact .inr (by omega)
  ·rw [q01t _ _ e'] at hb;exact .inl hb,fun b o v hi=>by rw [hI] at hi;exact .inl hi,rfl,rfl,rfl⟩
theorem WOK.newOwn (h:WOK G own H L loc w) (id:Nat) (H':Heap) (G':Gh) (c:Array Value) (e:TypeId) (hle:G.Le G') (hI:G'.I=G.I)
  (hdom: ∀i b,G'.blk i=some b->i<H'.length) (hdomr: ∀i t r,G'.rows i t=some r->i<H'.length)
  (htop: ∀i s es,H'[i]? =some (.row s es)-> ∀t r,G'.rows i t=some r->t<=es.length)
  (ho: ∀i o,H'[i]? =some o->H[i]? =some o\/ObjOK G' (upd own w.heap.size (.obj id)) (w.alloc (.cells c e)) i o):
  WOK G' (upd own w.heap.size (.obj id)) H' L loc (w.alloc (.cells c e)):=h.newOwnO id H' G' (.cells c e) hle hI hdom hdomr htop ho
theorem WOK.newObj (h:WOK G own H L loc w) (o:DObj) (G':Gh) (c:Array Value) (e:TypeId) (hle:G.Le G') (hI:G'.I=G.I)
  (hdom: ∀i b,G'.blk i=some b->i<H.length+1) (hdomr: ∀i t r,G'.rows i t=some r->i<H.length+1)
  (htop: ∀i t r,i<H.length->G'.rows i t=some r->G.rows i t=some r) (htop': ∀s es,o= .row s es-> ∀t r,G'.rows H.length t=some r->t<=es.length)
  (ho:ObjOK G' (upd own w.heap.size (.obj H.length)) (w.alloc (.cells c e)) H.length o):
  WOK G' (upd own w.heap.size (.obj H.length)) (H++[o]) L loc (w.alloc (.cells c e)):=h.newObjO o G' (.cells c e) hle hI hdom hdomr htop htop' ho
theorem Foot.newOwn (k:Key) (G':Gh) (c:Array Value) (e:TypeId) (hle:G.Le G') (hI:G'.I=G.I):
  Foot G own w G' (upd own w.heap.size k) (w.alloc (.cells c e)):=Foot.newOwnO k G' (.cells c e) hle hI
theorem WOK.newLoc (h:WOK G own H L loc w) (s:Nat) (cs:List V) (c:Array Value) (e:TypeId) (hc:c.size=cs.length) (hr:CRep G (fun j=>c.getD j undef) cs):
  WOK G (upd own w.heap.size (.loc s)) H (upd L s w.heap.size) (setL loc s cs) (w.alloc (.cells c e)) where
 imm b o' v hi:=by
  rw [q030 (q01c w _ b (h.ilt b o' v hi))];exact h.imm b o' v hi
 dom:=h.dom
 domr:=h.domr
 top:=h.top
 obj i o' hi:=(h.obj i o' hi).frame (.refl G) (fun b hb=>q05d h _ _ (Zm _) _ _ hb) (fun b hb=>q01c w _ b (h.lt b _ hb))
 locs s' cs' hs':=by
  by_cases e':s'=s
  ·subst e'
   have:getL (setL loc s' cs) s'=some cs:=by
    clear h hr hs' hc
    induction loc with
    |nil=>simp
    |cons x r ih=>obtain ⟨k,u⟩:=x;simp only [q046];split<;>simp_all
   rw [this] at hs';cases hs'
   exact .inr ⟨w.heap.size,c,q01n ..,q01n ..,q03t w c e,hc,hr⟩
  ·have:getL (setL loc s cs) s'=getL loc s':=by
    clear h hr hs' hc
    induction loc with
    |nil=>simp [Ne.symm e']
    |cons x r ih=>obtain ⟨k,u⟩:=x;simp only [q046];split<;>simp_all [Ne.symm e']
   rw [this] at hs'
   exact (h.locs s' cs' hs').frame (.refl G) (q01t _ _ e') (fun b hb=>q05d h _ _ (Zm _) _ _ hb) (fun b hb=>q01c w _ b (h.lt b _ hb))
 noI b o' v hi:=by rw [q01t _ _ (Nat.ne_of_lt (h.ilt b o' v hi))];exact h.noI b o' v hi
 lt b k hb:=by
  by_cases e':b=w.heap.size
  ·subst e';simp
  ·rw [q01t _ _ e'] at hb;have:=h.lt b k hb;simp;omega
 ilt b o' v hi:=by have:=h.ilt b o' v hi;simp;omega
theorem q05r (loc:List (Nat×List V)) (s:Nat) (cs:List V):getL (setL loc s cs) s=some cs:=by
 induction loc with
 |nil=>simp
 |cons x r ih=>obtain ⟨k,u⟩:=x;simp only [q046];split<;>simp_all
theorem q070 (loc:List (Nat×List V)) {s s':Nat} (h:s'≠s) (cs:List V):getL (setL loc s cs) s'=getL loc s':=by
 induction loc with
 |nil=>simp [Ne.symm h]
 |cons x r ih=>obtain ⟨k,u⟩:=x;simp only [q046];split<;>simp_all [Ne.symm h]
theorem q062 (w:World) (g:Nat) (cs:Array Value):(w.setRow g cs).heap.size=w.heap.size:=size_setRow w g cs
theorem q03e {w:World} {b:Nat} {c:Array Value} (h:BlockIs w b c) (c':Array Value):BlockIs (w.setRow b c') b c':=by
 obtain ⟨e,h⟩:=h;exact ⟨e,setRow_heap w b c c' e (0,0) h⟩
theorem WOK.write (h:WOK G own H L loc w) {b:Nat} {k:Key} (hk:own b=some k) (c':Array Value) (G':Gh) (hle:G.Le G') (hI:G'.I=G.I)
  (H':Heap) (loc':List (Nat×List V)) (hlen:H'.length=H.length)
  (hdom: ∀i b,G'.blk i=some b->i<H.length) (hdomr: ∀i t r,G'.rows i t=some r->i<H.length)
  (htop: ∀i s es,H'[i]? =some (.row s es)-> ∀t r,G'.rows i t=some r->t<=es.length)
  (hobj: ∀i o,H'[i]? =some o->(H[i]? =some o/\k≠ .obj i)\/ObjOK G' own (w.setRow b c') i o)
  (hloc: ∀s cs,getL loc' s=some cs->(getL loc s=some cs/\k≠ .loc s)\/LocOK G' own L (w.setRow b c') s cs):
  WOK G' own H' L loc' (w.setRow b c') where
 imm b' o v hi:=by
  rw [hI] at hi
  have hne:b'≠b:=fun e=>by subst e;have:=h.noI _ _ _ hi;rw [hk] at this;cases this
  rw [q030 (setRow_other w b b' c' hne)];exact h.imm b' o v hi
 dom i b hb:=by rw [hlen];exact hdom i b hb
 domr i t r hr:=by rw [hlen];exact hdomr i t r hr
 top:=htop
 obj i o hi:=by
  rcases hobj i o hi with ⟨h1,h2⟩|h1
  ·refine (h.obj i o h1).frame hle (fun _ x=>x) (fun b' hb'=>setRow_other w b b' c' ?_)
   rintro rfl;rw [hk] at hb';exact h2 (by injection hb')
  ·exact h1
 locs s cs hs:=by
  rcases hloc s cs hs with ⟨h1,h2⟩|h1
  ·refine (h.locs s cs h1).frame hle rfl (fun _ x=>x) (fun b' hb'=>setRow_other w b b' c' ?_)
   rintro rfl;rw [hk] at hb';exact h2 (by injection hb')
  ·exact h1
 noI b' o v hi:=by rw [hI] at hi;exact h.noI b' o v hi
 lt b' k' hb:=by rw [q062];exact h.lt b' k' hb
 ilt b' o v hi:=by rw [hI] at hi;rw [q062];exact h.ilt b' o v hi
theorem Foot.write {b:Nat} {k:Key} (hk:own b=some k) (c':Array Value) (G':Gh) (hle:G.Le G') (hI:G'.I=G.I):Foot G own w G' own (w.setRow b c'):=
 ⟨hle,by rw [q062];exact Zm _,fun b' _ ho=>setRow_other w b b' c' (fun e=>by subst e;rw [hk] at ho;cases ho),fun _ _ x=> .inl x,fun _ _ _ hi=>by rw [hI] at hi;exact .inl hi,rfl,rfl,rfl⟩
theorem WOK.putO (h:WOK G own H L loc w) {b:Nat} {id:Nat} (hk:own b=some (.obj id)) (ob:Obj) (o':DObj) (hno: ∀s es,o'≠ .row s es) (ho:ObjOK G own (w.putObj b ob) id o'):
  WOK G own (H.set id o') L loc (w.putObj b ob) where
 imm b' o v hi:=by
  have hne:b'≠b:=fun e=>by subst e;have:=h.noI _ _ _ hi;rw [hk] at this;cases this
  rw [q030 (World.putObj_heap_other hne)];exact h.imm b' o v hi
 dom i b hb:=by have:=h.dom i b hb;simpa using this
 domr i t r hr:=by have:=h.domr i t r hr;simpa using this
 top i s es hi t r hr:=by
  by_cases e:id=i
  ·subst e
   have hlt:id<H.length:=by have:=(Za.1 hi).1;simpa using this
   simp [hlt] at hi
   exact absurd hi (hno s es)
  ·rw [Zr e] at hi;exact h.top i s es hi t r hr
 obj i o hi:=by
  by_cases e:id=i
  ·subst e
   have hlt:id<H.length:=by have:=(Za.1 hi).1;simpa using this
   simp [hlt] at hi
   subst hi;exact ho
  ·rw [Zr e] at hi
   refine (h.obj i o hi).frame (.refl G) (fun _ x=>x) (fun b' hb'=>World.putObj_heap_other ?_)
   rintro rfl;rw [hk] at hb';cases hb';exact e rfl
 locs s cs hs:=(h.locs s cs hs).frame (.refl G) rfl (fun _ x=>x) (fun b' hb'=>World.putObj_heap_other (by rintro rfl;rw [hk] at hb';cases hb'))
 noI:=h.noI
 lt b' k' hb:=by rw [World.size_putObj];exact h.lt b' k' hb
 ilt b' o v hi:=by rw [World.size_putObj];exact h.ilt b' o v hi
theorem Foot.putO {b:Nat} {k:Key} (hk:own b=some k) (ob:Obj):Foot G own w G own (w.putObj b ob):=
 ⟨.refl G,by rw [World.size_putObj];exact Zm _,fun b' _ ho=>World.putObj_heap_other (fun e=>by subst e;rw [hk] at ho;cases ho),fun _ _ x=> .inl x,fun _ _ _ hi=> .inl hi,rfl,rfl,rfl⟩
theorem Kp.putO {base:Nat} {d:List Nat} {b:Nat} {k:Key} (hk:own b=some k) (hn: ∀id,k= .obj id->id<base->id∈d) (ob:Obj):Kp base d own w (w.putObj b ob):=fun b' _ ho=>by
 by_cases e:b'=b
 ·subst e
  obtain ⟨id,h1,h2,h3⟩:=ho k hk
  exact absurd (hn id h1 h2) h3
 ·exact World.putObj_heap_other e
theorem Kp.alloc {base:Nat} {d:List Nat} {w1:World} (hw:w1.heap=w.heap) (o:Obj):Kp base d own w (w1.alloc o):= .of_same fun b hb=>by
 rw [q01c w1 o b (by rw [hw];exact hb),hw]
theorem Kp.write {base:Nat} {d:List Nat} {b:Nat} {k:Key} (hk:own b=some k) (hn: ∀id,k= .obj id->id<base->id∈d) (c:Array Value):Kp base d own w (w.setRow b c):=fun b' _ ho=>by
 by_cases e:b'=b
 ·subst e
  obtain ⟨id,h1,h2,h3⟩:=ho k hk
  exact absurd (hn id h1 h2) h3
 ·exact setRow_other w b b' c e
end
def q0ea:Value->V->Bool
 | .int k n,.p (.int k' n')=>k==k'&&n==n'
 | .bool b,.p (.bool b')=>b==b'
 | .string s,.p (.str s')=>s.data.toList==s'.data.toList
 | .pointer none,.p .nilp=>true
 | .nilFunc,.p .nilf=>true
 | .map none,.p .nilm=>true
 | .slice _ 0 0,.nils=>true
 | .slice none 0 0,.nil0=>true
 |_,_=>false
def q040:List Value->List V->Bool
 |[],[]=>true
 |v::r,x::s=>q0ea v x&&q040 r s
 |_,_=>false
def q0bx:Value->V->Bool
 | .agg cs,.agg xs=>q040 cs.toList xs
 |v,x=>q0ea v x
def okArg:Operand->Arg->Bool
 | .tmp t,.t n=>t==n
 | .const v,.c x=>q0bx v x
 | .func f,.c (.p (.fn g))=>f==g
 |_,_=>false
def q01u:List Operand->List Arg->Bool
 |[],[]=>true
 |x::r,a::s=>okArg x a&&q01u r s
 |_,_=>false
def sizeB (P:Program) (t:TypeId) (n:Nat):Bool:=match P.info? t with|some i=>i.size==n|none=>false
def aggB (P:Program) (t:TypeId) (b:Bool):Bool:=
 match P.underlying t with
 |some (.struct _)|some (.array _ _)=>b
 |some _=> !b
 |none=>false
def zeroB (P:Program) (t:TypeId) (zero:List V):Bool:=
 match P.info? t with
 |some i=>match i.zero with|some z=>q040 z.cells.toList zero|none=>false
 |none=>false
def q0s5 (P:Program) (t:TypeId) (zero:List PV):Bool:=
 match P.info? t with
 |some i=>(match i.zero with|some z=>q040 z.cells.toList (zero.map fun x=>match x with| .sl []=>V.nils|x=> .p x)|none=>false)
 |none=>false
def q0eb (P:Program) (t:TypeId) (s:Nat):Bool:=match P.underlying t with|some (.slice e)=>sizeB P e s&&(s !=0)|_=>false
def q071 (P:Program) (e:TypeId):Bool:=match P.info? e with|some i=>decide (i.bytes<=32768)|none=>false
def q0Sg (P:Program) (t:TypeId):Bool:=(P.underlying t).isSome
def q04h (places:Nat->Option (Nat×Nat)):List (Nat×Operand)->List (Nat×Nat×Arg)->Bool
 |[],[]=>true
 |(i,x)::r,(o,n,a)::s=>(places i==some (o,n))&&okArg x a&&q04h places r s
 |_,_=>false
def q05s:List (Nat×Operand)->List (Nat×Arg)->Bool
 |[],[]=>true
 |(i,x)::r,(j,a)::s=>i==j&&okArg x a&&q05s r s
 |_,_=>false
def q072 (P:Program) (fs:Array Field) (i:Nat):Option (Nat×Nat):=
 match fs[i]? with
 |some f=>some (f.offset,P.cellsOf f.type)
 |none=>none
def q05e (P:Program) (rec:TypeId->Option (List Bool)):Nat->List Field->Option (List Bool)
 |_,[]=>some []
 |e,f::r=>if (f.name != "_" &&f.offset==e&&(P.info? f.type).isSome)=true then
   match rec f.type with
   |some sh=>if sh.length=P.cellsOf f.type then (q05e P rec (e+P.cellsOf f.type) r).map (sh++ ·) else none
   |none=>none
  else none
def q023 (P:Program):Nat->TypeId->Option (List Bool)
 |0,_=>none
 |d+1,t=>
  match P.underlying t with
  |some (.int _)=>if sizeB P t 1=true then some [true] else none
  |some .bool=>if sizeB P t 1=true then some [false] else none
  |some (.struct fs)=>if P.stoodInHeld t=false then q05e P (q023 P d) 0 fs.toList else none
  |some (.array n e)=>match q023 P d e with|some sh=>if sh.length=P.cellsOf e then some (List.replicate n sh).flatten else none|none=>none
  |_=>none
def flatT (P:Program) (t:TypeId) (sh:List Bool):Bool:=q023 P 50 t==some sh&&sh.length==P.cellsOf t&&aggB P t true&& !P.eqGuardType P.depth t
def keyT (P:Program) (t:TypeId):Option (List Bool)->Bool
 |none=>match P.underlying t with|some (.int _)=>true|_=>false
 |some sh=>flatT P t sh
def q0k8 (P:Program) (t:TypeId) (zero:V):Bool:=
 match P.info? t with
 |some i=>match i.zero with|some z=>q0bx z zero&&zero.notL|none=>false
 |none=>false
def okMp (P:Program) (op:Op) (m:MOp) (as:List Arg):Bool:=
 match m with
 | .mkm=>match op with| .makeMap _ r=>as.isEmpty&&(match r with|none=>true|some _=>false)|_=>false
 | .len=>match op with
   | .call c=>match c.callee,c.argTypes.toList with
     | .builtin .len,[t]=>q01u c.args.toList as&&(match P.underlying t with|some (.map _ _)=>true|_=>false)
     |_,_=>false
   |_=>false
 | .lk ag zero ok=>match op with
   | .lookup t x i ok'=>q01u [x,i] as&&ok==ok'&&(match P.underlying t with|some (.map k e)=>keyT P k ag&&q0k8 P e zero|_=>false)
   |_=>false
 | .st ag _=>match op with
   | .mapUpdate t x k v| .insert t x k v=>q01u [x,k,v] as&&(match P.underlying t with|some (.map kt _)=>keyT P kt ag|_=>false)
   |_=>false
def okIns (P:Program) (op:Op) (i:Ins):Bool:=
 match i with
 | .mov a=>match op with| .move x| .assign x=>okArg x a|_=>false
 | .nrow _=>match op with| .move (.const (.slice none 0 0))| .assign (.const (.slice none 0 0))=>true|_=>false
 | .bin b a c=>match op with
   | .binOp b' _ x y _=>b==b'&&okArg x a&&okArg y c
   |_=>false
 | .eqb ng a c=>match op with
   | .binOp b' t x y _=>(if ng then b'== .neq else b'== .eql)&&okArg x a&&okArg y c&&(match P.underlying t with|some .bool=>true|_=>false)
   |_=>false
 | .eqn k ng a=>match op with
   | .binOp b' t x (.const v) _=>(if ng then b'== .neq else b'== .eql)&&okArg x a&&
     (match k,P.underlying t,v with| .ptr,some (.pointer _),.pointer none=>true| .fn,some (.func ..),.nilFunc=>true| .sl,some (.slice _),.slice none 0 0=>true|_,_,_=>false)
   |_=>false
 | .eqa ng sh a c=>match op with
   | .binOp b' t x y _=>(if ng then b'== .neq else b'== .eql)&&okArg x a&&okArg y c&&flatT P t sh
   |_=>false
 | .eqs ng a c=>match op with
   | .binOp b' t x y _=>(if ng then b'== .neq else b'== .eql)&&okArg x a&&okArg y c&&(match P.underlying t with|some .string=>true|_=>false)
   |_=>false
 | .slca a lo s n=>match op with
   | .slice t x l h m=>okArg x a&&h.isNone&&m.isNone&&(match P.underlying t with|some (.array n' e)=>n==n'&&sizeB P e s|_=>false)&&(match l,lo with|none,none=>true|some y,some b=>okArg y b|_,_=>false)
   |_=>false
 | .clr a s zero=>match op with
   | .call c=>match c.callee,c.args.toList,c.argTypes.toList with
     | .builtin .clear,[x],[t]=>okArg x a&&(match P.underlying t with|some (.slice e)=>sizeB P e s&&(s !=0)&&zeroB P e zero&&zero.length==s&&zero.all V.oneB|_=>false)
     |_,_,_=>false
   |_=>false
 | .un b a=>match op with| .unOp b' _ x=>b==b'&&okArg x a|_=>false
 | .conv k a=>match op with
   | .convert s d x=>okArg x a&&(match P.underlying s,P.underlying d with|some (.int _),some (.int k')=>k==k'|_,_=>false)
   |_=>false
 | .len a=>match op with
   | .call c=>match c.callee,c.args.toList,c.argTypes.toList with
     | .builtin .len,[x],[t]=>okArg x a&&(match P.underlying t with|some (.slice _)=>true|_=>false)
     |_,_,_=>false
   |_=>false
 | .mnmx mx a b=>match op with
   | .call c=>match c.callee,c.args.toList with
     | .builtin .max,[x,y]=>mx&&okArg x a&&okArg y b
     | .builtin .min,[x,y]=> !mx&&okArg x a&&okArg y b
     |_,_=>false
   |_=>false
 | .pick c a b=>match op with| .pick c' a' b'=>okArg c' c&&okArg a' a&&okArg b' b|_=>false
 | .off a k=>match op with
   | .fieldAddr t x f=>okArg x a&&(match P.underlying t with|some (.struct fs)=>(match fs[f]? with|some fd=>fd.offset==k&& !sizeB P fd.type 0&&(P.info? fd.type).isSome|none=>false)|_=>false)
   |_=>false
 | .ixa a b s n=>match op with
   | .indexAddr t x y=>okArg x a&&okArg y b&&(match P.underlying t with|some (.array n' e)=>n==n'&&sizeB P e s|_=>false)
   |_=>false
 | .ixs a b s=>match op with
   | .indexAddr t x y=>okArg x a&&okArg y b&&q0eb P t s
   |_=>false
 | .ixv a b s n agg=>match op with
   | .index t x y=>okArg x a&&okArg y b&&(match P.underlying t with|some (.array n' e)=>n==n'&&sizeB P e s&&aggB P e agg&&(agg||s==1)|_=>false)
   |_=>false
 | .ixc a b=>match op with
   | .index t x y=>okArg x a&&okArg y b&&(match P.underlying t with|some .string=>true|_=>false)
   |_=>false
 | .fldv a o n agg=>match op with
   | .field t x f=>okArg x a&&(match P.underlying t with|some (.struct fs)=>(match fs[f]? with|some fd=>fd.offset==o&&sizeB P fd.type n&&aggB P fd.type agg&&(agg||n==1)|none=>false)|_=>false)
   |_=>false
 | .ld a n agg=>match op with| .load t x=>okArg x a&&sizeB P t n&&aggB P t agg&&(agg||n==1)|_=>false
 | .st a b n=>match op with| .store t x y=>okArg x a&&okArg y b&&sizeB P t n|_=>false
 | .ldl _ a n agg=>match op with| .load t x=>okArg x a&&sizeB P t n&&aggB P t agg&&(agg||n==1)|_=>false
 | .stl _ a b n=>match op with| .store t x y=>okArg x a&&okArg y b&&sizeB P t n|_=>false
 | .mkz s zero a=>match op with
   | .makeSlice t l c=>okArg l a&&okArg c a&&(match P.underlying t with|some (.slice e)=>sizeB P e s&&(s !=0)&&q071 P e&&q0s5 P e zero&&zero.length==s|_=>false)
   |_=>false
 | .al zero _=>match op with| .alloc t=>zeroB P t zero|_=>false
 | .bx a _ _=>match op with| .box _ x=>okArg x a|_=>false
 | .alp zero=>match op with| .alloc t=>zeroB P t zero|_=>false
 | .bxp a _=>match op with| .box _ x=>okArg x a|_=>false
 | .bld zero ps=>match op with
   | .build t parts=>zeroB P t zero&&(match P.underlying t with
     |some (.struct fs)=>q04h (q072 P fs) parts.toList ps&&fs.toList.all (fun f=>(P.info? f.type).isSome)
     |some (.array _ e)=>(match P.info? e with|some ie=>q04h (fun i=>some (i*ie.size,ie.size)) parts.toList ps|none=>false)
     |_=>false)
   |_=>false
 | .bsl s len zero ps=>match op with
   | .buildSlice t len' parts=>len==len'&&decide (len*s<=16777216)&&(match P.underlying t with|some (.slice e)=>sizeB P e s&&(s !=0)&&zeroB P e zero&&zero.length==s&&q05s parts.toList ps|_=>false)
   |_=>false
 | .bsr s len zero ps=>match op with
   | .buildSlice t len' parts=>len==len'&&decide (len*s<=16777216)&&(match P.underlying t with|some (.slice e)=>sizeB P e s&&(s !=0)&&zeroB P e zero&&zero.length==s&&q05s parts.toList ps|_=>false)
   |_=>false
 | .app a b s=>match op with
   | .call c=>match c.callee,c.args.toList,c.argTypes.toList with
     | .builtin .append,[x,y],[t,u]=>okArg x a&&okArg y b&&t==u&&(match P.underlying t with|some (.slice e)=>sizeB P e s&&(s !=0)&&q071 P e&&(match P.info? e with|some i=>(match i.zero with|some z=>z.cells.size==s|none=>false)|none=>false)|_=>false)
     |_,_,_=>false
   |_=>false
 | .slc a lo hi s=>match op with
   | .slice t x l h m=>okArg x a&&m.isNone&&q0eb P t s&&(match l,lo with|none,none=>true|some y,some b=>okArg y b|_,_=>false)&&(match h,hi with|none,none=>true|some y,some b=>okArg y b|_,_=>false)
   |_=>false
 | .mks s zero a=>match op with
   | .makeSlice t l c=>okArg l a&&okArg c a&&(match P.underlying t with|some (.slice e)=>sizeB P e s&&(s !=0)&&q071 P e&&zeroB P e zero&&zero.length==s&&zero.all V.oneB|_=>false)
   |_=>false
 | .ext a i=>match op with| .extract x j=>okArg x a&&i==j|_=>false
 | .call f as _=>match op with
   | .call c=>match c.callee with| .value (.func g)=>f==g&&q01u c.args.toList as|_=>false
   |_=>false
 | .callv a as _=>match op with
   | .call c=>match c.callee with| .value x=>okArg x a&&q01u c.args.toList as|_=>false
   |_=>false
 | .mkf f as bs=>match op with| .makeFunc g xs ys=>decide (f=g)&&q01u xs.toList as&&q01u ys.toList bs|_=>false
 | .nck a=>match op with| .nilCheck x=>okArg x a|_=>false
 | .mp m as=>okMp P op m as
 | .ldh a n agg=>match op with| .load t x=>okArg x a&&sizeB P t n&&aggB P t agg&&(agg||n==1)|_=>false
 | .callz f as=>match op with
   | .call c=>match c.callee with| .value (.func g)=>f==g&&q01u c.args.toList as|_=>false
   |_=>false
 | .mkh _ s zero a=>match op with
   | .makeSlice t l c=>okArg l a&&okArg c a&&(match P.underlying t with|some (.slice e)=>sizeB P e s&&(s !=0)&&q071 P e&&zeroB P e zero&&zero.length==s&&zero.all V.oneB|_=>false)
   |_=>false
 | .apo a b s _ _=>match op with
   | .call c=>match c.callee,c.args.toList,c.argTypes.toList with
     | .builtin .append,[x,y],[t,u]=>okArg x a&&okArg y b&&t==u&&(match P.underlying t with|some (.slice e)=>sizeB P e s&&(s !=0)&&q071 P e&&(match P.info? e with|some i=>(match i.zero with|some z=>z.cells.size==s|none=>false)|none=>false)|_=>false)
     |_,_,_=>false
   |_=>false
def SRep (G:Gh) (L:Nat->Option Nat) (v:Value):V->Prop
 | .lptr s off=> ∃b,L s=some b/\v= .pointer (some ⟨b,off,none⟩)
 |x=>VRep G v x
theorem SRep.of {G:Gh} {L:Nat->Option Nat} {v:Value} {x:V} (h:VRep G v x):SRep G L v x:=by
 cases x<;>first|exact h|(cases h)
theorem SRep.vrep {G:Gh} {L:Nat->Option Nat} {v:Value} {x:V} (h:SRep G L v x) (hx: ∀s o,x≠ .lptr s o):VRep G v x:=by
 cases x<;>first|exact h|exact absurd rfl (hx _ _)
theorem q0ec {G:Gh} {v:Value} {x:V} (h:q0ea v x=true):VRep G v x:=by
 unfold q0ea at h
 split at h
 ·simp at h;obtain ⟨rfl,rfl⟩:=h;exact .p (.int _ _)
 ·simp at h;subst h;exact .p (.bool _)
 ·rename_i s s'
  have h1:s.data=s'.data:=by simpa using h
  have h2:s=s':=by cases s;cases s';simpa using h1
  subst h2;exact .p (.str _)
 ·exact .p .nilp
 ·exact .p .nilf
 ·exact .p .nilm
 ·exact .nils _
 ·exact .nil0
 ·cases h
theorem q07w {G:Gh}: ∀ {vs:List Value} {xs:List V},q040 vs xs=true->vs.length=xs.length/\ ∀j (hj:j<xs.length),VRep G (vs.getD j undef) (xs[j])
 |[],[],_=>⟨rfl,fun j hj=>absurd hj (Zz _)⟩
 |v::r,x::s,h=>by
  simp only [q040,Zb] at h
  obtain ⟨h1,h2⟩:=q07w (G:=G) h.2
  refine ⟨by simp [h1],fun j hj=> ?_⟩
  cases j with
  |zero=>exact q0ec h.1
  |succ j=>exact h2 j (by simpa using hj)
 |[],_::_,h=>by simp [q040] at h
 |_::_,[],h=>by simp [q040] at h
theorem q02u {G:Gh} {cs:Array Value} {xs:List V} (h:q040 cs.toList xs=true):cs.size=xs.length/\ ∀j (hj:j<xs.length),VRep G (cs.getD j undef) (xs[j]):=by
 obtain ⟨h1,h2⟩:=q07w (G:=G) h
 refine ⟨by simpa using h1,fun j hj=> ?_⟩
 have:=h2 j hj
 simpa [ZB,Zc] using this
theorem q0cn {G:Gh} {v:Value} {x:V} (h:q0bx v x=true):VRep G v x:=by
 unfold q0bx at h
 split at h
 ·obtain ⟨h1,h2⟩:=q02u (G:=G) h;exact .agg _ _ h1 h2
 ·exact q0ec h
structure Sim (N:Nat) (G:Gh) (own:Own) (L:Nat->Option Nat) (S:St) (a:Act) (w:World):Prop where
 size:a.tmps.size=N
 slot: ∀t,SRep G L (a.tmps.getD t undef) (getE S.env t)
 wok:WOK G own S.hp L S.loc w
theorem q008 {N:Nat} {G:Gh} {own:Own} {L:Nat->Option Nat} {S:St} {a:Act} {w:World} (h:Sim N G own L S a w) {x:Operand} {b:Arg} (hx:okArg x b=true):
  SRep G L (a.eval x) (S.arg b):=by
 unfold okArg at hx
 split at hx
 ·simp at hx;subst hx;exact h.slot _
 ·exact .of (q0cn hx)
 ·simp at hx;subst hx;exact .of (.p (.fn _))
 ·cases hx
theorem q0ed {N:Nat} {G:Gh} {own:Own} {L:Nat->Option Nat} {S:St} {a:Act} {w:World} (h:Sim N G own L S a w): ∀ {xs:List Operand} {bs:List Arg},q01u xs bs=true->
  xs.length=bs.length/\ ∀j (h1:j<xs.length) (h2:j<bs.length),SRep G L (a.eval (xs[j])) (S.arg (bs[j]))
 |[],[],_=>⟨rfl,fun j h1=>absurd h1 (Zz _)⟩
 |x::r,b::s,hx=>by
  simp only [q01u,Zb] at hx
  obtain ⟨h1,h2⟩:=q0ed h hx.2
  refine ⟨by simp [h1],fun j hj hj'=> ?_⟩
  cases j with
  |zero=>exact q008 h hx.1
  |succ j=>exact h2 j (by simpa using hj) (by simpa using hj')
 |[],_::_,h=>by simp [q01u] at h
 |_::_,[],h=>by simp [q01u] at h
theorem Sim.put {N:Nat} {G:Gh} {own:Own} {L:Nat->Option Nat} {S:St} {a:Act} {w:World} (h:Sim N G own L S a w) {d:Option Nat} (hd: ∀t,d=some t->t<N) {v:Value} {x:V} (hv:SRep G L v x):
  Sim N G own L (S.put d x) (a.put d v) w:=by
 cases d with
 |none=>exact h
 |some t=>
  refine ⟨by simp [Act.put,h.size],fun t'=> ?_,h.wok⟩
  have ht:=hd t rfl
  simp only [St.put,q02c,Act.put]
  by_cases e:t=t'
  ·subst e
   have:t<a.tmps.size:=by rw [h.size];exact ht
   simp [Zc,this];exact hv
  ·have e':(t==t')=false:=by simpa using e
   simp only [e',Zh,if_false]
   have:=h.slot t'
   simpa [Zc,Array.getElem?_setIfInBounds,e] using this
def Res (N:Nat) (G:Gh) (own:Own) (w:World) (D:List Deferred) (S':St) (a':Act) (w':World):Prop:=
 ∃G' own' L',Sim N G' own' L' S' a' w'/\Foot G own w G' own' w'/\a'.defers=D/\Kp S'.base S'.dirty own w w'
section
variable {F:Fence} {n:Nat} {P:Program} {o:Oper} {a:Act} {w:World} {Q:Exit->Act->World->Prop}
theorem q018 (hF: ∀f,F.fn f) (hnd: ∀c,o.op≠ .defer c) {r:Result Next} (hr:(execOp a.eval o).run P w=r) {next:Act->World->Prop}
  (h:o.uponIn F n P a next Q r):o.wpIn F n P a w next Q:=by
 refine ⟨fun f _=>hF f,?_⟩
 rw [Oper.semAt_eq F.round a.eval o hnd,hr]
 exact h
theorem q00x (a:Act) (d:Option Tmp) (v:Value):(a.put d v).defers=a.defers:=by cases d<;>rfl
end
theorem q00y {S S':St} {d:Option Nat} {r:Option V} (h:retS S d r=some S'): ∃x,r=some x/\S'=S.put d x:=by
 cases r with
 |none=>cases h
 |some x=>exact ⟨x,rfl,by simpa using h.symm⟩
section
variable {F:Fence} {n:Nat} {P:Program} {o:Oper} {a:Act} {w:World} {Q:Exit->Act->World->Prop}
variable {N:Nat} {G:Gh} {own:Own} {L:Nat->Option Nat} {S S':St} {next:Act->World->Prop}
theorem q00f (hF: ∀f,F.fn f) (h:Sim N G own L S a w) (hd: ∀t,o.dst=some t->t<N) (hnd: ∀c,o.op≠ .defer c) {v:Value} {x:V}
  (hr:(execOp a.eval o).run P w= .ok (.value v) w) (hv:SRep G L v x) (hS:S'=S.put o.dst x)
  (hn: ∀a' w',Res N G own w a.defers S' a' w'->next a' w'):o.wpIn F n P a w next Q:=by
 refine q018 hF hnd hr ?_
 subst hS
 exact hn _ _ ⟨G,own,L,h.put hd hv,.refl ..,q00x ..,Kp.refl _ _ _ _⟩
theorem q00t {v:Value} {k:IntKind} {m:Int} (h:SRep G L v (.p (.int k m))):v= .int k m:=by cases h with|p h=>cases h;rfl
theorem q038 {v:Value} {b:Bool} (h:SRep G L v (.p (.bool b))):v= .bool b:=by cases h with|p h=>cases h;rfl
theorem q0s6 {op:BinOp} {k k':IntKind} {m m':Int} {r:PV} (t:TypeId) (hk:op= .shl\/op= .shr\/k=k') (h:intOp op k m m'=some r):
  ∃v,(binOp op t (.int k m) (.int k' m')).run P w= .ok v w/\PRep G.I v r:=by
 cases op<;>simp only [intOp] at h<;>
  first
  |(rcases hk with hk|hk|rfl<;>first|cases hk|skip
    all_goals (cases h;refine ⟨_,?_,by first|exact .int _ _|exact .bool _⟩;simp [binOp,Op.intArith,Op.intBits,Op.intCmp];try rfl))
  |(rcases hk with hk|hk|rfl<;>first|cases hk|skip
    all_goals
     (split at h
      ·cases h
      ·rename_i hz;cases h;refine ⟨_,?_,.int _ _⟩;simp [binOp,Op.intDiv,hz]))
  |(split at h
    ·cases h
    ·rename_i hz;cases h;refine ⟨_,?_,.int _ _⟩;simp [binOp,Op.shift,hz])
theorem q0nk (op:BinOp) (t:TypeId) (x y:Operand) (k k':IntKind) (m m':Int):(eqGuard op t x y (.int k m) (.int k' m')).run P w= .ok () w:=by
 unfold eqGuard;split<;>simp
theorem q0zn (hF: ∀f,F.fn f) (h:Sim N G own L S a w) (hd: ∀t,o.dst=some t->t<N) {op:BinOp} {x y:Arg} (hok:okIns P o.op (.bin op x y)=true)
  {cl:ClT} (hev:evIns cl o.dst (.bin op x y) S=some S') (hn: ∀a' w',Res N G own w a.defers S' a' w'->next a' w'):o.wpIn F n P a w next Q:=by
 obtain ⟨r,hr,hS⟩:=q00y hev
 simp only [okIns] at hok
 split at hok
 ·rename_i b' t u v ty hop
  simp only [Zb,beq_iff_eq] at hok
  obtain ⟨⟨rfl,h1⟩,h2⟩:=hok
  have r1:=q008 h h1
  have r2:=q008 h h2
  unfold binV at hr
  split at hr
  ·rename_i k m k' m' hx hy
   rw [hx] at r1;rw [hy] at r2
   have e1:=q00t r1
   have e2:=q00t r2
   split at hr
   ·rename_i hk
    cases hi:intOp op k m m' with
    |none=>rw [hi] at hr;cases hr
    |some p=>
     rw [hi] at hr;cases hr
     obtain ⟨z,hz,hp⟩:=q0s6 (P:=P) (w:=w) (G:=G) t hk hi
     refine q00f hF h hd (by rw [hop];intro c hc;cases hc) (v:=z) ?_ (.of (.p hp)) hS hn
     simp only [execOp,hop,e1,e2,Sem.run_bind,q0nk,Result.andThen_ok,hz,Sem.run_pure]
   ·cases hr
  ·cases hr
 ·cases hok
theorem q0zo (hF: ∀f,F.fn f) (h:Sim N G own L S a w) (hd: ∀t,o.dst=some t->t<N) {x:Arg} (hok:okIns P o.op (.mov x)=true)
  {cl:ClT} (hev:evIns cl o.dst (.mov x) S=some S') (hn: ∀a' w',Res N G own w a.defers S' a' w'->next a' w'):o.wpIn F n P a w next Q:=by
 simp only [evIns,Option.some.injEq] at hev
 simp only [okIns] at hok
 split at hok
 ·rename_i y hop
  exact q00f hF h hd (by rw [hop];intro c hc;cases hc) (v:=a.eval y) (by simp [execOp,hop]) (q008 h hok) hev.symm hn
 ·rename_i y hop
  exact q00f hF h hd (by rw [hop];intro c hc;cases hc) (v:=a.eval y) (by simp [execOp,hop]) (q008 h hok) hev.symm hn
 ·cases hok
theorem q0w0 (hF: ∀f,F.fn f) (h:Sim N G own L S a w) (hd: ∀t,o.dst=some t->t<N) {c x y:Arg} (hok:okIns P o.op (.pick c x y)=true)
  {cl:ClT} (hev:evIns cl o.dst (.pick c x y) S=some S') (hn: ∀a' w',Res N G own w a.defers S' a' w'->next a' w'):o.wpIn F n P a w next Q:=by
 obtain ⟨r,hr,hS⟩:=q00y hev
 simp only [okIns] at hok
 split at hok
 ·rename_i u v z hop
  simp only [Zb] at hok
  obtain ⟨⟨h0,h1⟩,h2⟩:=hok
  have r0:=q008 h h0
  have r1:=q008 h h1
  have r2:=q008 h h2
  unfold pickV at hr
  split at hr
  ·rename_i b hc
   rw [hc] at r0
   have e0:=q038 r0
   simp only [Option.some.injEq] at hr
   refine q00f hF h hd (by rw [hop];intro c hc;cases hc) (v:=if b=true then a.eval v else a.eval z) ?_ (x:=r) ?_ hS hn
   ·simp [execOp,hop,e0,asBool]
   ·rw [<-hr];cases b<;>simp<;>assumption
  ·cases hr
 ·cases hok
theorem q0Dd (hF: ∀f,F.fn f) (h:Sim N G own L S a w) (hd: ∀t,o.dst=some t->t<N) {op:UnOp} {x:Arg} (hok:okIns P o.op (.un op x)=true)
  {cl:ClT} (hev:evIns cl o.dst (.un op x) S=some S') (hn: ∀a' w',Res N G own w a.defers S' a' w'->next a' w'):o.wpIn F n P a w next Q:=by
 obtain ⟨r,hr,hS⟩:=q00y hev
 simp only [okIns] at hok
 split at hok
 ·rename_i b' t u hop
  simp only [Zb,beq_iff_eq] at hok
  obtain ⟨rfl,h1⟩:=hok
  have r1:=q008 h h1
  unfold unV at hr
  split at hr
  ·rename_i b hx
   rw [hx] at r1;have e1:=q038 r1
   cases hr
   exact q00f hF h hd (by rw [hop];intro c hc;cases hc) (v:= .bool !b) (by simp [execOp,hop,e1,Op.unary]) (.of (.p (.bool _))) hS hn
  ·rename_i k m hx
   rw [hx] at r1;have e1:=q00t r1
   cases hr
   exact q00f hF h hd (by rw [hop];intro c hc;cases hc) (v:= .int k (k.wrap (0-m))) (by simp [execOp,hop,e1,Op.unary,Op.intArith]) (.of (.p (.int _ _))) hS hn
  ·rename_i k m hx
   rw [hx] at r1;have e1:=q00t r1
   cases hr
   exact q00f hF h hd (by rw [hop];intro c hc;cases hc) (v:= .int k (k.wrap (BitVec.ofInt k.bits (if k.signed then-1 else k.max)^^^BitVec.ofInt k.bits m).toNat)) (by simp [execOp,hop,e1,Op.unary,Op.intBits]) (.of (.p (.int _ _))) hS hn
  ·cases hr
 ·cases hok
theorem q0w1 (hF: ∀f,F.fn f) (h:Sim N G own L S a w) (hd: ∀t,o.dst=some t->t<N) {k:IntKind} {x:Arg} (hok:okIns P o.op (.conv k x)=true)
  {cl:ClT} (hev:evIns cl o.dst (.conv k x) S=some S') (hn: ∀a' w',Res N G own w a.defers S' a' w'->next a' w'):o.wpIn F n P a w next Q:=by
 obtain ⟨r,hr,hS⟩:=q00y hev
 simp only [okIns] at hok
 split at hok
 ·rename_i s d u hop
  simp only [Zb] at hok
  obtain ⟨h1,h2⟩:=hok
  have r1:=q008 h h1
  unfold convV at hr
  split at hr
  ·rename_i k0 m hx
   rw [hx] at r1;have e1:=q00t r1
   cases hr
   split at h2
   ·rename_i ks kd hs hdd
    simp only [beq_iff_eq] at h2
    subst h2
    exact q00f hF h hd (by rw [hop];intro c hc;cases hc) (v:= .int k (k.wrap m)) (by simp [execOp,hop,e1,convert,run_underlying hs,run_underlying hdd,Conv.intToInt]) (.of (.p (.int _ _))) hS hn
   ·cases h2
  ·cases hr
 ·cases hok
theorem q0w2 (hF: ∀f,F.fn f) (h:Sim N G own L S a w) (hd: ∀t,o.dst=some t->t<N) {mx:Bool} {x y:Arg} (hok:okIns P o.op (.mnmx mx x y)=true)
  {cl:ClT} (hev:evIns cl o.dst (.mnmx mx x y) S=some S') (hn: ∀a' w',Res N G own w a.defers S' a' w'->next a' w'):o.wpIn F n P a w next Q:=by
 obtain ⟨r,hr,hS⟩:=q00y hev
 simp only [okIns] at hok
 split at hok
 ·rename_i c hop
  unfold mnmxV at hr
  split at hok
  ·rename_i u v hcal hargs
   simp only [Zb] at hok
   obtain ⟨⟨rfl,h1⟩,h2⟩:=hok
   have ha:c.args= #[u,v]:=by apply Array.ext';simpa using hargs
   have r1:=q008 h h1
   have r2:=q008 h h2
   split at hr
   ·rename_i k m k' m' hx hy
    rw [hx] at r1;rw [hy] at r2
    have e1:=q00t r1;have e2:=q00t r2
    split at hr
    ·rename_i hk;subst hk;cases hr
     refine q00f hF h hd (by rw [hop];intro c hc;cases hc) (v:= .int k (max m m')) ?_ (.of (.p (.int _ _))) hS hn
     simp [execOp,hop,resolve,hcal,ha,e1,e2,invoke,builtin,Builtin.max_,Builtin.max2]
     split<;>omega
    ·cases hr
   ·cases hr
  ·rename_i u v hcal hargs
   simp only [Zb,Bool.not_eq_true'] at hok
   obtain ⟨⟨rfl,h1⟩,h2⟩:=hok
   have ha:c.args= #[u,v]:=by apply Array.ext';simpa using hargs
   have r1:=q008 h h1
   have r2:=q008 h h2
   split at hr
   ·rename_i k m k' m' hx hy
    rw [hx] at r1;rw [hy] at r2
    have e1:=q00t r1;have e2:=q00t r2
    split at hr
    ·rename_i hk;subst hk;cases hr
     refine q00f hF h hd (by rw [hop];intro c hc;cases hc) (v:= .int k (min m m')) ?_ (.of (.p (.int _ _))) hS hn
     simp [execOp,hop,resolve,hcal,ha,e1,e2,invoke,builtin,Builtin.min_,Builtin.min2]
     split<;>omega
    ·cases hr
   ·cases hr
  ·cases hok
 ·cases hok
end
theorem q017 {P:Program} {t:TypeId} {n:Nat} (h:sizeB P t n=true): ∃i,P.info? t=some i/\i.size=n:=by
 unfold sizeB at h
 split at h
 ·rename_i i hi;exact ⟨i,hi,by simpa using h⟩
 ·cases h
theorem q0co {P:Program} {t:TypeId} {s:Nat} (h:q0eb P t s=true): ∃e i,P.underlying t=some (.slice e)/\P.info? e=some i/\i.size=s/\s≠0:=by
 unfold q0eb at h
 split at h
 ·rename_i e he
  simp only [Zb,bne_iff_ne] at h
  obtain ⟨i,hi,hs⟩:=q017 h.1
  exact ⟨e,i,he,hi,hs,h.2⟩
 ·cases h
theorem q01m {P:Program} {w:World} {t:TypeId} {i:TypeInfo} (h:P.info? t=some i):(sizeOf t).run P w= .ok i.size w:=by simp [sizeOf,typeInfo,h]
section
variable {F:Fence} {n:Nat} {P:Program} {o:Oper} {a:Act} {w:World} {Q:Exit->Act->World->Prop}
variable {N:Nat} {G:Gh} {own:Own} {L:Nat->Option Nat} {S S':St} {next:Act->World->Prop}
theorem q0hg {v:Value} {x r:V} {k:Nat} (h:SRep G L v x) (hr:q007 x k=some r):
  ∃b off,v= .pointer (some ⟨b,off,none⟩)/\SRep G L (.pointer (some ⟨b,off+k,none⟩)) r:=by
 unfold q007 at hr
 split at hr
 ·cases hr;obtain ⟨b,h1,h2⟩:=h;exact ⟨b,_,h2,b,h1,rfl⟩
 ·cases hr;cases h with|ptr id off b h1=>exact ⟨b,_,rfl,.ptr _ _ _ h1⟩
 ·cases hr
  cases h with
  |rptr id tot i j b s cap h1=>exact ⟨b,_,rfl,by rw [Z3];exact VRep.rptr _ _ _ _ _ _ _ h1⟩
 ·cases hr
  cases h with
  |eptr b base off cs c hI hR=>exact ⟨b,_,rfl,by rw [Z3];exact VRep.eptr _ _ _ _ c hI hR⟩
 ·cases hr
theorem q0zp (hF: ∀f,F.fn f) (h:Sim N G own L S a w) (hd: ∀t,o.dst=some t->t<N) {x:Arg} {k:Nat} (hok:okIns P o.op (.off x k)=true)
  {cl:ClT} (hev:evIns cl o.dst (.off x k) S=some S') (hn: ∀a' w',Res N G own w a.defers S' a' w'->next a' w'):o.wpIn F n P a w next Q:=by
 obtain ⟨r,hr,hS⟩:=q00y hev
 simp only [okIns] at hok
 split at hok
 ·rename_i t u f hop
  simp only [Zb] at hok
  obtain ⟨h1,h2⟩:=hok
  split at h2
  ·rename_i fs hfs
   split at h2
   ·rename_i fd hfd
    simp only [Zb,beq_iff_eq,Bool.not_eq_true'] at h2
    obtain ⟨⟨h3,h4⟩,h5⟩:=h2
    obtain ⟨b,off,hv,hrep⟩:=q0hg (q008 h h1) hr
    cases hi:P.info? fd.type with
    |none=>rw [hi] at h5;cases h5
    |some i=>
     have hz:i.size≠0:=by simpa [sizeB,hi] using h4
     refine q00f hF h hd (by rw [hop];intro c hc;cases hc) (v:= .pointer (some ⟨b,off+k,none⟩)) ?_ hrep hS hn
     simp [execOp,hop,hv,Instr.fieldAt,run_underlying hfs,hfd,Instr.sureAddr,fieldPlace,q01m hi,hz,Addr.add_lit,h3]
   ·cases h2
  ·cases h2
 ·cases hok
theorem q0zq (hF: ∀f,F.fn f) (h:Sim N G own L S a w) (hd: ∀t,o.dst=some t->t<N) {x y:Arg} {s m:Nat} (hok:okIns P o.op (.ixa x y s m)=true)
  {cl:ClT} (hev:evIns cl o.dst (.ixa x y s m) S=some S') (hn: ∀a' w',Res N G own w a.defers S' a' w'->next a' w'):o.wpIn F n P a w next Q:=by
 obtain ⟨r,hr,hS⟩:=q00y hev
 simp only [okIns] at hok
 split at hok
 ·rename_i t u u' hop
  simp only [Zb] at hok
  obtain ⟨⟨h1,h2⟩,h3⟩:=hok
  split at h3
  ·rename_i m' e hu
   simp only [Zb,beq_iff_eq] at h3
   obtain ⟨rfl,h4⟩:=h3
   obtain ⟨i,hi,hsz⟩:=q017 h4
   unfold ixaV at hr
   split at hr
   ·rename_i k z hy
    have r2:=q008 h h2
    rw [hy] at r2;have e2:=q00t r2
    split at hr
    ·rename_i hb
     obtain ⟨b,off,hv,hrep⟩:=q0hg (q008 h h1) hr
     refine q00f hF h hd (by rw [hop];intro c hc;cases hc) (v:= .pointer (some ⟨b,off+z.toNat*s,none⟩)) ?_ hrep hS hn
     simp [execOp,hop,hv,e2,Instr.indexAt,asIntOf,run_underlying hu,Instr.sureAddr,q01m hi,hb.1,hb.2,Addr.add_lit,hsz]
    ·cases hr
   ·cases hr
  ·cases h3
 ·cases hok
theorem q01r {H:Heap} {id s:Nat} {es:List (List V)} (h:rowAt H id=some (s,es)):H[id]? =some (.row s es):=by
 unfold rowAt at h
 split at h
 ·rename_i hh;cases h;exact hh
 ·cases h
theorem q05f {H:Heap} {id:Nat} {cs:List V} (h:boxAt H id=some cs):H[id]? =some (.box cs):=by
 unfold boxAt at h
 split at h
 ·rename_i hh;cases h;exact hh
 ·cases h
theorem q04v {H:Heap} {loc:List (Nat×List V)} (hw:WOK G own H L loc w) {id s:Nat} {es:List (List V)} (hr:rowAt H id=some (s,es)) {b s' cap:Nat} (hg:G.rows id es.length=some (.at b s' cap)):
  s'=s/\ ∃c,own b=some (.obj id)/\BlockIs w b c/\c.size=cap*s/\es.length<=cap/\
   (∀i (hi:i<es.length),(es[i]).length=s)/\(∀i j (hi:i<es.length) (hj:j<(es[i]).length),VRep G (c.getD (i*s+j) undef) ((es[i])[j]))/\ ∀e∈es,e.all V.oneB=true:=by
 rcases hw.obj id _ (q01r hr) with ⟨h1,h2⟩|⟨b',cap',c,h1,h2,h3,h4,h5,h6,h7,h8⟩
 ·subst h1;simp only [Zq] at hg;rw [h2] at hg;cases hg
 ·rw [h1] at hg;cases hg
  exact ⟨rfl,c,h2,h3,h4,h5,h6,h7,h8⟩
theorem q0zr (hF: ∀f,F.fn f) (h:Sim N G own L S a w) (hd: ∀t,o.dst=some t->t<N) {x y:Arg} {s:Nat} (hok:okIns P o.op (.ixs x y s)=true)
  {cl:ClT} (hev:evIns cl o.dst (.ixs x y s) S=some S') (hn: ∀a' w',Res N G own w a.defers S' a' w'->next a' w'):o.wpIn F n P a w next Q:=by
 obtain ⟨r,hr,hS⟩:=q00y hev
 simp only [okIns] at hok
 split at hok
 ·rename_i t u u' hop
  simp only [Zb] at hok
  obtain ⟨⟨h1,h2⟩,h3⟩:=hok
  obtain ⟨e,ie,hu,hie,hsz,hs0⟩:=q0co h3
  have r1:=q008 h h1
  have r2:=q008 h h2
  unfold ixsI at hr
  split at hr
  ·rename_i k z hy
   rw [hy] at r2;have e2:=q00t r2
   unfold ixsV at hr
   split at hr
   ·rename_i h0
    have run: ∀(b off len cap:Nat),a.eval u= .slice (some ⟨b,off,none⟩) len cap->z<len->
      (execOp a.eval o).run P w= .ok (.value (.pointer (some ⟨b,off+z.toNat*s,none⟩))) w:=by
     intro b off len cap hv hlt
     simp [execOp,hop,hv,e2,Instr.indexAt,asIntOf,run_underlying hu,q01m hie,h0,hlt,Addr.add_lit,hsz]
    split at hr
    ·rename_i es hx
     rw [hx] at r1
     cases he:es[z.toNat]? with
     |none=>rw [he] at hr;cases hr
     |some el=>
      rw [he] at hr
      simp only [Ze] at hr
      split at hr
      ·rename_i hl
       cases hr
       have hlt:z.toNat<es.length:=(Za.1 he).1
       have hget:es[z.toNat]=el:=(Za.1 he).2
       cases hva:a.eval u with
       |slice ad len cap=>
        rw [hva] at r1
        cases r1 with
        |p hp=>
         cases hp with
         |sl0=>simp at hlt
         |sl b off _ s' _ c hn0 hc hs hI hR=>
          have hss:s'=s:=by rw [<-hs z.toNat hlt,hget];exact hl
          subst hss
          refine q00f hF h hd (by rw [hop];intro c hc;cases hc) (run b off _ _ hva (by omega)) (.of ?_) hS hn
          have:=VRep.eptr (G:=G) b (off+z.toNat*s') 0 (el.map .p) (fun j=>c z.toNat j) (fun j hj=>hI _ _ hlt (by simpa [hl] using hj)) (fun j hj=>by
           have hj':j<(es[z.toNat]).length:=by rw [hget];simpa using hj
           have:=hR z.toNat j hlt hj'
           simp only [Z1]
           refine .p ?_
           simpa only [hget] using this)
          simpa using this
       |_=>rw [hva] at r1;cases r1 with|p hp=>cases hp
      ·cases hr
    ·rename_i es hx
     rw [hx] at r1
     cases he:es[z.toNat]? with
     |none=>rw [he] at hr;cases hr
     |some el=>
      rw [he] at hr
      simp only [Ze] at hr
      split at hr
      ·rename_i hl
       cases hr
       have hlt:z.toNat<es.length:=(Za.1 he).1
       have hget:es[z.toNat]=el:=(Za.1 he).2
       cases hva:a.eval u with
       |slice ad len cap=>
        rw [hva] at r1
        cases r1 with
        |vsl0=>simp at hlt
        |vsl b off _ s' _ c hn0 hc hs hI hR=>
          have hss:s'=s:=by rw [<-hs z.toNat hlt,hget];exact hl
          subst hss
          refine q00f hF h hd (by rw [hop];intro c hc;cases hc) (run b off _ _ hva (by omega)) (.of ?_) hS hn
          have:=VRep.eptr (G:=G) b (off+z.toNat*s') 0 el (fun j=>c z.toNat j) (fun j hj=>hI _ _ hlt (by simpa [hl] using hj)) (fun j hj=>by
           have hj':j<(es[z.toNat]).length:=by rw [hget];exact hj
           have:=hR z.toNat j hlt hj'
           simpa only [hget] using this)
          simpa using this
       |_=>rw [hva] at r1;cases r1
      ·cases hr
    ·rename_i id off len s' hx
     rw [hx] at r1
     split at hr
     ·rename_i hc
      obtain ⟨rfl,hc2⟩:=hc
      cases hr
      cases hva:a.eval u with
      |slice ad len' cap'=>
       rw [hva] at r1
       cases r1 with
       |bvs _ _ _ _ b _ hb hcc hl=>
        exact q00f hF h hd (by rw [hop];intro c hc;cases hc) (run b off _ _ hva hc2) (.of (VRep.ptr _ _ _ hb)) hS hn
      |_=>rw [hva] at r1;cases r1
     ·cases hr
    ·rename_i id tot off len hx
     rw [hx] at r1
     cases hro:rowAt S.hp id with
     |none=>rw [hro] at hr;cases hr
     |some p=>
      obtain ⟨s',es⟩:=p
      rw [hro] at hr
      simp only [Ze] at hr
      split at hr
      ·rename_i hc
       obtain ⟨hc1,hc2,hc3⟩:=hc
       cases hr
       subst hc2
       cases hva:a.eval u with
       |slice ad len' cap'=>
        rw [hva] at r1
        cases r1 with
        |rown=>omega
        |rowz=>omega
        |row _ _ _ _ b s'' cap hg h1' h2'=>
         obtain ⟨rfl,c,-⟩:=q04v h.wok hro (hc1▸hg)
         refine q00f hF h hd (by rw [hop];intro c hc;cases hc) (run b (off*s'') _ _ hva hc3) (.of ?_) hS hn
         have:=VRep.rptr (G:=G) id tot (off+z.toNat) 0 b s'' cap hg
         rw [Nat.add_zero,Nat.add_mul] at this
         exact this
       |_=>rw [hva] at r1;cases r1
      ·cases hr
    ·cases hr
   ·cases hr
  ·cases hr
 ·cases hok
end
theorem q03l {α:Type} {cs r:List α} {off n:Nat} (h:subs cs off n=some r):off+n<=cs.length/\r=(cs.drop off).take n:=by
 unfold subs at h
 split at h
 ·exact ⟨by assumption,by injection h with h;exact h.symm⟩
 ·cases h
theorem q04w {α:Type} {cs r:List α} {off n:Nat} (h:subs cs off n=some r):r.length=n:=by
 obtain ⟨h1,rfl⟩:=q03l h;simp;omega
theorem q073 {α:Type} {cs r:List α} {off n:Nat} (h:subs cs off n=some r) (j:Nat) (hj:j<r.length): ∃h':off+j<cs.length,r[j]=cs[off+j]:=by
 have hl:=q04w h
 obtain ⟨h1,rfl⟩:=q03l h
 exact ⟨by omega,by simp⟩
theorem q0by {c:Array Value} {i:Nat} (h:i<c.size):c[i]? =some (c.getD i undef):=by simp [Zc,h]
section
variable {F:Fence} {n:Nat} {P:Program} {o:Oper} {a:Act} {w:World} {Q:Exit->Act->World->Prop}
variable {N:Nat} {G:Gh} {own:Own} {L:Nat->Option Nat} {S S':St} {next:Act->World->Prop}
theorem q0s7 (h:Sim N G own L S a w) {v:Value} {x:V} {m:Nat} {cs:List V} (hv:SRep G L v x) (hl:q011 S x m=some cs):
  ∃b off,∃f:Nat->Value,v= .pointer (some ⟨b,off,none⟩)/\(∀j,j<m->w.cell? ⟨b,off+j,none⟩=some (f j))/\cs.length=m/\CRep G f cs:=by
 unfold q011 at hl
 split at hl
 ·rename_i s off
  cases hg:getL S.loc s with
  |none=>rw [hg] at hl;cases hl
  |some ds=>
   rw [hg] at hl
   simp only [Ze] at hl
   obtain ⟨b,hb,rfl⟩:=hv
   rcases h.wok.locs s ds hg with rfl|⟨b',c,h1,h2,h3,h4,h5⟩
   ·simp at hl
   rw [hb] at h1;cases h1
   split at hl
   ·cases hl
   have hm:=(q03l hl).1
   refine ⟨b,off,fun j=>c.getD (off+j) undef,rfl,fun j hj=> ?_,q04w hl,fun j hj=> ?_⟩
   ·rw [h3.cell];exact q0by (by omega)
   ·obtain ⟨hj',e⟩:=q073 hl j hj
    rw [e];exact h5 (off+j) hj'
 ·rename_i id off
  cases hg:boxAt S.hp id with
  |none=>rw [hg] at hl;cases hl
  |some ds=>
   rw [hg] at hl
   simp only [Ze] at hl
   cases hv with
   |ptr _ _ b hb=>
    obtain ⟨b',c,h1,h2,h3,h4,h5⟩:=h.wok.obj id _ (q05f hg)
    rw [hb] at h1;cases h1
    have hm:=(q03l hl).1
    refine ⟨b,off,fun j=>c.getD (off+j) undef,rfl,fun j hj=> ?_,q04w hl,fun j hj=> ?_⟩
    ·rw [h3.cell];exact q0by (by omega)
    ·obtain ⟨hj',e⟩:=q073 hl j hj
     rw [e];exact h5 (off+j) hj'
 ·rename_i ds off
  cases hv with
  |eptr b base _ _ c hI hR=>
   have hm:=(q03l hl).1
   refine ⟨b,base+off,fun j=>c (off+j),rfl,fun j hj=> ?_,q04w hl,fun j hj=> ?_⟩
   ·rw [Z3];exact h.wok.imm _ _ _ (hI (off+j) (by omega))
   ·obtain ⟨hj',e⟩:=q073 hl j hj
    rw [e];exact hR (off+j) hj'
 ·rename_i id tot i j0
  cases hro:rowAt S.hp id with
  |none=>rw [hro] at hl;cases hl
  |some p=>
   obtain ⟨s',es⟩:=p
   rw [hro] at hl
   simp only [Ze] at hl
   split at hl
   ·rename_i hc1
    cases he:es[i]? with
    |none=>rw [he] at hl;cases hl
    |some el=>
     rw [he] at hl
     simp only [Ze] at hl
     cases hv with
     |rptr _ _ _ _ b s cap hg=>
      obtain ⟨rfl,c,h2,h3,h4,h5,h6,h7,-⟩:=q04v h.wok hro (hc1▸hg)
      have hm:=(q03l hl).1
      have hlt:i<es.length:=(Za.1 he).1
      have hget:es[i]=el:=(Za.1 he).2
      have hel:el.length=s:=by rw [<-hget];exact h6 i hlt
      have hcap:i*s+s<=c.size:=by
       rw [h4,<-ZO];exact Zu _ (by omega)
      refine ⟨b,i*s+j0,fun j=>c.getD (i*s+(j0+j)) undef,rfl,fun j hj=> ?_,q04w hl,fun j hj=> ?_⟩
      ·rw [h3.cell,Z3];exact q0by (by omega)
      ·obtain ⟨hj',e⟩:=q073 hl j hj
       rw [e]
       have hj2:j0+j<(es[i]).length:=by rw [hget];exact hj'
       have:=h7 i (j0+j) hlt hj2
       simpa only [hget] using this
   ·cases hl
 ·cases hl
theorem q07h {t:TypeId} {b:Bool} (h:aggB P t b=true):(isAgg t).run P w= .ok b w:=by
 unfold aggB at h
 split at h
 ·rename_i fs hu;simp [isAgg,run_underlying hu,h]
 ·rename_i n e hu;simp [isAgg,run_underlying hu,h]
 ·rename_i d h1 h2 hu
  have hb:b=false:=by simpa using h
  subst hb
  simp only [isAgg,Sem.run_bind,run_underlying hu,Result.andThen_ok]
  rfl
 ·cases h
theorem q0bz {agg:Bool} {cs:List V} {r:V} {f:Nat->Value} (hr:aggOr agg cs=some r) (h:CRep G f cs):
  (agg=true/\r= .agg cs/\VRep G (.agg ((List.range cs.length).map f).toArray) r)\/(agg=false/\ ∃x,cs=[x]/\r=x/\VRep G (f 0) r):=by
 unfold aggOr at hr
 split at hr
 ·cases hr
  refine .inl ⟨rfl,rfl,.agg _ _ (by simp) fun j hj=> ?_⟩
  have:=h j hj
  simpa [Zc,hj] using this
 ·rename_i v
  split at hr
  ·cases hr;exact .inr ⟨rfl,_,rfl,rfl,h 0 (by simp)⟩
  ·cases hr
 ·cases hr
theorem q0cp {t:TypeId} {agg:Bool} {b off m:Nat} {i:TypeInfo} (ha:aggB P t agg=true) (hi:P.info? t=some i) (hm:i.size=m) (h1:agg=true\/m=1) {f:Nat->Value}
  (hc: ∀j,j<m->w.cell? ⟨b,off+j,none⟩=some (f j)):(loadVar t ⟨b,off,none⟩).run P w= .ok (if agg=true then .agg ((List.range m).map f).toArray else f 0) w:=by
 cases agg with
 |true=>
  have:=run_loadCells (P:=P) w ⟨b,off,none⟩ m f (fun j hj=>by rw [Addr.add_lit];exact hc j hj)
  simp [loadVar,q07h (w:=w) ha,q01m hi,hm,this]
 |false=>
  have hm1:m=1:=by simpa using h1
  have:=hc 0 (by omega)
  simp only [Nat.add_zero] at this
  simp [loadVar,q07h (w:=w) ha,this]
theorem q0k9 (hF: ∀f,F.fn f) (h:Sim N G own L S a w) (hd: ∀t,o.dst=some t->t<N) {x:Arg} {m:Nat} {agg:Bool} (hok:okIns P o.op (.ld x m agg)=true)
  {cl:ClT} (hev:evIns cl o.dst (.ld x m agg) S=some S') (hn: ∀a' w',Res N G own w a.defers S' a' w'->next a' w'):o.wpIn F n P a w next Q:=by
 obtain ⟨r,hr,hS⟩:=q00y hev
 simp only [okIns] at hok
 split at hok
 ·rename_i t u hop
  simp only [Zb,Z4,beq_iff_eq] at hok
  obtain ⟨⟨⟨h1,h2⟩,h3⟩,h4⟩:=hok
  obtain ⟨i,hi,hsz⟩:=q017 h2
  cases hl:q011 S (S.arg x) m with
  |none=>rw [hl] at hr;cases hr
  |some cs=>
   rw [hl] at hr
   simp only [Ze] at hr
   obtain ⟨b,off,f,hv,hc,hlen,hrep⟩:=q0s7 h (q008 h h1) hl
   have run:=q0cp (P:=P) (w:=w) h3 hi hsz h4 hc
   rcases q0bz hr hrep with ⟨rfl,rfl,hra⟩|⟨rfl,y,rfl,rfl,hra⟩
   ·refine q00f hF h hd (by rw [hop];intro c hc;cases hc) (v:= .agg ((List.range m).map f).toArray) ?_ (.of (hlen▸hra)) hS hn
    simp only [if_true] at run
    simp [execOp,hop,hv,Instr.loadAt,Instr.sureAddr,run]
   ·refine q00f hF h hd (by rw [hop];intro c hc;cases hc) (v:=f 0) ?_ (.of hra) hS hn
    simp only [Zh,if_false] at run
    simp [execOp,hop,hv,Instr.loadAt,Instr.sureAddr,run]
 ·cases hok
theorem q0zs (hF: ∀f,F.fn f) (h:Sim N G own L S a w) (hd: ∀t,o.dst=some t->t<N) {k:Nat} {x:Arg} {m:Nat} {agg:Bool} (hok:okIns P o.op (.ldl k x m agg)=true)
  {cl:ClT} (hev:evIns cl o.dst (.ldl k x m agg) S=some S') (hn: ∀a' w',Res N G own w a.defers S' a' w'->next a' w'):o.wpIn F n P a w next Q:=by
 refine q0k9 (cl:=cl) hF h hd (x:=x) (m:=m) (agg:=agg) hok ?_ hn
 have hev':retS S o.dst (ldlV S k m agg (S.arg x))=some S':=hev
 show retS S o.dst ((q011 S (S.arg x) m).bind (aggOr agg))=some S'
 cases hx:S.arg x with
 |lptr s off=>
  rw [hx] at hev'
  simp only [ldlV] at hev'
  split at hev'
  ·exact hev'
  ·cases hev'
 |_=>rw [hx] at hev';cases hev'
theorem q02i {t:TypeId} {agg:Bool} {off m:Nat} {i:TypeInfo} (ha:aggB P t agg=true) (hi:P.info? t=some i) (hm:i.size=m) (h1:agg=true\/m=1) {c:Array Value} (hc:off+m<=c.size):
  (part t c off).run P w= .ok (if agg=true then .agg ((List.range m).map fun j=>c.getD (off+j) undef).toArray else c.getD off undef) w:=by
 cases agg with
 |true=>
  simp only [part,Sem.run_bind,q07h (w:=w) ha,Result.andThen_ok,if_true,q01m hi,Sem.run_pure,hm]
  congr 2
  apply Array.ext'
  apply List.ext_getElem?
  intro j
  by_cases hj:j<m
  ·have:off+j<c.size:=by omega
   simp [hj,Zc,this]
  ·simp [List.getElem?_take,hj]
 |false=>
  have hm1:m=1:=by simpa using h1
  have:off<c.size:=by omega
  simp [part,q07h (w:=w) ha,Zc,this]
theorem q06p {v:Value} {cs:List V} (h:SRep G L v (.agg cs)): ∃c:Array Value,v= .agg c/\c.size=cs.length/\CRep G (fun j=>c.getD j undef) cs:=by
 cases h with|agg c _ hs hc=>exact ⟨c,rfl,hs,hc⟩
theorem q0of {c:Array Value} {cs r:List V} {off m:Nat} (hc:CRep G (fun j=>c.getD j undef) cs) (hr:subs cs off m=some r):CRep G (fun j=>c.getD (off+j) undef) r:=fun j hj=>by
 obtain ⟨hj',e⟩:=q073 hr j hj
 rw [e];exact hc (off+j) hj'
theorem q0w3 (hF: ∀f,F.fn f) (h:Sim N G own L S a w) (hd: ∀t,o.dst=some t->t<N) {x:Arg} {off m:Nat} {agg:Bool} (hok:okIns P o.op (.fldv x off m agg)=true)
  {cl:ClT} (hev:evIns cl o.dst (.fldv x off m agg) S=some S') (hn: ∀a' w',Res N G own w a.defers S' a' w'->next a' w'):o.wpIn F n P a w next Q:=by
 obtain ⟨r,hr,hS⟩:=q00y hev
 simp only [okIns] at hok
 split at hok
 ·rename_i t u fi hop
  simp only [Zb] at hok
  obtain ⟨h1,h2⟩:=hok
  split at h2
  ·rename_i fs hfs
   split at h2
   ·rename_i fd hfd
    simp only [Zb,Z4,beq_iff_eq] at h2
    obtain ⟨⟨⟨rfl,h3⟩,h4⟩,h5⟩:=h2
    obtain ⟨i,hi,hsz⟩:=q017 h3
    have r1:=q008 h h1
    unfold fldvV at hr
    split at hr
    ·rename_i cs hx
     rw [hx] at r1
     obtain ⟨c,hv,hcs,hrep⟩:=q06p r1
     cases hsu:subs cs fd.offset m with
     |none=>rw [hsu] at hr;cases hr
     |some ds=>
      rw [hsu] at hr
      simp only [Ze] at hr
      have run:=q02i (P:=P) (w:=w) h4 hi hsz h5 (c:=c) (off:=fd.offset) (by rw [hcs];exact (q03l hsu).1)
      rcases q0bz hr (q0of hrep hsu) with ⟨rfl,rfl,hra⟩|⟨rfl,y,rfl,rfl,hra⟩
      ·rw [q04w hsu] at hra
       refine q00f hF h hd (by rw [hop];intro c hc;cases hc) ?_ (.of hra) hS hn
       simp only [if_true] at run
       simp [execOp,hop,hv,Instr.field,run_underlying hfs,hfd,asAgg,run]
      ·refine q00f hF h hd (by rw [hop];intro c hc;cases hc) ?_ (.of hra) hS hn
       simp only [Zh,if_false] at run
       simp [execOp,hop,hv,Instr.field,run_underlying hfs,hfd,asAgg,run]
    ·cases hr
   ·cases h2
  ·cases h2
 ·cases hok
theorem q0zt (hF: ∀f,F.fn f) (h:Sim N G own L S a w) (hd: ∀t,o.dst=some t->t<N) {x y:Arg} {s m:Nat} {agg:Bool} (hok:okIns P o.op (.ixv x y s m agg)=true)
  {cl:ClT} (hev:evIns cl o.dst (.ixv x y s m agg) S=some S') (hn: ∀a' w',Res N G own w a.defers S' a' w'->next a' w'):o.wpIn F n P a w next Q:=by
 obtain ⟨r,hr,hS⟩:=q00y hev
 simp only [okIns] at hok
 split at hok
 ·rename_i t u u' hop
  simp only [Zb] at hok
  obtain ⟨⟨h1,h2⟩,h3⟩:=hok
  split at h3
  ·rename_i m' e hu
   simp only [Zb,Z4,beq_iff_eq] at h3
   obtain ⟨⟨⟨rfl,h4⟩,h5⟩,h6⟩:=h3
   obtain ⟨i,hi,hsz⟩:=q017 h4
   have r1:=q008 h h1
   have r2:=q008 h h2
   unfold ixvV at hr
   split at hr
   ·rename_i cs k z hx hy
    rw [hx] at r1
    rw [hy] at r2
    have e2:=q00t r2
    obtain ⟨c,hv,hcs,hrep⟩:=q06p r1
    split at hr
    ·rename_i hb
     cases hsu:subs cs (z.toNat*s) s with
     |none=>rw [hsu] at hr;cases hr
     |some ds=>
      rw [hsu] at hr
      simp only [Ze] at hr
      have run:=q02i (P:=P) (w:=w) h5 hi hsz h6 (c:=c) (off:=z.toNat*s) (by rw [hcs];exact (q03l hsu).1)
      rcases q0bz hr (q0of hrep hsu) with ⟨rfl,rfl,hra⟩|⟨rfl,y,rfl,rfl,hra⟩
      ·rw [q04w hsu] at hra
       refine q00f hF h hd (by rw [hop];intro c hc;cases hc) ?_ (.of hra) hS hn
       simp only [if_true] at run
       simp [execOp,hop,hv,e2,Instr.index,asIntOf,run_underlying hu,q01m hi,hb.1,hb.2,hsz,run]
      ·refine q00f hF h hd (by rw [hop];intro c hc;cases hc) ?_ (.of hra) hS hn
       simp only [Zh,if_false] at run
       simp [execOp,hop,hv,e2,Instr.index,asIntOf,run_underlying hu,q01m hi,hb.1,hb.2,hsz,run]
    ·cases hr
   ·cases hr
  ·cases h3
 ·cases hok
theorem q0zu (hF: ∀f,F.fn f) (h:Sim N G own L S a w) (hd: ∀t,o.dst=some t->t<N) {x:Arg} (hok:okIns P o.op (.len x)=true)
  {cl:ClT} (hev:evIns cl o.dst (.len x) S=some S') (hn: ∀a' w',Res N G own w a.defers S' a' w'->next a' w'):o.wpIn F n P a w next Q:=by
 obtain ⟨r,hr,hS⟩:=q00y hev
 simp only [okIns] at hok
 split at hok
 ·rename_i c hop
  split at hok
  ·rename_i u t hcal hargs htys
   simp only [Zb] at hok
   obtain ⟨h1,h2⟩:=hok
   have r1:=q008 h h1
   have ha:c.args= #[u]:=by apply Array.ext';simpa using hargs
   have ht:c.argTypes= #[t]:=by apply Array.ext';simpa using htys
   split at h2
   ·rename_i e hu
    have run: ∀ad len cap,a.eval u= .slice ad len cap->(execOp a.eval o).run P w= .ok (.value (.int .i64 len)) w:=by
     intro ad len cap hv
     simp [execOp,hop,resolve,hcal,ha,ht,hv,invoke,builtin,Builtin.len_,run_underlying hu,goInt]
    cases hl:lenV (S.arg x) with
    |none=>rw [hl] at hr;cases hr
    |some m=>
     rw [hl] at hr
     cases hr
     suffices hs: ∃ad cap,a.eval u= .slice ad m cap by
      obtain ⟨ad,cap,hv⟩:=hs
      exact q00f hF h hd (by rw [hop];intro c hc;cases hc) (run _ _ _ hv) (.of (.p (.int _ _))) hS hn
     unfold lenV at hl
     generalize a.eval u=z at r1
     split at hl
     ·rename_i es hx;rw [hx] at r1;cases hl
      cases r1 with|p hp=>cases hp with
       |sl0 ad cap=>exact ⟨ad,cap,rfl⟩
       |sl b off cap s es c=>exact ⟨_,cap,rfl⟩
     ·rename_i es hx;rw [hx] at r1;cases hl
      cases r1 with
      |vsl0 ad cap=>exact ⟨ad,cap,rfl⟩
      |vsl b off cap s es c=>exact ⟨_,cap,rfl⟩
     ·rename_i hx;rw [hx] at r1;cases hl;cases r1 with|nils ad=>exact ⟨ad,0,rfl⟩
     ·rename_i hx;rw [hx] at r1;cases hl;cases r1;exact ⟨_,0,rfl⟩
     ·rename_i id tot off len hx;rw [hx] at r1;cases hl
      cases r1 with
      |rown=>exact ⟨none,0,rfl⟩
      |rowz _ _ _ _ ad cap=>exact ⟨ad,cap,rfl⟩
      |row _ _ _ _ b s cap=>exact ⟨_,_,rfl⟩
     ·rename_i id off len s hx;rw [hx] at r1;cases hl
      cases r1 with|bvs _ _ _ _ b cap=>exact ⟨_,_,rfl⟩
     ·cases hl
   ·cases h2
  ·cases hok
 ·cases hok
theorem q0zv (hF: ∀f,F.fn f) (h:Sim N G own L S a w) (hd: ∀t,o.dst=some t->t<N) {x:Arg} {i:Nat} (hok:okIns P o.op (.ext x i)=true)
  {cl:ClT} (hev:evIns cl o.dst (.ext x i) S=some S') (hn: ∀a' w',Res N G own w a.defers S' a' w'->next a' w'):o.wpIn F n P a w next Q:=by
 obtain ⟨r,hr,hS⟩:=q00y hev
 simp only [okIns] at hok
 split at hok
 ·rename_i u j hop
  simp only [Zb,beq_iff_eq] at hok
  obtain ⟨h1,rfl⟩:=hok
  have r1:=q008 h h1
  unfold extV at hr
  split at hr
  ·rename_i vs hx
   rw [hx] at r1
   have hr:vs[i]? =some r:=by
    cases hv:vs[i]? with
    |none=>rw [hv] at hr;cases hr
    |some y=>
     rw [hv] at hr
     simp only [Ze] at hr
     split at hr
     ·exact hr
     ·cases hr
   obtain ⟨hlt,hget⟩:=Za.1 hr
   generalize hva:a.eval u=z at r1
   cases r1 with
   |tup cs _ hs hc=>
    have hlt':i<cs.size:=by omega
    have:=hc i hlt
    rw [hget] at this
    refine q00f hF h hd (by rw [hop];intro c hc;cases hc) (v:=cs.getD i undef) ?_ (.of this) hS hn
    simp [execOp,hop,hva,Instr.extract,hlt',Zc]
  ·cases hr
 ·cases hok
theorem q0hh {v:Value} {x:V} {b:Bool} (h:SRep G L v x) (hb:x.isNil .ptr=some b):(b=true/\v= .pointer none)\/(b=false/\ ∃ad,v= .pointer (some ad)):=by
 unfold V.isNil at hb
 split at hb<;>rename_i e<;>(try cases e)<;>cases hb
 ·cases h with|p hp=>cases hp;exact .inl ⟨rfl,rfl⟩
 ·cases h;exact .inr ⟨rfl,_,rfl⟩
 ·cases h;exact .inr ⟨rfl,_,rfl⟩
 ·cases h;exact .inr ⟨rfl,_,rfl⟩
 ·obtain ⟨b,_,rfl⟩:=h;exact .inr ⟨rfl,_,rfl⟩
theorem q0w4 {v:Value} {x:V} {b:Bool} (h:SRep G L v x) (hb:x.isNil .fn=some b):(b=true/\v= .nilFunc)\/(b=false/\ ∃f p q,v= .func f p q):=by
 unfold V.isNil at hb
 split at hb<;>rename_i e<;>(try cases e)<;>cases hb
 ·cases h with|p hp=>cases hp;exact .inl ⟨rfl,rfl⟩
 ·cases h with|p hp=>cases hp;exact .inr ⟨rfl,_,_,_,rfl⟩
 ·cases h;exact .inr ⟨rfl,_,_,_,rfl⟩
 ·cases h;exact .inr ⟨rfl,_,_,_,rfl⟩
theorem q0w5 {v:Value} {x:V} {b:Bool} (h:SRep G L v x) (hb:x.isNil .sl=some b):(b=true/\ ∃c,v= .slice none 0 c)\/(b=false/\ ∃ad m c,v= .slice (some ad) m c):=by
 unfold V.isNil at hb
 split at hb<;>rename_i e<;>(try cases e)<;>cases hb
 ·cases h with|p hp=>cases hp;exact .inr ⟨rfl,_,_,_,rfl⟩
 ·cases h;exact .inr ⟨rfl,_,_,_,rfl⟩
 ·cases h with|row=>exact .inr ⟨rfl,_,_,_,rfl⟩
 ·cases h with|vsl=>exact .inr ⟨rfl,_,_,_,rfl⟩
 ·cases h with
  |mtn c=>exact .inl ⟨rfl,_,rfl⟩
  |mts ad c=>exact .inr ⟨rfl,_,_,_,rfl⟩
 ·cases h;exact .inl ⟨rfl,_,rfl⟩
end
end Go.Eng
