/- The program's functions and the document's, evaluated. -/
import Derived.Test.YtjjdmlpdgcdehaaGreatEngAll2
import Derived.Test.YtjjdmlpdgcdehaaGreatText2
set_option linter.unusedSimpArgs false
set_option linter.unusedVariables false
namespace Go.EnvOf
open Go Go.Eng
set_option maxRecDepth 100000
theorem okEl_upV: ∀(es:List Int),(upV (es.map encI)).all (okEl 1)=true
 |[]=>rfl
 |x::r=>by simp only [Zo,q04x,List.all_cons,okEl_upV r,Bool.and_true];rfl
theorem q0lz: ∀(l:List Int),readI (upV (l.map encI))=some l
 |[]=>rfl
 |x::r=>by
  have:=q0lz r
  simp only [Zo,q04x] at this⊢
  simp only [encI,Zo,ZL,readI,this]
theorem q0m0 (x:Int): ∀l,(insI x l).length=l.length+1
 |[]=>rfl
 |y::r=>by unfold insI;split<;>simp [q0m0 x r]
theorem isort_len: ∀l,(isort l).length=l.length
 |[]=>rfl
 |x::r=>by simp [isort,q0m0,isort_len r]
theorem q0xr (l:List Int):l.map intEl=upV (l.map encI):=by simp [upV,intEl,encI]
theorem q0u5 (H:Heap) (id tot off:Nat):clD EE (.p (.fn 376)) [.row id tot off 0] H=some (.tup [],none):=by
 rw [q0li _ _ _ _ _ q0lh];rfl
theorem q0xs (H:Heap) (l:List Int) (hl:l.length<most) (hne:l≠[]) (id:Nat) (h:Go.Eng.rowAt H id=some (1,upV (l.map encI))):clD EE (.p (.fn 376)) [.row id l.length 0 l.length] H=some (.tup [],some (H.set id (.row 1 (upV ((isort l).map encI))),[id])):=by
 obtain ⟨n,hn⟩: ∃n,l.length=n+1:=⟨l.length-1,by cases l;exact absurd rfl hne;simp⟩
 rw [q0li _ _ _ _ _ q0lh,hn]
 simp [sortP,sortR,h,q0lz,hn,hn▸hl,q0xr]
theorem q02d (c:Int): ∀(l:List Float) (i:Nat),(figOf c i l).length<=l.length
 |[],_=>by simp [figOf]
 |x::r,i=>by
  have:=q02d c r (i+1)
  simp only [figOf,Zt,Zg]
  split<;>simp<;>omega
def okU (n:Nat) (u w:Int):Prop:=0<=u/\0<=w/\u<=n/\w<=n-u
instance (n:Nat) (u w:Int):Decidable (okU n u w):=inferInstanceAs (Decidable (_/\_))
def seg (F:List Int) (u w:Int):List Int:=(F.drop u.toNat).take w.toNat
theorem q0Bn {F:List Int} {u w:Int} (h:okU F.length u w):(seg F u w).length=w.toNat:=by
 unfold okU at h;unfold seg;rw [ZC,List.length_drop];omega
theorem q0Bo (F:List Int) (u w:Int) (h:okU F.length u w) (H:Heap):slcI H 1 (sli F) (some (vI u)) (some (vI (u+w)))=some (sli (seg F u w)):=by
 unfold okU at h
 have e:(u+w-u).toNat=w.toNat:=by omega
 have c:0<=u/\u<=u+w/\u+w<=F.length:=by omega
 have hh:q066 1 (F.map encI)=true:=by cases F<;>rfl
 have g:(u:Int)<=u+w:=by omega
 have g2:u+w<=(F.length:Int):=by omega
 simp [slcI,slcV,seg,e,hh,h.1,g,g2,h.2.1,List.map_take,List.map_drop]
def tkE (l:List Float) (x y:C3) (H:Heap) (d:List Nat) (out:List Int) (i:Nat):St:=
 ⟨[(0,q005 l),(4,.lptr 4 0),(5,.lptr 5 0),(8,.row H.length out.length 0 out.length),(11,vI i)],[(4,[vI x.a,vI x.b,vI x.c]),(5,[vI y.a,vI y.b,vI y.c])],H++[.row 1 (upV (out.map encI))],H.length,d⟩
def tkB (H:Heap) (d:List Nat) (out:List Int):Ex×St:=(.ret,⟨[(6,.nils),(7,vB false)],[],H++[.row 1 (upV (out.map encI))],H.length,d⟩)
def tkX (l:List Float) (x y:C3) (H:Heap) (d:List Nat) (out:List Int):Ex×St:=
 (.exit 0,⟨[(0,q005 l),(4,.lptr 4 0),(5,.lptr 5 0),(8,.row H.length out.length 0 out.length),(11,vI 3),(12,vB false)],[(4,[vI x.a,vI x.b,vI x.c]),(5,[vI y.a,vI y.b,vI y.c])],H++[.row 1 (upV (out.map encI))],H.length,d⟩)
def tkS (l:List Float) (bad:List Int->Ex×St) (out:List Int) (i:Nat) (p:Int×Int):List Int⊕(Ex×St):=if okU (figOf i 0 l).length p.1 p.2 then .inl (out++seg (figOf i 0 l) p.1 p.2) else .inr (bad out)
set_option maxHeartbeats 2000000 in
theorem q0Bp (l:List Float) (x y:C3) (H:Heap) (d:List Nat) (hl:l.length<=100000):
  evD EE q0Wk (tkE l x y H d [] 0)=some (rng (tkS l (tkB H d)) (tkX l x y H d) [] 0 [(x.a,y.a),(x.b,y.b),(x.c,y.c)]):=by
 unfold q0Wk
 refine q013 [(x.a,y.a),(x.b,y.b),(x.c,y.c)] (tkE l x y H d) (fun out i=>out.length<=100000*i) (tkS l (tkB H d)) (tkX l x y H d) (fun _ _=>rfl) ?_ ?_ [] 0 (by simp) (Zj _)
 ·intro out i p hi hp
  have hlt:i<3:=(Za.1 hp).1
  have hF:=q02d i l 0
  have hm:out.length+100000<most:=by unfold most;omega
  unfold tkS
  have hf:=fun H=>q0xo l i H (by omega)
  generalize figOf i 0 l=F at*
  obtain ⟨u,w⟩:=p
  simp only
  have w1:IntKind.i64.wrap 1=1:=by decide
  have w2:IntKind.i64.wrap 2=2:=by decide
  have w3:IntKind.i64.wrap 3=3:=by decide
  by_cases hok:okU F.length u w
  ·rw [if_pos hok]
   have hs:=q0Bo F u w hok
   have hsl:=q0Bn hok
   obtain ⟨a1,a2,a3,a4⟩:=id hok
   have wu:IntKind.i64.wrap (u+w)=u+w:=w64 (by omega) (by omega)
   have wn:IntKind.i64.wrap ((F.length:Int)-u)=(F.length:Int)-u:=w64 (by omega) (by omega)
   have b1: ¬u<0:=by omega
   have b2: ¬w<0:=by omega
   have b3: ¬(F.length:Int)<u:=by omega
   have b4: ¬(F.length:Int)-u<w:=by omega
   have hmm:out.length+(seg F u w).length<most:=by omega
   refine ⟨?_,by rw [Zt];omega⟩
   match i,hlt with
   |0,_|1,_|2,_=>
    simp at hp hf
    obtain ⟨rfl,rfl⟩:=hp
    simp (config:= {maxSteps:=2000000}) [tkE,ixaV,subs,hf,hs,wu,wn,w1,w2,w3,b1,b2,b3,b4,okEl_upV,hmm]
  ·rw [if_neg hok]
   refine ⟨?_,by simp [tkB]⟩
   have wn:0<=u->u<=F.length->IntKind.i64.wrap ((F.length:Int)-u)=(F.length:Int)-u:=fun _ _=>w64 (by omega) (by omega)
   match i,hlt with
   |0,_|1,_|2,_=>
    simp at hp hf
    obtain ⟨e1,e2⟩:=hp
    by_cases c1:u<0
    ·simp [tkE,tkB,ixaV,subs,hf,wn,e1,e2,c1]
    by_cases c2:w<0
    ·simp [tkE,tkB,ixaV,subs,hf,wn,e1,e2,c1,c2]
    by_cases c3:(F.length:Int)<u
    ·simp [tkE,tkB,ixaV,subs,hf,wn,e1,e2,c1,c2,c3]
    have wn:=wn (by omega) (by omega)
    have c4:(F.length:Int)-u<w:=by unfold okU at hok;omega
    simp [tkE,tkB,ixaV,subs,hf,wn,e1,e2,c1,c2,c3,c4]
 ·intro out hi
  refine ⟨?_,by simp [tkX]⟩
  simp [tkE,tkX]
def okT (l:List Float) (x y:C3):Prop:=okU (figOf 0 0 l).length x.a y.a/\okU (figOf 1 0 l).length x.b y.b/\okU (figOf 2 0 l).length x.c y.c
instance (l:List Float) (x y:C3):Decidable (okT l x y):=inferInstanceAs (Decidable (_/\_))
def raw (l:List Float) (x y:C3):List Int:=seg (figOf 0 0 l) x.a y.a++seg (figOf 1 0 l) x.b y.b++seg (figOf 2 0 l) x.c y.c
def takeL (l:List Float) (x y:C3):List Int:=isort (raw l x y)
theorem q0m1 (F:List Int) (u w:Int):(seg F u w).length<=F.length:=by unfold seg;rw [ZC,List.length_drop];omega
theorem q0pa (l:List Float) (x y:C3):(raw l x y).length<=3*l.length:=by
 have h0:=q0m1 (figOf 0 0 l) x.a y.a
 have h1:=q0m1 (figOf 1 0 l) x.b y.b
 have h2:=q0m1 (figOf 2 0 l) x.c y.c
 have g0:=q02d 0 l 0
 have g1:=q02d 1 l 0
 have g2:=q02d 2 l 0
 unfold raw
 simp only [Zt]
 omega
def vTake (l:List Float) (x y:C3):V:=if okT l x y then .tup [sli (takeL l x y),vB true] else .tup [sli [],vB false]
theorem q0pb (l:List Float) (x y:C3) (H:Heap) (hl:l.length<=100000):clD EE (.p (.fn 331)) [q005 l,vC x,vC y] H=some (vTake l x y,none):=by
 rw [q002 _ _ _ _ _ _ (noP _) fn331]
 have key:=q0Bp l x y H [] hl
 simp only [rng,tkS,Zf] at key
 unfold vTake takeL
 have w0:((0:Nat):Int)=0:=rfl
 have w1:((0+1:Nat):Int)=1:=rfl
 have w2:((0+1+1:Nat):Int)=2:=rfl
 rw [w0,w1,w2] at key
 have hr:=q0pa l x y
 by_cases h:okT l x y
 ·obtain ⟨h0,h1,h2⟩:=id h
  simp only [if_pos h0,if_pos h1,if_pos h2] at key
  have e:seg (figOf 0 0 l) x.a y.a++seg (figOf 1 0 l) x.b y.b++seg (figOf 2 0 l) x.c y.c=raw l x y:=rfl
  rw [e] at key
  rw [if_pos h]
  generalize raw l x y=R at*
  simp [tkE,tkX] at key
  by_cases hne:R=[]
  ·subst hne
   have hn:=fun H id tot off=>q0u5 H id tot off
   simp at key
   simp [zEc,key,hn,isort,idsK,frzK,allO]
  ·have hn:=fun H=>q0xs H R (by unfold most;omega) hne
   have hl:=isort_len R
   simp [zEc,key,hn,hl,Zy]
 ·rw [if_neg h]
  have kb: ∃out:List Int,evD EE q0Wk (tkE l x y H [] [] 0)=some (tkB H [] out):=by
   rw [key]
   by_cases h0:okU (figOf 0 0 l).length x.a y.a
   ·by_cases h1:okU (figOf 1 0 l).length x.b y.b
    ·have h2: ¬okU (figOf 2 0 l).length x.c y.c:=fun h2=>h ⟨h0,h1,h2⟩
     simp only [if_pos h0,if_pos h1,if_neg h2]
     exact ⟨_,rfl⟩
    ·simp only [if_pos h0,if_neg h1]
     exact ⟨_,rfl⟩
   ·simp only [if_neg h0]
    exact ⟨_,rfl⟩
  obtain ⟨out,kb⟩:=kb
  clear key
  simp [tkE,tkB] at kb
  simp [zEc,kb]
def atF (l:List Float) (i:Int):Option Float:=if 0<=i/\i<l.length then some (rd l i) else none
theorem at_ev (l:List Float) (i:Int) (H:Heap):clD EE (.p (.fn 136)) [q005 l,vI i] H=some (.tup [match atF l i with|some f=>q03v f|none=> .agg [vI 0,vI 0,vI 0],vB (atF l i).isSome],none):=by
 rw [q002 _ _ _ _ _ _ (noP _) fn136]
 unfold atF
 by_cases h1:i<0
 ·simp [zEc,h1,show¬0<=i by omega]
 by_cases h2:(l.length:Int)<=i
 ·simp [zEc,h1,h2,show¬i<l.length by omega]
 have hx:=q026 l i (by omega) (by omega)
 have hix:=fun H k=>q024 H q009 (k:=k) (s:=3) (by omega) hx rfl
 simp [zEc,h1,h2,show 0<=i/\i<l.length by omega,hix,q009]
def bump (s:C3) (c:Int):C3:=if c=0 then ⟨s.a+1,s.b,s.c⟩ else if c=1 then ⟨s.a,s.b+1,s.c⟩ else if c=2 then ⟨s.a,s.b,s.c+1⟩ else s
def ofS (l:List Float) (s:C3) (x:Int):C3:=match atF l x with|some f=>bump s f.c|none=>s
def ofL (l:List Float) (xs:List Int):C3:=xs.foldl (ofS l) ⟨0,0,0⟩
def ofE (l:List Float) (xs:List Int) (H:Heap) (s:C3) (i:Nat):St:=
 ⟨[(0,q005 l),(4,.lptr 4 0),(5,.lptr 5 0),(10,sli xs),(11,vI xs.length),(12,vI i)],[(4,[vI 0,vI 0,vI 0]),(5,[vI s.a,vI s.b,vI s.c])],H,H.length,[]⟩
def ofX (l:List Float) (xs:List Int) (H:Heap) (s:C3):Ex×St:=
 (.exit 0,⟨[(0,q005 l),(4,.lptr 4 0),(5,.lptr 5 0),(10,sli xs),(11,vI xs.length),(12,vI xs.length),(13,vB false)],[(4,[vI 0,vI 0,vI 0]),(5,[vI s.a,vI s.b,vI s.c])],H,H.length,[]⟩)
theorem of_lp (l:List Float) (xs:List Int) (H:Heap) (hl:l.length<=100000) (hx:xs.length<=9223372036854775807):
  evD EE q0Ww (ofE l xs H ⟨0,0,0⟩ 0)=some (ofX l xs H (ofL l xs)):=by
 have hf: ∀(xs:List Int) (s:C3) (i:Nat),fold (fun s _ x=>ofS l s x) s i xs=xs.foldl (ofS l) s:=by
  intro xs
  induction xs with
  |nil=>intro s i;rfl
  |cons x r ih=>intro s i;simp only [fold,ZT,ih]
 unfold ofL
 rw [<-hf xs ⟨0,0,0⟩ 0]
 unfold q0Ww
 refine Eq.trans (q00u xs (ofE l xs H) (fun s i=>(0<=s.a/\s.a<=i)/\(0<=s.b/\s.b<=i)/\(0<=s.c/\s.c<=i)) (fun s _ x=>ofS l s x) (ofX l xs H) (fun _ _=>rfl) ?_ ?_ ⟨0,0,0⟩ 0 (by simp) (Zj _)) (by rw [ZG])
 ·intro s i x hi hp
  have hlt:=(Za.1 hp).1
  have hix:=fun H k=>q00c H encI (k:=k) (s:=1) hp rfl
  have ha:=fun H=>at_ev l x H
  have w:IntKind.i64.wrap ((i:Int)+1)=((i+1:Nat):Int):=w64 (by omega) (by omega)
  have wa:IntKind.i64.wrap (s.a+1)=s.a+1:=w64 (by omega) (by omega)
  have wb:IntKind.i64.wrap (s.b+1)=s.b+1:=w64 (by omega) (by omega)
  have wc:IntKind.i64.wrap (s.c+1)=s.c+1:=w64 (by omega) (by omega)
  unfold ofS
  cases hat:atF l x with
  |none=>
   rw [hat] at ha
   refine ⟨?_,by simp only;omega⟩
   simp [ofE,hlt,hix,encI,subs,q001,ha,w]
  |some f=>
   rw [hat] at ha
   obtain ⟨f1,f2,f3⟩:=f
   simp only at ha⊢
   unfold bump
   by_cases c1:f1<0
   ·rw [if_neg (by omega),if_neg (by omega),if_neg (by omega)]
    refine ⟨?_,by omega⟩
    simp [ofE,hlt,hix,encI,subs,q001,ha,w,show¬0<=f1 by omega]
   by_cases c2:3<=f1
   ·rw [if_neg (by omega),if_neg (by omega),if_neg (by omega)]
    refine ⟨?_,by omega⟩
    simp [ofE,hlt,hix,encI,subs,q001,ha,w,show 0<=f1 by omega,show¬f1<3 by omega]
   have c:f1=0\/f1=1\/f1=2:=by omega
   rcases c with rfl|rfl|rfl
   ·refine ⟨?_,by simp;omega⟩
    simp [ofE,hlt,hix,encI,subs,q001,ixaV,ha,w,wa]
   ·refine ⟨?_,by simp;omega⟩
    simp [ofE,hlt,hix,encI,subs,q001,ixaV,ha,w,wb]
   ·refine ⟨?_,by simp;omega⟩
    simp [ofE,hlt,hix,encI,subs,q001,ixaV,ha,w,wc]
 ·intro s hi
  refine ⟨?_,by simp [ofX]⟩
  simp [ofE,ofX]
theorem q0Xn (l:List Float) (xs:List Int) (H:Heap) (hl:l.length<=100000) (hx:xs.length<=9223372036854775807):clD EE (.p (.fn 169)) [q005 l,sli xs] H=some (vC (ofL l xs),none):=by
 rw [q002 _ _ _ _ _ _ (noP _) fn169]
 have key:=of_lp l xs H hl hx
 simp [ofE,ofX] at key
 simp [zEc,key]
theorem of_ev (l:List Float) (xs:List Int) (H:Heap) (hl:l.length<=100000) (hx:xs.length<=1000000):clD EE (.p (.fn 169)) [q005 l,sli xs] H=some (vC (ofL l xs),none):=q0Xn l xs H hl (by omega)
def qB (H:Heap):Ex×St:=(.ret,⟨[(4,vB false)],[],H,H.length,[]⟩)
def qE (a b:List Int) (H:Heap) (i:Nat):St:=⟨[(0,sli a),(1,sli b),(12,vI a.length),(13,vI i)],[],H,H.length,[]⟩
def qX (a b:List Int) (H:Heap):Ex×St:=(.exit 0,⟨[(0,sli a),(1,sli b),(12,vI a.length),(13,vI a.length),(14,vB false)],[],H,H.length,[]⟩)
theorem q0u6 (a b:List Int) (H:Heap) (hl:a.length=b.length) (ha:a.length<=9223372036854775807):evD EE q0ow (qE a b H 0)=some (rng (step2 (fun x y=>decide (x=y)) b (qB H)) (fun _=>qX a b H) () 0 a):=by
 unfold q0ow
 refine q013 a (fun (_:Unit) i=>qE a b H i) (fun _ _=>True) _ (fun _=>qX a b H) (fun _ _=>rfl) ?_ ?_ () 0 trivial (Zj _)
 ·rintro _ i x-hx
  have hlt:=(Za.1 hx).1
  have hy:b[i]? =some (b[i]'(by omega)):=Zl (by omega)
  generalize (b[i]'(by omega))=y at hy
  have w:IntKind.i64.wrap ((i:Int)+1)=((i+1:Nat):Int):=w64 (by omega) (by omega)
  have hix:=fun H k=>q00c H encI (k:=k) (s:=1) hx rfl
  have hiy:=fun H k=>q00c H encI (k:=k) (s:=1) hy rfl
  rw [q04n hy]
  by_cases hxy:x=y
  ·simp [qE,hlt,hix,hiy,hxy,w,encI,subs]
  ·simp [qE,qB,hlt,hix,hiy,hxy,encI,subs]
 ·rintro _-
  simp [qE,qX]
theorem q0Wb (a b:List Int) (H:Heap) (ha:a.length<=9223372036854775807):clD EE (.p (.fn 199)) [sli a,sli b] H=some (vB (decide (a=b)),none):=by
 rw [q002 _ _ _ _ _ _ (noP _) fn199]
 by_cases hl:a.length=b.length
 ·have key:=q0u6 a b H hl ha
  rw [q05w (fun x y=>decide (x=y)) b (qB H) (qX a b H) a 0 (by omega),ZG,q06s a b hl] at key
  have hl':(a.length:Int)=b.length:=by omega
  by_cases h:a=b
  ·rw [if_pos (by simpa using h)] at key
   subst h
   simp [qE,qX] at key
   simp [zEa,key]
  ·rw [if_neg (by simpa using h)] at key
   simp [qE,qB,hl] at key
   simp [zEa,hl',key,h]
 ·have hl': ¬(a.length:Int)=b.length:=by omega
  have h:a≠b:=by rintro rfl;exact hl rfl
  simp [zEa,hl',h]
theorem q0b8 (a b:List Int) (H:Heap) (ha:a.length<=1000000):clD EE (.p (.fn 199)) [sli a,sli b] H=some (vB (decide (a=b)),none):=q0Wb a b H (by omega)
def nextQ (l:List Float) (x:C3) (p:List Int):Bool:=decide (okT l x (ofL l p))&&decide (takeL l x (ofL l p)=p)
theorem q0Xr (l:List Float) (x:C3) (p:List Int) (H:Heap) (hl:l.length<=100000) (hp:p.length<=9223372036854775807):clD EE (.p (.fn 273)) [q005 l,vC x,sli p] H=some (vB (nextQ l x p),none):=by
 rw [q002 _ _ _ _ _ _ (noP _) fn273]
 have h1:=fun H=>q0Xn l p H hl hp
 have h2:=fun H=>q0pb l x (ofL l p) H hl
 have hr:=q0pa l x (ofL l p)
 have h3:=fun H=>q0b8 (takeL l x (ofL l p)) p H (by unfold takeL;rw [isort_len];omega)
 unfold nextQ
 generalize ofL l p=y at*
 unfold vTake at h2
 by_cases h:okT l x y
 ·rw [if_pos h] at h2
  simp [zEc,h1,h2,h3,h]
 ·rw [if_neg h] at h2
  simp [zEc,h1,h2,h3,h]
theorem q0pc (l:List Float) (x:C3) (p:List Int) (H:Heap) (hl:l.length<=100000) (hp:p.length<=1000000):clD EE (.p (.fn 273)) [q005 l,vC x,sli p] H=some (vB (nextQ l x p),none):=q0Xr l x p H hl (by omega)
def plus (x y:C3):C3:=⟨x.a+y.a,x.b+y.b,x.c+y.c⟩
theorem q118 {x y:C3} (ha:0<=x.a/\x.a<=100000) (hb:0<=x.b/\x.b<=100000) (hc:0<=x.c/\x.c<=100000) (ya:0<=y.a/\y.a<=100000) (yb:0<=y.b/\y.b<=100000) (yc:0<=y.c/\y.c<=100000):addC x y=plus x y:=by
 unfold addC zipF plus
 simp only [held,big,C3.mk.injEq]
 omega
theorem q0Z2 {l:List Float} {x y:C3} (hl:l.length<=100000) (h:okT l x y):addC x y=plus x y:=by
 obtain ⟨h0,h1,h2⟩:=h
 unfold okU at h0 h1 h2
 have g0:=q02d 0 l 0
 have g1:=q02d 1 l 0
 have g2:=q02d 2 l 0
 exact q118 (by omega) (by omega) (by omega) (by omega) (by omega) (by omega)
def bitV (n m:Int):Int:=IntKind.i64.wrap (BitVec.ofInt 64 n&&&BitVec.ofInt 64 m).toNat
theorem and_v (n m:Int):binV .and (vI n) (vI m)=some (vI (bitV n m)):=rfl
def bitB (m n:Int):Bool:= !decide (bitV n m=0)
theorem q0Bt (n:Int) (H:Heap):clD EE (.p (.fn 379)) [vI n] H=some (vB (bitB 1 n),none):=by
 rw [q002 _ _ _ _ _ _ (noP _) fn379]
 have h:=and_v n 1
 simp [zEa,h,bitB]
theorem q0Bu (n:Int) (H:Heap):clD EE (.p (.fn 380)) [vI n] H=some (vB (bitB 2 n),none):=by
 rw [q002 _ _ _ _ _ _ (noP _) fn380]
 have h:=and_v n 2
 simp [zEa,h,bitB]
theorem q0pd (x:Float) (k:Nat) (p:Int->Bool) (h: ∀n H,clD EE (.p (.fn k)) [vI n] H=some (vB (p n),none)) (H:Heap):clD EE (.p (.fn 378)) [q03v x,.p (.fn k)] H=some (vB (p x.w),none):=by
 rw [q002 _ _ _ _ _ _ (noP _) fn378]
 simp [zEb,h]
def topB (x:Float):Bool:=bitB 1 x.w
def botB (x:Float):Bool:=bitB 2 x.w
theorem q0Dz (x:Float) (H:Heap):clD EE (.p (.fn 341)) [q03v x] H=some (vB (topB x),none):=by
 rw [q002 _ _ _ _ _ _ (noP _) fn341]
 have h:=fun H=>q0pd x _ _ q0Bt H
 simp [zEb,h,topB]
theorem q0E0 (x:Float) (H:Heap):clD EE (.p (.fn 342)) [q03v x] H=some (vB (botB x),none):=by
 rw [q002 _ _ _ _ _ _ (noP _) fn342]
 have h:=fun H=>q0pd x _ _ q0Bu H
 simp [zEb,h,botB]
abbrev fz:Int:=1125899906842624
def hz (n:Int):Int:=min (max n 0) fz
theorem hz_ev (n:Int) (H:Heap):clD EE (.p (.fn 346)) [vI n] H=some (vI (hz n),none):=by
 rw [q002 _ _ _ _ _ _ (noP _) fn346]
 simp [zEa,hz]
theorem hz_in (n:Int):0<=hz n/\hz n<=fz:=by unfold hz fz;omega
def hiS (l:List Float) (sep:Int) (s:Int) (x:Int):Int:=match atF l x with|some f=>hz (s+hz f.h+hz sep)|none=>s
def highQ (l:List Float) (xs:List Int) (sep:Int):Int:=xs.foldl (hiS l sep) 0
def fhE (l:List Float) (xs:List Int) (sep:Int) (H:Heap) (s:Int) (i:Nat):St:=
 ⟨[(0,q005 l),(2,vI sep),(7,.p (.fn 346)),(8,vI s),(13,sli xs),(14,vI xs.length),(15,vI i)],[],H,H.length,[]⟩
def fhX (l:List Float) (xs:List Int) (sep:Int) (H:Heap) (s:Int):Ex×St:=
 (.exit 0,⟨[(0,q005 l),(2,vI sep),(7,.p (.fn 346)),(8,vI s),(13,sli xs),(14,vI xs.length),(15,vI xs.length),(16,vB false)],[],H,H.length,[]⟩)
theorem foldG {σ α:Type} (f:σ->α->σ): ∀(l:List α) (s:σ) (i:Nat),fold (fun s _ x=>f s x) s i l=l.foldl f s
 |[],_,_=>rfl
 |x::r,s,i=>by simp only [fold,ZT,foldG f r]
theorem fh_lp (l:List Float) (xs:List Int) (sep:Int) (H:Heap) (hx:xs.length<=9223372036854775807):evD EE q0X8 (fhE l xs sep H 0 0)=some (fhX l xs sep H (highQ l xs sep)):=by
 unfold q0X8
 refine Eq.trans (q00u xs (fhE l xs sep H) (fun s _=>0<=s/\s<=fz) (fun s _ x=>hiS l sep s x) (fhX l xs sep H) (fun _ _=>rfl) ?_ ?_ 0 0 (by simp) (Zj _)) (by rw [ZG,foldG];rfl)
 ·intro s i x hi hp
  have hlt:=(Za.1 hp).1
  have hix:=fun H k=>q00c H encI (k:=k) (s:=1) hp rfl
  have ha:=fun H=>at_ev l x H
  have w:IntKind.i64.wrap ((i:Int)+1)=((i+1:Nat):Int):=w64 (by omega) (by omega)
  unfold hiS
  cases hat:atF l x with
  |none=>
   rw [hat] at ha
   refine ⟨?_,hi⟩
   simp [fhE,hlt,hix,encI,subs,q001,ha,w]
  |some f=>
   rw [hat] at ha
   simp only at ha⊢
   refine ⟨?_,hz_in _⟩
   have h1:=hz_in f.h
   have h2:=hz_in sep
   simp only [fz] at h1 h2 hi
   have w1:IntKind.i64.wrap (s+hz f.h)=s+hz f.h:=w64 (by omega) (by omega)
   have w2:IntKind.i64.wrap (s+hz f.h+hz sep)=s+hz f.h+hz sep:=w64 (by omega) (by omega)
   simp [fhE,hlt,hix,encI,subs,q001,ha,w,hz_ev,w1,w2]
 ·intro s hi
  refine ⟨?_,by simp [fhX]⟩
  simp [fhE,fhX]
theorem q0Vw (l:List Float) (xs:List Int) (sep:Int) (H:Heap) (hx:xs.length<=9223372036854775807):clD EE (.p (.fn 284)) [q005 l,sli xs,vI sep] H=some (vI (highQ l xs sep),none):=by
 rw [q002 _ _ _ _ _ _ (noP _) fn284]
 have k:=fh_lp l xs sep H hx
 simp [fhE,fhX] at k
 simp [zEa,k]
def mayAt (p:Float->Bool) (l:List Float) (x:Int):Bool:=match atF l x with|some f=>p f|none=>false
def fitsF (many maxH:Int) (p:Float->Bool) (sep:Int) (l:List Float) (xs:List Int):Bool:=
 decide ((xs.length:Int)<=many)&&(xs.all (mayAt p l)&&decide (highQ l xs sep<=maxH))
abbrev q0b9 (many maxH:Int) (k:Nat):List V:=[vI many,vI maxH,.p (.fn k)]
def ftE (g:Geom) (many maxH:Int) (k:Nat) (l:List Float) (xs:List Int) (H:Heap) (i:Nat):St:=
 ⟨[(2,q005 l),(3,sli xs),(4,.lptr 4 0),(5,.lptr 5 0),(18,sli xs),(19,vI xs.length),(20,vI i)],[(4,q0b9 many maxH k),(5,cGeom g)],H,H.length,[]⟩
def ftX (g:Geom) (many maxH:Int) (k:Nat) (l:List Float) (xs:List Int) (H:Heap):Ex×St:=
 (.exit 0,⟨[(2,q005 l),(3,sli xs),(4,.lptr 4 0),(5,.lptr 5 0),(18,sli xs),(19,vI xs.length),(20,vI xs.length),(21,vB false)],[(4,q0b9 many maxH k),(5,cGeom g)],H,H.length,[]⟩)
def ftB (H:Heap):Ex×St:=(.ret,⟨[(8,vB false)],[],H,H.length,[]⟩)
theorem ft_lp (g:Geom) (many maxH:Int) (k:Nat) (p:Float->Bool) (hp: ∀x H,clD EE (.p (.fn k)) [q03v x] H=some (vB (p x),none)) (l:List Float) (xs:List Int) (H:Heap) (hx:xs.length<=9223372036854775807):
  evD EE q0gh (ftE g many maxH k l xs H 0)=some (if xs.any (fun x=> !mayAt p l x)=true then ftB H else ftX g many maxH k l xs H):=by
 unfold q0gh
 refine Eq.trans (q013 xs (fun (_:Unit) i=>ftE g many maxH k l xs H i) (fun _ _=>True) (stepB (fun x=> !mayAt p l x) (ftB H)) (fun _=>ftX g many maxH k l xs H) (fun _ _=>rfl) ?_ ?_ () 0 trivial (Zj _)) (by rw [ZG,q043])
 ·rintro _ i x-hx2
  have hlt:=(Za.1 hx2).1
  have hix:=fun H k=>q00c H encI (k:=k) (s:=1) hx2 rfl
  have ha:=fun H=>at_ev l x H
  have w:IntKind.i64.wrap ((i:Int)+1)=((i+1:Nat):Int):=w64 (by omega) (by omega)
  cases hat:atF l x with
  |none=>
   rw [hat] at ha
   have hm:mayAt p l x=false:=by unfold mayAt;rw [hat]
   simp [stepB,hm,ftE,ftB,hlt,hix,encI,subs,q001,ha,w]
  |some f=>
   rw [hat] at ha
   have hm:mayAt p l x=p f:=by unfold mayAt;rw [hat]
   simp only at ha
   have hpf:=fun H=>hp f H
   cases hb:p f with
   |true=>
    rw [hb] at hpf hm
    simp [stepB,hm,ftE,ftB,hlt,hix,encI,subs,q001,ha,w,hpf]
   |false=>
    rw [hb] at hpf hm
    simp [stepB,hm,ftE,ftB,hlt,hix,encI,subs,q001,ha,w,hpf]
 ·rintro _-
  refine ⟨?_,by simp [ftX]⟩
  simp [ftE,ftX]
theorem q0pe (g:Geom) (many maxH:Int) (k:Nat) (p:Float->Bool) (hp: ∀x H,clD EE (.p (.fn k)) [q03v x] H=some (vB (p x),none)) (l:List Float) (xs:List Int) (H:Heap) (hx:xs.length<=9223372036854775807):
  clD EE (.p (.fn 275)) [.agg (q0b9 many maxH k),vGeom g,q005 l,sli xs] H=some (vB (fitsF many maxH p g.sep l xs),none):=by
 rw [q002 _ _ _ _ _ _ (noP _) fn275]
 have key:=ft_lp g many maxH k p hp l xs H hx
 have hh:=fun H=>q0Vw l xs g.sep H hx
 unfold fitsF
 have hany:xs.any (fun x=> !mayAt p l x)= !xs.all (mayAt p l):=by rw [List.any_eq_not_all_not];simp only [Bool.not_not]
 rw [hany] at key
 by_cases h1:many<(xs.length:Int)
 ·simp [zEc,h1,show¬(xs.length:Int)<=many by omega]
 cases hall:xs.all (mayAt p l) with
 |false=>
  rw [hall] at key
  simp [ftE,ftB] at key
  simp [zEc,h1,key]
 |true=>
  rw [hall] at key
  simp [ftE,ftX] at key
  simp [zEc,h1,key,hh,show (xs.length:Int)<=many by omega]
abbrev topP (g:Geom):List V:=q0b9 g.topMany g.topMost 341
abbrev botP (g:Geom):List V:=q0b9 g.botMany g.botMost 342
theorem q0Bv (g:Geom) (H:Heap):clD EE (.p (.fn 274)) [vGeom g] H=some (.agg (topP g),none):=by
 rw [q002 _ _ _ _ _ _ (noP _) fn274]
 simp [zEc]
theorem q0Bw (g:Geom) (H:Heap):clD EE (.p (.fn 276)) [vGeom g] H=some (.agg (botP g),none):=by
 rw [q002 _ _ _ _ _ _ (noP _) fn276]
 simp [zEc]
def fitT (g:Geom) (l:List Float) (xs:List Int):Bool:=fitsF g.topMany g.topMost topB g.sep l xs
def fitB (g:Geom) (l:List Float) (xs:List Int):Bool:=fitsF g.botMany g.botMost botB g.sep l xs
abbrev Pr:Type:=List Int×List Int
def encP (p:Pr):List PV:=[.sl (p.1.map encI),.sl (p.2.map encI)]
@[simp] theorem q0R0 (x:Pr):(encP x).length=2:=rfl
abbrev vPair (p:Pr):V:= .agg [sli p.1,sli p.2]
theorem q0Xo (g:Geom) (l:List Float) (p:Pr) (H:Heap) (h1:p.1.length<=9223372036854775807) (h2:p.2.length<=9223372036854775807):clD EE (.p (.fn 189)) [vGeom g,q005 l,vPair p] H=some (vB (fitT g l p.1&&fitB g l p.2),none):=by
 rw [q002 _ _ _ _ _ _ (noP _) fn189]
 have a:=fun H=>q0Bv g H
 have b:=fun H=>q0Bw g H
 have f1:=fun H=>q0pe g g.topMany g.topMost _ topB q0Dz l p.1 H h1
 have f2:=fun H=>q0pe g g.botMany g.botMost _ botB q0E0 l p.2 H h2
 have e1:fitsF g.topMany g.topMost topB g.sep l p.1=fitT g l p.1:=rfl
 have e2:fitsF g.botMany g.botMost botB g.sep l p.2=fitB g l p.2:=rfl
 rw [e1] at f1
 rw [e2] at f2
 cases h:fitT g l p.1 with
 |true=>
  rw [h] at f1
  simp [zEc,a,b,f1,f2]
 |false=>
  rw [h] at f1
  simp [zEc,a,b,f1,f2]
theorem q0xt (g:Geom) (l:List Float) (p:Pr) (H:Heap) (h1:p.1.length<=1000000) (h2:p.2.length<=1000000):clD EE (.p (.fn 189)) [vGeom g,q005 l,vPair p] H=some (vB (fitT g l p.1&&fitB g l p.2),none):=q0Xo g l p H (by omega) (by omega)
abbrev hP (H:Heap) (o:List Pr):Heap:=H++[.row 2 (upV (o.map encP))]
abbrev zC:C3:=⟨0,0,0⟩
theorem q0Ya (l:List Float) (h:C3):takeL l h zC=[]:=by
 unfold takeL raw seg
 simp [isort]
structure Stt where
 at_:Int
 col:Int
 note:Int
 line:Int
 h:C3
 deriving Inhabited,DecidableEq
abbrev vStt (s:Stt):V:= .agg [vI s.at_,vI s.col,vI s.note,vI s.line,vI s.h.a,vI s.h.b,vI s.h.c]
def addF (a b:Int):Option Int:=if-9223372036854775808<=a+b/\a+b<=9223372036854775807 then some (a+b) else none
def subF (a b:Int):Option Int:=if-9223372036854775808<=a-b/\a-b<=9223372036854775807 then some (a-b) else none
def upF (a s:Int):Option Int:=if s<1 then none else if a%s=0 then some a else addF a (s-a%s)
def downF (a s:Int):Option Int:=if s<1 then none else subF a (a%s)
def resV:Option Int->V
 |some a=> .agg [vI a,vB true]
 |none=> .agg [vI 0,vB false]
def resT:Option Int->V
 |some a=> .tup [vI a,vB true]
 |none=> .tup [vI 0,vB false]
theorem q0pf {n:Int} (h0:9223372036854775808<=n) (h1:n<=27670116110564327423):IntKind.wrap .i64 n=n-18446744073709551616:=by
 unfold IntKind.wrap;simp [IntKind.bits,IntKind.signed];omega
theorem q0pg {n:Int} (h0:n<= -9223372036854775809) (h1: -27670116110564327424<=n):IntKind.wrap .i64 n=n+18446744073709551616:=by
 unfold IntKind.wrap;simp [IntKind.bits,IntKind.signed];omega
theorem q06t (a s:Int) (hs:1<=s):(if a.tmod s<0 then a.tmod s+s else a.tmod s)=a%s:=by
 have h1:=Int.emod_nonneg a (show s≠0 by omega)
 have h2:=Int.emod_lt_of_pos a (show 0<s by omega)
 have:=Int.tmod_eq_emod (a:=a) (b:=s)
 rw [this]
 split<;>split<;>omega
theorem q0u8 (a b:Int) (H:Heap) (ha:I64 a) (hb:I64 b):clD EE (.p (.fn 241)) [vI a,vI b] H=some (resT (addF a b),none):=by
 rw [q002 _ _ _ _ _ _ (noP _) fn241]
 unfold addF
 by_cases h1:9223372036854775807<a+b
 ·have w:=q0pf (n:=a+b) (by omega) (by omega)
  have c1: ¬a<a+b-18446744073709551616:=by omega
  have c2:0<b:=by omega
  have c3:b≠0:=by omega
  have c4: ¬(-9223372036854775808<=a+b/\a+b<=9223372036854775807):=by omega
  simp [zEa,resT,w,c1,c2,c3,c4]
 ·by_cases h2:a+b< -9223372036854775808
  ·have w:=q0pg (n:=a+b) (by omega) (by omega)
   have c1:a<a+b+18446744073709551616:=by omega
   have c2: ¬0<b:=by omega
   have c3:b≠0:=by omega
   have c4: ¬(-9223372036854775808<=a+b/\a+b<=9223372036854775807):=by omega
   simp [zEa,resT,w,c1,c2,c3,c4]
  ·have w:=w64 (n:=a+b) (by omega) (by omega)
   have c1:(a<a+b)=(0<b):=by rw [eq_iff_iff];omega
   have c4: -9223372036854775808<=a+b/\a+b<=9223372036854775807:=by omega
   simp [zEa,resT,w,c1,c4]
theorem q0u9 (a b:Int) (H:Heap) (ha:I64 a) (hb:I64 b):clD EE (.p (.fn 320)) [vI a,vI b] H=some (resT (subF a b),none):=by
 rw [q002 _ _ _ _ _ _ (noP _) fn320]
 unfold subF
 by_cases h1:9223372036854775807<a-b
 ·have w:=q0pf (n:=a-b) (by omega) (by omega)
  have c1:a-b-18446744073709551616<a:=by omega
  have c2: ¬0<b:=by omega
  have c3:b≠0:=by omega
  have c4: ¬(-9223372036854775808<=a-b/\a-b<=9223372036854775807):=by omega
  simp [zEa,resT,w,c1,c2,c3,c4]
 ·by_cases h2:a-b< -9223372036854775808
  ·have w:=q0pg (n:=a-b) (by omega) (by omega)
   have c1: ¬a-b+18446744073709551616<a:=by omega
   have c2:0<b:=by omega
   have c3:b≠0:=by omega
   have c4: ¬(-9223372036854775808<=a-b/\a-b<=9223372036854775807):=by omega
   simp [zEa,resT,w,c1,c2,c3,c4]
  ·have w:=w64 (n:=a-b) (by omega) (by omega)
   have c1:(a-b<a)=(0<b):=by rw [eq_iff_iff];omega
   have c4: -9223372036854775808<=a-b/\a-b<=9223372036854775807:=by omega
   simp [zEa,resT,w,c1,c4]
theorem q0Bx (a b:Int) (H:Heap) (ha:I64 a) (hb:I64 b):clD EE (.p (.fn 324)) [vI a,vI b] H=some (resV (addF a b),none):=by
 rw [q002 _ _ _ _ _ _ (noP _) fn324]
 unfold addF
 by_cases c:0<b
 ·have w:=w64 (n:=9223372036854775807-b) (by omega) (by omega)
  have c2: ¬b<0:=by omega
  by_cases h1:9223372036854775807-b<a
  ·have c4: ¬(-9223372036854775808<=a+b/\a+b<=9223372036854775807):=by omega
   simp [zEa,resV,subs,q001,w,c,c2,h1,c4]
  ·have c4: -9223372036854775808<=a+b/\a+b<=9223372036854775807:=by omega
   have w2:=w64 (n:=a+b) (by omega) (by omega)
   simp [zEa,resV,subs,q001,w,w2,c,c2,h1,c4]
 ·by_cases c2:b<0
  ·have w:=w64 (n:= -9223372036854775808-b) (by omega) (by omega)
   by_cases h1:a< -9223372036854775808-b
   ·have c4: ¬(-9223372036854775808<=a+b/\a+b<=9223372036854775807):=by omega
    simp [zEa,resV,subs,q001,w,c,c2,h1,c4]
   ·have c4: -9223372036854775808<=a+b/\a+b<=9223372036854775807:=by omega
    have w2:=w64 (n:=a+b) (by omega) (by omega)
    simp [zEa,resV,subs,q001,w,w2,c,c2,h1,c4]
  ·have e:b=0:=by omega
   subst e
   have w2:=w64 (n:=a) (by omega) (by omega)
   simp [zEa,resV,subs,q001,w2,ha.1,ha.2]
theorem q0By (a b:Int) (H:Heap) (ha:I64 a) (hb:I64 b):clD EE (.p (.fn 323)) [vI a,vI b] H=some (resV (subF a b),none):=by
 rw [q002 _ _ _ _ _ _ (noP _) fn323]
 unfold subF
 by_cases c:0<b
 ·have w:=w64 (n:= -9223372036854775808+b) (by omega) (by omega)
  have c2: ¬b<0:=by omega
  by_cases h1:a< -9223372036854775808+b
  ·have c4: ¬(-9223372036854775808<=a-b/\a-b<=9223372036854775807):=by omega
   simp [zEa,resV,subs,q001,w,c,c2,h1,c4]
  ·have c4: -9223372036854775808<=a-b/\a-b<=9223372036854775807:=by omega
   have w2:=w64 (n:=a-b) (by omega) (by omega)
   simp [zEa,resV,subs,q001,w,w2,c,c2,h1,c4]
 ·by_cases c2:b<0
  ·have w:=w64 (n:=9223372036854775807+b) (by omega) (by omega)
   by_cases h1:9223372036854775807+b<a
   ·have c4: ¬(-9223372036854775808<=a-b/\a-b<=9223372036854775807):=by omega
    simp [zEa,resV,subs,q001,w,c,c2,h1,c4]
   ·have c4: -9223372036854775808<=a-b/\a-b<=9223372036854775807:=by omega
    have w2:=w64 (n:=a-b) (by omega) (by omega)
    simp [zEa,resV,subs,q001,w,w2,c,c2,h1,c4]
  ·have e:b=0:=by omega
   subst e
   have w2:=w64 (n:=a) (by omega) (by omega)
   simp [zEa,resV,subs,q001,w2,ha.1,ha.2]
theorem q078 (a s:Int) (hs:1<=s):0<=a%s/\a%s<s:=⟨Int.emod_nonneg a (by omega),Int.emod_lt_of_pos a (by omega)⟩
theorem q08p (a s:Int) (hs:1<=s): -s<=a.tmod s/\a.tmod s<s:=by
 have h:=q06t a s hs
 have h2:=q078 a s hs
 split at h<;>omega
theorem q0m5 (a s:Int) (H:Heap) (hs:1<=s) (h2:I64 s):clD EE (.p (.fn 321)) [vI a,vI s] H=some (vI (a%s),none):=by
 rw [q002 _ _ _ _ _ _ (noP _) fn321]
 have h:=q06t a s hs
 have hb:=q08p a s hs
 have h0:s≠0:=by omega
 by_cases c:a.tmod s<0
 ·rw [if_pos c] at h
  have w:=w64 (n:=a%s) (by omega) (by omega)
  simp [zEa,h0,c,w,h]
 ·rw [if_neg c] at h
  rw [h] at c
  simp [zEa,h0,c,h]
theorem q0Bz (a s:Int) (H:Heap) (ha:I64 a) (hs:I64 s):clD EE (.p (.fn 235)) [vI a,vI s] H=some (resT (downF a s),none):=by
 rw [q002 _ _ _ _ _ _ (noP _) fn235]
 unfold downF
 by_cases c:s<1
 ·simp [zEa,c,resT]
 ·have h1:=q0m5 a s H (by omega) hs
  have hb:=q078 a s (by omega)
  have h2:=q0u9 a (a%s) H ha ⟨by omega,by omega⟩
  cases h3:subF a (a%s)<;>simp [h3,resT] at h2<;>simp [zEa,c,resT,h1,h2,h3]
theorem up_ev (a s:Int) (H:Heap) (ha:I64 a) (hs:I64 s):clD EE (.p (.fn 236)) [vI a,vI s] H=some (resT (upF a s),none):=by
 rw [q002 _ _ _ _ _ _ (noP _) fn236]
 unfold upF
 by_cases c:s<1
 ·simp [zEa,c,resT]
 ·have h1:=q0m5 a s H (by omega) hs
  have hb:=q078 a s (by omega)
  by_cases c2:a%s=0
  ·simp [zEa,c,resT,h1,c2]
  ·have w:=w64 (n:=s-a%s) (by omega) (by omega)
   have c3:0<a%s:=by omega
   have h2:=q0u8 a (s-a%s) H ha ⟨by omega,by omega⟩
   cases h3:addF a (s-a%s)<;>simp [h3,resT] at h2<;>simp [zEa,c,c2,c3,w,resT,h1,h2,h3]
theorem q0m6 (a s:Int) (H:Heap) (ha:I64 a) (hs:I64 s):clD EE (.p (.fn 244)) [vI a,vI s] H=some (resV (downF a s),none):=by
 rw [q002 _ _ _ _ _ _ (noP _) fn244]
 unfold downF
 by_cases c:s<1
 ·simp [zEa,c,resV,subs,q001]
 ·have h:=q06t a s (by omega)
  have hb:=q08p a s (by omega)
  have hb2:=q078 a s (by omega)
  have h0:s≠0:=by omega
  have h2:=q0By a (a%s) H ha ⟨by omega,by omega⟩
  by_cases c2:a.tmod s<0
  ·rw [if_pos c2] at h
   have w:=w64 (n:=a%s) (by omega) (by omega)
   cases h3:subF a (a%s)<;>simp [h3,resV] at h2<;>simp [zEa,c,resV,subs,q001,h0,c2,w,h,h2,h3]
  ·rw [if_neg c2] at h
   rw [h] at c2
   cases h3:subF a (a%s)<;>simp [h3,resV] at h2<;>simp [zEa,c,resV,subs,q001,h0,c2,h,h2,h3]
theorem q0ua (a s:Int) (H:Heap) (ha:I64 a) (hs:I64 s):clD EE (.p (.fn 245)) [vI a,vI s] H=some (resV (upF a s),none):=by
 rw [q002 _ _ _ _ _ _ (noP _) fn245]
 unfold upF
 by_cases c:s<1
 ·simp [zEa,c,resV,subs,q001]
 ·have h:=q06t a s (by omega)
  have hb:=q08p a s (by omega)
  have hb2:=q078 a s (by omega)
  have h0:s≠0:=by omega
  have w:=w64 (n:=s-a%s) (by omega) (by omega)
  have h2:=q0Bx a (s-a%s) H ha ⟨by omega,by omega⟩
  by_cases c3:a%s=0
  ·by_cases c2:a.tmod s<0
   ·rw [if_pos c2] at h
    have w:IntKind.i64.wrap 0=0:=w64 (by omega) (by omega)
    simp [zEa,c,resV,subs,q001,h0,c2,w,h,c3]
   ·rw [if_neg c2] at h
    rw [h] at c2
    simp [zEa,c,resV,subs,q001,h0,c2,h,c3]
  ·by_cases c2:a.tmod s<0
   ·rw [if_pos c2] at h
    have w3:=w64 (n:=a%s) (by omega) (by omega)
    cases h3:addF a (s-a%s)<;>simp [h3,resV] at h2<;>simp [zEa,c,resV,subs,q001,h0,c2,w,w3,h,h2,h3,c3]
   ·rw [if_neg c2] at h
    rw [h] at c2
    cases h3:addF a (s-a%s)<;>simp [h3,resV] at h2<;>simp [zEa,c,resV,subs,q001,h0,c2,w,h,h2,h3,c3]
def orN (o:Option Int) (n:Int):Int:=match o with|some a=>a|none=>n
def upG (n s:Int):Int:=orN (upF n s) n
def downG (n s:Int):Int:=orN (downF n s) n
def nearG (n s:Int):Int:=if s<1 then n else if n%s<s-n%s then downG n s else upG n s
theorem or_ev (f:FuncId) (o:Option Int) (n s:Int) (H:Heap) (h:clD EE (.p (.fn f)) [vI n,vI s] H=some (resT o,none)):clD EE (.p (.fn 234)) [vI n,vI s,.p (.fn f)] H=some (vI (orN o n),none):=by
 rw [q002 _ _ _ _ _ _ (noP _) fn234]
 cases o<;>simp [resT] at h<;>simp [zEa,h,orN]
theorem q0du (n s:Int) (H:Heap) (hn:I64 n) (hs:I64 s):clD EE (.p (.fn 131)) [vI n,vI s] H=some (vI (downG n s),none):=by
 rw [q002 _ _ _ _ _ _ (noP _) fn131]
 have h:=or_ev _ _ n s H (q0Bz n s H hn hs)
 simp [zEa,h,downG]
theorem q08q (n s:Int) (H:Heap) (hn:I64 n) (hs:I64 s):clD EE (.p (.fn 132)) [vI n,vI s] H=some (vI (upG n s),none):=by
 rw [q002 _ _ _ _ _ _ (noP _) fn132]
 have h:=or_ev _ _ n s H (up_ev n s H hn hs)
 simp [zEa,h,upG]
theorem q0xu (n s:Int) (H:Heap) (hn:I64 n) (hs:I64 s):clD EE (.p (.fn 233)) [vI n,vI s] H=some (vI (nearG n s),none):=by
 rw [q002 _ _ _ _ _ _ (noP _) fn233]
 unfold nearG
 by_cases c:s<1
 ·simp [zEa,c]
 ·have h:=q06t n s (by omega)
  have hb:=q08p n s (by omega)
  have hb2:=q078 n s (by omega)
  have h0:s≠0:=by omega
  have w:=w64 (n:=s-n%s) (by omega) (by omega)
  have h1:=q0du n s H hn hs
  have h2:=q08q n s H hn hs
  by_cases c2:n.tmod s<0
  ·rw [if_pos c2] at h
   have w3:=w64 (n:=n%s) (by omega) (by omega)
   by_cases c3:n%s<s-n%s<;>simp [zEa,c,c2,c3,h0,w,w3,h,h1,h2]
  ·rw [if_neg c2] at h
   rw [h] at c2
   by_cases c3:n%s<s-n%s<;>simp [zEa,c,c2,c3,h0,w,h,h1,h2]
theorem q0f8 (o:Option Int) (n:Int) (H:Heap):clD EE (.p (.fn 243)) [resV o,vI n] H=some (vI (orN o n),none):=by
 rw [q002 _ _ _ _ _ _ (noP _) fn243]
 cases o<;>simp [resV,zEb,orN]
theorem q0ik (n s:Int) (H:Heap) (hn:I64 n) (hs:I64 s):clD EE (.p (.fn 144)) [vI n,vI s] H=some (vI (downG n s),none):=by
 rw [q002 _ _ _ _ _ _ (noP _) fn144]
 have h:=q0m6 n s H hn hs
 have h2:=q0f8 (downF n s) n H
 cases ho:downF n s<;>simp only [ho,resV] at h h2<;>simp [zEa,h,h2,downG,ho]
theorem q08r (n s:Int) (H:Heap) (hn:I64 n) (hs:I64 s):clD EE (.p (.fn 145)) [vI n,vI s] H=some (vI (upG n s),none):=by
 rw [q002 _ _ _ _ _ _ (noP _) fn145]
 have h:=q0ua n s H hn hs
 have h2:=q0f8 (upF n s) n H
 cases ho:upF n s<;>simp only [ho,resV] at h h2<;>simp [zEa,h,h2,upG,ho]
theorem q0f9 (o:Option Int): ∃a b,resV o= .agg [vI a,vB b]:=by cases o<;>exact ⟨_,_,rfl⟩
theorem q0ub (n s:Int) (H:Heap) (hn:I64 n) (hs:I64 s):clD EE (.p (.fn 246)) [vI n,vI s] H=some (vI (nearG n s),none):=by
 rw [q002 _ _ _ _ _ _ (noP _) fn246]
 unfold nearG
 by_cases c:s<1
 ·simp [zEa,c]
 ·have h:=q06t n s (by omega)
  have hb:=q08p n s (by omega)
  have hb2:=q078 n s (by omega)
  have h0:s≠0:=by omega
  have w:=w64 (n:=s-n%s) (by omega) (by omega)
  have h1:=q0m6 n s H hn hs
  have h2:=q0ua n s H hn hs
  have g1:=q0f8 (downF n s) n H
  have g2:=q0f8 (upF n s) n H
  obtain ⟨a1,b1,e1⟩:=q0f9 (downF n s)
  obtain ⟨a2,b2,e2⟩:=q0f9 (upF n s)
  rw [e1] at h1 g1
  rw [e2] at h2 g2
  by_cases c2:n.tmod s<0
  ·rw [if_pos c2] at h
   have w3:=w64 (n:=n%s) (by omega) (by omega)
   by_cases c3:n%s<s-n%s
   ·simp [zEc,c,c2,c3,h0,w,w3,h,h1,h2,g1,downG]
   ·have c4:n%s≠0:=by omega
    simp [zEc,c,c2,c3,c4,h0,w,w3,h,h1,h2,g2,upG]
  ·rw [if_neg c2] at h
   rw [h] at c2
   by_cases c3:n%s<s-n%s
   ·simp [zEc,c,c2,c3,h0,w,h,h1,h2,g1,downG]
   ·have c4:n%s≠0:=by omega
    simp [zEc,c,c2,c3,c4,h0,w,h,h1,h2,g2,upG]
theorem q0ph {o:Option Int} {n:Int} (hn:I64 n) (h: ∀a,o=some a->I64 a):I64 (orN o n):=by
 cases o with
 |none=>exact hn
 |some a=>exact h a rfl
theorem q0xv {a b c:Int} (h:addF a b=some c):I64 c:=by unfold addF at h;split at h<;>simp at h;subst h;assumption
theorem q0xw {a b c:Int} (h:subF a b=some c):I64 c:=by unfold subF at h;split at h<;>simp at h;subst h;assumption
theorem q06u {n s:Int} (hn:I64 n):I64 (upG n s):=q0ph hn fun a h=>by
 unfold upF at h;split at h
 ·cases h
 ·split at h
  ·simp at h;subst h;exact hn
  ·exact q0xv h
theorem q0ba {n s:Int} (hn:I64 n):I64 (downG n s):=q0ph hn fun a h=>by
 unfold downF at h;split at h
 ·cases h
 ·exact q0xw h
theorem q0uc {n s:Int} (hn:I64 n):I64 (nearG n s):=by
 unfold nearG;split
 ·exact hn
 ·split
  ·exact q0ba hn
  ·exact q06u hn
end Go.EnvOf
