/- The program's functions and the document's, evaluated. -/
import Derived.Test.YtjjdmlpdgcdehaaGreatEngAll2
import Derived.Test.YtjjdmlpdgcdehaaGreatText2
set_option linter.unusedSimpArgs false
set_option linter.unusedVariables false
namespace Go.EnvOf
open Go Go.Eng
set_option maxRecDepth 100000
theorem okEl_upV: ∀(es:List Int),(upV (es.map encI)).all (okEl 1)=true
 |[]=>rfl
 |x::r=>by simp only [Zo,q04x,List.all_cons,okEl_upV r,Bool.and_true];rfl
theorem q0lz: ∀(l:List Int),readI (upV (l.map encI))=some l
 |[]=>rfl
 |x::r=>by
  have:=q0lz r
  simp only [Zo,q04x] at this⊢
  simp only [encI,Zo,ZL,readI,this]
theorem q0m0 (x:Int): ∀l,(insI x l).length=l.length+1
 |[]=>rfl
 |y::r=>by unfold insI;split<;>simp [q0m0 x r]
theorem isort_len: ∀l,(isort l).length=l.length
 |[]=>rfl
 |x::r=>by simp [isort,q0m0,isort_len r]
theorem q0xr (l:List Int):l.map intEl=upV (l.map encI):=by simp [upV,intEl,encI]
theorem q0u5 (H:Heap) (id tot off:Nat):clD EE (.p (.fn 376)) [.row id tot off 0] H=some (.tup [],none):=by
 rw [q0li _ _ _ _ _ q0lh];rfl
theorem q0xs (H:Heap) (l:List Int) (hl:l.length<most) (hne:l≠[]) (id:Nat) (h:Go.Eng.rowAt H id=some (1,upV (l.map encI))):clD EE (.p (.fn 376)) [.row id l.length 0 l.length] H=some (.tup [],some (H.set id (.row 1 (upV ((isort l).map encI))),[id])):=by
 obtain ⟨n,hn⟩: ∃n,l.length=n+1:=⟨l.length-1,by cases l;exact absurd rfl hne;simp⟩
 rw [q0li _ _ _ _ _ q0lh,hn]
 simp [sortP,sortR,h,q0lz,hn,hn▸hl,q0xr]
theorem q02d (c:Int): ∀(l:List Float) (i:Nat),(figOf c i l).length<=l.length
 |[],_=>by simp [figOf]
 |x::r,i=>by
  have:=q02d c r (i+1)
  simp only [figOf,Zt,Zg]
  split<;>simp<;>omega
def okU (n:Nat) (u w:Int):Prop:=0<=u/\0<=w/\u<=n/\w<=n-u
instance (n:Nat) (u w:Int):Decidable (okU n u w):=inferInstanceAs (Decidable (_/\_))
def seg (F:List Int) (u w:Int):List Int:=(F.drop u.toNat).take w.toNat
theorem q0Bn {F:List Int} {u w:Int} (h:okU F.length u w):(seg F u w).length=w.toNat:=by
 unfold okU at h;unfold seg;rw [ZC,List.length_drop];omega
theorem q0Bo (F:List Int) (u w:Int) (h:okU F.length u w) (H:Heap):slcI H 1 (sli F) (some (vI u)) (some (vI (u+w)))=some (sli (seg F u w)):=by
 unfold okU at h
 have e:(u+w-u).toNat=w.toNat:=by omega
 have c:0<=u/\u<=u+w/\u+w<=F.length:=by omega
 have hh:q066 1 (F.map encI)=true:=by cases F<;>rfl
 have g:(u:Int)<=u+w:=by omega
 have g2:u+w<=(F.length:Int):=by omega
 simp [slcI,slcV,seg,e,hh,h.1,g,g2,h.2.1,List.map_take,List.map_drop]
def tkE (l:List Float) (x y:C3) (H:Heap) (d:List Nat) (out:List Int) (i:Nat):St:=
 ⟨[(0,q005 l),(4,.lptr 4 0),(5,.lptr 5 0),(8,.row H.length out.length 0 out.length),(11,vI i)],[(4,[vI x.a,vI x.b,vI x.c]),(5,[vI y.a,vI y.b,vI y.c])],H++[.row 1 (upV (out.map encI))],H.length,d⟩
def tkB (H:Heap) (d:List Nat) (out:List Int):Ex×St:=(.ret,⟨[(6,.nils),(7,vB false)],[],H++[.row 1 (upV (out.map encI))],H.length,d⟩)
def tkX (l:List Float) (x y:C3) (H:Heap) (d:List Nat) (out:List Int):Ex×St:=
 (.exit 0,⟨[(0,q005 l),(4,.lptr 4 0),(5,.lptr 5 0),(8,.row H.length out.length 0 out.length),(11,vI 3),(12,vB false)],[(4,[vI x.a,vI x.b,vI x.c]),(5,[vI y.a,vI y.b,vI y.c])],H++[.row 1 (upV (out.map encI))],H.length,d⟩)
def tkS (l:List Float) (bad:List Int->Ex×St) (out:List Int) (i:Nat) (p:Int×Int):List Int⊕(Ex×St):=if okU (figOf i 0 l).length p.1 p.2 then .inl (out++seg (figOf i 0 l) p.1 p.2) else .inr (bad out)
set_option maxHeartbeats 2000000 in
theorem q0Bp (l:List Float) (x y:C3) (H:Heap) (d:List Nat) (hl:l.length<=100000):
  evD EE q0Wk (tkE l x y H d [] 0)=some (rng (tkS l (tkB H d)) (tkX l x y H d) [] 0 [(x.a,y.a),(x.b,y.b),(x.c,y.c)]):=by
 unfold q0Wk
 refine q013 [(x.a,y.a),(x.b,y.b),(x.c,y.c)] (tkE l x y H d) (fun out i=>out.length<=100000*i) (tkS l (tkB H d)) (tkX l x y H d) (fun _ _=>rfl) ?_ ?_ [] 0 (by simp) (Zj _)
 ·intro out i p hi hp
  have hlt:i<3:=(Za.1 hp).1
  have hF:=q02d i l 0
  have hm:out.length+100000<most:=by unfold most;omega
  unfold tkS
  have hf:=fun H=>q0xo l i H (by omega)
  generalize figOf i 0 l=F at*
  obtain ⟨u,w⟩:=p
  simp only
  have w1:IntKind.i64.wrap 1=1:=by decide
  have w2:IntKind.i64.wrap 2=2:=by decide
  have w3:IntKind.i64.wrap 3=3:=by decide
  by_cases hok:okU F.length u w
  ·rw [if_pos hok]
   have hs:=q0Bo F u w hok
   have hsl:=q0Bn hok
   obtain ⟨a1,a2,a3,a4⟩:=id hok
   have wu:IntKind.i64.wrap (u+w)=u+w:=w64 (by omega) (by omega)
   have wn:IntKind.i64.wrap ((F.length:Int)-u)=(F.length:Int)-u:=w64 (by omega) (by omega)
   have b1: ¬u<0:=by omega
   have b2: ¬w<0:=by omega
   have b3: ¬(F.length:Int)<u:=by omega
   have b4: ¬(F.length:Int)-u<w:=by omega
   have hmm:out.length+(seg F u w).length<most:=by omega
   refine ⟨?_,by rw [Zt];omega⟩
   match i,hlt with
   |0,_|1,_|2,_=>
    simp at hp hf
    obtain ⟨rfl,rfl⟩:=hp
    simp (config:= {maxSteps:=2000000}) [tkE,ixaV,subs,hf,hs,wu,wn,w1,w2,w3,b1,b2,b3,b4,okEl_upV,hmm]
  ·rw [if_neg hok]
   refine ⟨?_,by simp [tkB]⟩
   have wn:0<=u->u<=F.length->IntKind.i64.wrap ((F.length:Int)-u)=(F.length:Int)-u:=fun _ _=>w64 (by omega) (by omega)
   match i,hlt with
   |0,_|1,_|2,_=>
    simp at hp hf
    obtain ⟨e1,e2⟩:=hp
    by_cases c1:u<0
    ·simp [tkE,tkB,ixaV,subs,hf,wn,e1,e2,c1]
    by_cases c2:w<0
    ·simp [tkE,tkB,ixaV,subs,hf,wn,e1,e2,c1,c2]
    by_cases c3:(F.length:Int)<u
    ·simp [tkE,tkB,ixaV,subs,hf,wn,e1,e2,c1,c2,c3]
    have wn:=wn (by omega) (by omega)
    have c4:(F.length:Int)-u<w:=by unfold okU at hok;omega
    simp [tkE,tkB,ixaV,subs,hf,wn,e1,e2,c1,c2,c3,c4]
 ·intro out hi
  refine ⟨?_,by simp [tkX]⟩
  simp [tkE,tkX]
def okT (l:List Float) (x y:C3):Prop:=okU (figOf 0 0 l).length x.a y.a/\okU (figOf 1 0 l).length x.b y.b/\okU (figOf 2 0 l).length x.c y.c
instance (l:List Float) (x y:C3):Decidable (okT l x y):=inferInstanceAs (Decidable (_/\_))
def raw (l:List Float) (x y:C3):List Int:=seg (figOf 0 0 l) x.a y.a++seg (figOf 1 0 l) x.b y.b++seg (figOf 2 0 l) x.c y.c
def takeL (l:List Float) (x y:C3):List Int:=isort (raw l x y)
theorem q0m1 (F:List Int) (u w:Int):(seg F u w).length<=F.length:=by unfold seg;rw [ZC,List.length_drop];omega
theorem q0pa (l:List Float) (x y:C3):(raw l x y).length<=3*l.length:=by
 have h0:=q0m1 (figOf 0 0 l) x.a y.a
 have h1:=q0m1 (figOf 1 0 l) x.b y.b
 have h2:=q0m1 (figOf 2 0 l) x.c y.c
 have g0:=q02d 0 l 0
 have g1:=q02d 1 l 0
 have g2:=q02d 2 l 0
 unfold raw
 simp only [Zt]
 omega
def vTake (l:List Float) (x y:C3):V:=if okT l x y then .tup [sli (takeL l x y),vB true] else .tup [sli [],vB false]
theorem q0pb (l:List Float) (x y:C3) (H:Heap) (hl:l.length<=100000):clD EE (.p (.fn 331)) [q005 l,vC x,vC y] H=some (vTake l x y,none):=by
 rw [q002 _ _ _ _ _ _ (noP _) fn331]
 have key:=q0Bp l x y H [] hl
 simp only [rng,tkS,Zf] at key
 unfold vTake takeL
 have w0:((0:Nat):Int)=0:=rfl
 have w1:((0+1:Nat):Int)=1:=rfl
 have w2:((0+1+1:Nat):Int)=2:=rfl
 rw [w0,w1,w2] at key
 have hr:=q0pa l x y
 by_cases h:okT l x y
 ·obtain ⟨h0,h1,h2⟩:=id h
  simp only [if_pos h0,if_pos h1,if_pos h2] at key
  have e:seg (figOf 0 0 l) x.a y.a++seg (figOf 1 0 l) x.b y.b++seg (figOf 2 0 l) x.c y.c=raw l x y:=rfl
  rw [e] at key
  rw [if_pos h]
  generalize raw l x y=R at*
  simp [tkE,tkX] at key
  by_cases hne:R=[]
  ·subst hne
   have hn:=fun H id tot off=>q0u5 H id tot off
   simp at key
   simp [zEc,key,hn,isort,idsK,frzK,allO]
  ·have hn:=fun H=>q0xs H R (by unfold most;omega) hne
   have hl:=isort_len R
   simp [zEc,key,hn,hl,Zy]
 ·rw [if_neg h]
  have kb: ∃out:List Int,evD EE q0Wk (tkE l x y H [] [] 0)=some (tkB H [] out):=by
   rw [key]
   by_cases h0:okU (figOf 0 0 l).length x.a y.a
   ·by_cases h1:okU (figOf 1 0 l).length x.b y.b
    ·have h2: ¬okU (figOf 2 0 l).length x.c y.c:=fun h2=>h ⟨h0,h1,h2⟩
     simp only [if_pos h0,if_pos h1,if_neg h2]
     exact ⟨_,rfl⟩
    ·simp only [if_pos h0,if_neg h1]
     exact ⟨_,rfl⟩
   ·simp only [if_neg h0]
    exact ⟨_,rfl⟩
  obtain ⟨out,kb⟩:=kb
  clear key
  simp [tkE,tkB] at kb
  simp [zEc,kb]
def atF (l:List Float) (i:Int):Option Float:=if 0<=i/\i<l.length then some (rd l i) else none
theorem at_ev (l:List Float) (i:Int) (H:Heap):clD EE (.p (.fn 136)) [q005 l,vI i] H=some (.tup [match atF l i with|some f=>q03v f|none=> .agg [vI 0,vI 0,vI 0],vB (atF l i).isSome],none):=by
 rw [q002 _ _ _ _ _ _ (noP _) fn136]
 unfold atF
 by_cases h1:i<0
 ·simp [zEc,h1,show¬0<=i by omega]
 by_cases h2:(l.length:Int)<=i
 ·simp [zEc,h1,h2,show¬i<l.length by omega]
 have hx:=q026 l i (by omega) (by omega)
 have hix:=fun H k=>q024 H q009 (k:=k) (s:=3) (by omega) hx rfl
 simp [zEc,h1,h2,show 0<=i/\i<l.length by omega,hix,q009]
def bump (s:C3) (c:Int):C3:=if c=0 then ⟨s.a+1,s.b,s.c⟩ else if c=1 then ⟨s.a,s.b+1,s.c⟩ else if c=2 then ⟨s.a,s.b,s.c+1⟩ else s
def ofS (l:List Float) (s:C3) (x:Int):C3:=match atF l x with|some f=>bump s f.c|none=>s
def ofL (l:List Float) (xs:List Int):C3:=xs.foldl (ofS l) ⟨0,0,0⟩
def ofE (l:List Float) (xs:List Int) (H:Heap) (s:C3) (i:Nat):St:=
 ⟨[(0,q005 l),(4,.lptr 4 0),(5,.lptr 5 0),(10,sli xs),(11,vI xs.length),(12,vI i)],[(4,[vI 0,vI 0,vI 0]),(5,[vI s.a,vI s.b,vI s.c])],H,H.length,[]⟩
def ofX (l:List Float) (xs:List Int) (H:Heap) (s:C3):Ex×St:=
 (.exit 0,⟨[(0,q005 l),(4,.lptr 4 0),(5,.lptr 5 0),(10,sli xs),(11,vI xs.length),(12,vI xs.length),(13,vB false)],[(4,[vI 0,vI 0,vI 0]),(5,[vI s.a,vI s.b,vI s.c])],H,H.length,[]⟩)
theorem of_lp (l:List Float) (xs:List Int) (H:Heap) (hl:l.length<=100000) (hx:xs.length<=9223372036854775807):
  evD EE q0Ww (ofE l xs H ⟨0,0,0⟩ 0)=some (ofX l xs H (ofL l xs)):=by
 have hf: ∀(xs:List Int) (s:C3) (i:Nat),fold (fun s _ x=>ofS l s x) s i xs=xs.foldl (ofS l) s:=by
  intro xs
  induction xs with
  |nil=>intro s i;rfl
  |cons x r ih=>intro s i;simp only [fold,ZT,ih]
 unfold ofL
 rw [<-hf xs ⟨0,0,0⟩ 0]
 unfold q0Ww
 refine Eq.trans (q00u xs (ofE l xs H) (fun s i=>(0<=s.a/\s.a<=i)/\(0<=s.b/\s.b<=i)/\(0<=s.c/\s.c<=i)) (fun s _ x=>ofS l s x) (ofX l xs H) (fun _ _=>rfl) ?_ ?_ ⟨0,0,0⟩ 0 (by simp) (Zj _)) (by rw [ZG])
 ·intro s i x hi hp
  have hlt:=(Za.1 hp).1
  have hix:=fun H k=>q00c H encI (k:=k) (s:=1) hp rfl
  have ha:=fun H=>at_ev l x H
  have w:IntKind.i64.wrap ((i:Int)+1)=((i+1:Nat):Int):=w64 (by omega) (by omega)
  have wa:IntKind.i64.wrap (s.a+1)=s.a+1:=w64 (by omega) (by omega)
  have wb:IntKind.i64.wrap (s.b+1)=s.b+1:=w64 (by omega) (by omega)
  have wc:IntKind.i64.wrap (s.c+1)=s.c+1:=w64 (by omega) (by omega)
  unfold ofS
  cases hat:atF l x with
  |none=>
   rw [hat] at ha
   refine ⟨?_,by simp only;omega⟩
   simp [ofE,hlt,hix,encI,subs,q001,ha,w]
  |some f=>
   rw [hat] at ha
   obtain ⟨f1,f2,f3⟩:=f
   simp only at ha⊢
   unfold bump
   by_cases c1:f1<0
   ·rw [if_neg (by omega),if_neg (by omega),if_neg (by omega)]
    refine ⟨?_,by omega⟩
    simp [ofE,hlt,hix,encI,subs,q001,ha,w,show¬0<=f1 by omega]
   by_cases c2:3<=f1
   ·rw [if_neg (by omega),if_neg (by omega),if_neg (by omega)]
    refine ⟨?_,by omega⟩
    simp [ofE,hlt,hix,encI,subs,q001,ha,w,show 0<=f1 by omega,show¬f1<3 by omega]
   have c:f1=0\/f1=1\/f1=2:=by omega
   rcases c with rfl|rfl|rfl
   ·refine ⟨?_,by simp;omega⟩
    simp [ofE,hlt,hix,encI,subs,q001,ixaV,ha,w,wa]
   ·refine ⟨?_,by simp;omega⟩
    simp [ofE,hlt,hix,encI,subs,q001,ixaV,ha,w,wb]
   ·refine ⟨?_,by simp;omega⟩
    simp [ofE,hlt,hix,encI,subs,q001,ixaV,ha,w,wc]
 ·intro s hi
  refine ⟨?_,by simp [ofX]⟩
  simp [ofE,ofX]
theorem q0Xn (l:List Float) (xs:List Int) (H:Heap) (hl:l.length<=100000) (hx:xs.length<=9223372036854775807):clD EE (.p (.fn 169)) [q005 l,sli xs] H=some (vC (ofL l xs),none):=by
 rw [q002 _ _ _ _ _ _ (noP _) fn169]
 have key:=of_lp l xs H hl hx
 simp [ofE,ofX] at key
 simp [zEc,key]
def qB (H:Heap):Ex×St:=(.ret,⟨[(4,vB false)],[],H,H.length,[]⟩)
def nextQ (l:List Float) (x:C3) (p:List Int):Bool:=decide (okT l x (ofL l p))&&decide (takeL l x (ofL l p)=p)
theorem q0m2 (p:Int->Bool) (x:Int): ∀l,(insI x l).countP p=(x::l).countP p
 |[]=>rfl
 |y::r=>by
  unfold insI
  split
  ·rfl
  ·have:=q0m2 p x r
   simp only [List.countP_cons] at this⊢
   omega
theorem q0ii (p:Int->Bool): ∀l,(isort l).countP p=l.countP p
 |[]=>rfl
 |x::r=>by
  simp only [isort,q0m2,List.countP_cons,q0ii p r]
theorem q0d3 (z:Int) (l:List Int):(isort l).count z=l.count z:=q0ii _ l
theorem q0m3 {x y:Int}: ∀ {l:List Int},y∈insI x l->y=x\/y∈l
 |[],h=>by simp [insI] at h;exact .inl h
 |z::r,h=>by
  unfold insI at h
  split at h
  ·simpa using h
  ·simp only [ZI] at h⊢
   rcases h with h|h
   ·exact .inr (.inl h)
   ·rcases q0m3 h with h|h
    ·exact .inl h
    ·exact .inr (.inr h)
theorem insI_sorted (x:Int): ∀l:List Int,l.Pairwise (· <= ·)->(insI x l).Pairwise (· <= ·)
 |[],_=>by simp [insI]
 |y::r,h=>by
  unfold insI
  obtain ⟨h1,h2⟩:=ZW.1 h
  split
  ·rename_i hxy
   refine ZW.2 ⟨fun z hz=> ?_,h⟩
   rcases ZI.1 hz with rfl|hz
   ·exact hxy
   ·have:=h1 z hz;omega
  ·rename_i hxy
   refine ZW.2 ⟨fun z hz=> ?_,insI_sorted x r h2⟩
   rcases q0m3 hz with rfl|hz
   ·omega
   ·exact h1 z hz
theorem isort_sorted: ∀l:List Int,(isort l).Pairwise (· <= ·)
 |[]=> .nil
 |x::r=>insI_sorted x _ (isort_sorted r)
theorem q0u7: ∀ {l:List Int},l.Pairwise (· <= ·)->(∀z,l.count z<=1)->l.Pairwise (· < ·)
 |[],_,_=> .nil
 |x::r,h,hc=>by
  obtain ⟨h1,h2⟩:=ZW.1 h
  refine ZW.2 ⟨fun z hz=> ?_,q0u7 h2 fun z=> ?_⟩
  ·have h3:=h1 z hz
   have h4:x≠z:=by
    rintro rfl
    have h5:=hc x
    have h6:=List.count_pos_iff.2 hz
    rw [List.count_cons_self] at h5
    omega
   omega
  ·have:=hc z
   rw [List.count_cons] at this
   omega
def hitC (c:Int) (i:Nat) (l:List Float) (z:Int):Bool:=decide ((i:Int)<=z)&&decide (z<i+l.length)&&decide ((rd l (z-i)).c=c)
theorem q0Bq {α:Type} [Inhabited α] (x:α) (r:List α) (k:Int) (h:0<k):rd (x::r) k=rd r (k-1):=by
 unfold rd
 have e:k.toNat=(k-1).toNat+1:=by omega
 rw [e];simp
theorem q0Br {α:Type} [Inhabited α] (x:α) (r:List α):rd (x::r) 0=x:=rfl
theorem q0ij (c z:Int): ∀(l:List Float) (i:Nat),(figOf c i l).count z=if hitC c i l z=true then 1 else 0
 |[],i=>by
  have:hitC c i [] z=false:=by unfold hitC;simp;intros;omega
  simp [figOf,this]
 |x::r,i=>by
  have ih:=q0ij c z r (i+1)
  simp only [figOf,List.count_append,ih]
  by_cases hz:z=i
  ·subst hz
   have e:hitC c (i+1) r i=false:=by unfold hitC;simp;intros;omega
   have e2:hitC c i (x::r) i=decide (x.c=c):=by
    unfold hitC
    rw [Int.sub_self,q0Br]
    simp;intros;omega
   rw [e,e2]
   by_cases hc:x.c=c<;>simp [hc]
  ·have e2:hitC c i (x::r) z=hitC c (i+1) r z:=by
    unfold hitC
    by_cases h1:(i:Int)<z
    ·rw [q0Bq x r (z-i) (by omega)]
     have a1:z-(i:Int)-1=z-((i+1:Nat):Int):=by omega
     rw [a1]
     congr 2
     ·simp;constructor<;>intros<;>omega
     ·simp only [Zg];congr 1;apply propext;constructor<;>intros<;>omega
    ·have a1: ¬(i:Int)<=z:=by omega
     have a2: ¬((i+1:Nat):Int)<=z:=by omega
     simp only [a1,a2,decide_false,Bool.false_and]
   rw [e2]
   have:((if x.c=c then [(i:Int)] else []):List Int).count z=0:=by
    split
    ·simp [List.count_cons];omega
    ·rfl
   omega
theorem q0dt {c d i z} {l:List Float} (h1:hitC c i l z=true) (h2:hitC d i l z=true):c=d:=by
 unfold hitC at h1 h2;simp at h1 h2;omega
theorem q0h1 (F:List Int) (u w:Int):(seg F u w).Sublist F:=(List.take_sublist _ _).trans (List.drop_sublist _ _)
theorem q0Zq {c:Int} {l:List Float} {u w x:Int} (h:x∈seg (figOf c 0 l) u w):hitC c 0 l x=true:=by
 have h1:=List.count_pos_iff.2 ((q0h1 _ _ _).mem h)
 rw [q0ij] at h1
 split at h1
 ·assumption
 ·omega
theorem q0Bs (l:List Float) (x y:C3) (z:Int):(raw l x y).count z<=1:=by
 unfold raw
 simp only [List.count_append]
 have h0:=(q0h1 (figOf 0 0 l) x.a y.a).count_le z
 have h1:=(q0h1 (figOf 1 0 l) x.b y.b).count_le z
 have h2:=(q0h1 (figOf 2 0 l) x.c y.c).count_le z
 rw [q0ij] at h0 h1 h2
 have c01:= @q0dt 0 1 0 z l
 have c02:= @q0dt 0 2 0 z l
 have c12:= @q0dt 1 2 0 z l
 cases e0:hitC 0 0 l z<;>cases e1:hitC 1 0 l z<;>cases e2:hitC 2 0 l z<;>simp [e0,e1,e2] at h0 h1 h2 c01 c02 c12<;>omega
theorem q0m4 (l:List Float) (x y:C3):(takeL l x y).Pairwise (· < ·):=
 q0u7 (isort_sorted _) fun z=>by unfold takeL;rw [q0d3];exact q0Bs l x y z
theorem q0Zf (l:List Float): ∀(xs:List Int) (s:C3),xs.foldl (ofS l) s=⟨s.a+xs.countP (hitC 0 0 l),s.b+xs.countP (hitC 1 0 l),s.c+xs.countP (hitC 2 0 l)⟩
 |[],s=>by simp
 |x::r,s=>by
  rw [ZT,q0Zf l r]
  simp only [List.countP_cons]
  unfold ofS atF hitC bump
  by_cases h:0<=x/\x<l.length
  ·rw [if_pos h]
   have h1:decide (((0:Nat):Int)<=x)=true:=by simpa using h.1
   have h2:decide (x<((0:Nat):Int)+l.length)=true:=by simpa using h.2
   have h3:x-((0:Nat):Int)=x:=by omega
   simp only [h1,h2,h3,ZV,decide_eq_true_eq]
   generalize (rd l x).c=c
   by_cases c0:c=0
   ·subst c0;simp;omega
   by_cases c1:c=1
   ·subst c1;simp;omega
   by_cases c2:c=2
   ·subst c2;simp;omega
   simp [c0,c1,c2]
  ·rw [if_neg h]
   have h':(0<=x/\x<(l.length:Int))=False:=eq_false h
   simp [h']
theorem q10t (c:Int) (l:List Float) (u w:Int):(seg (figOf c 0 l) u w).countP (hitC c 0 l)=(seg (figOf c 0 l) u w).length:=List.countP_eq_length.2 fun _ h=>q0Zq h
theorem q0Xz {c d:Int} (l:List Float) (u w:Int) (h:c≠d):(seg (figOf c 0 l) u w).countP (hitC d 0 l)=0:=List.countP_eq_zero.2 fun _ hx hd=>h (q0dt (q0Zq hx) hd)
theorem q0Zg (l:List Float) (x y:C3) (h:okT l x y):ofL l (takeL l x y)=y:=by
 obtain ⟨h0,h1,h2⟩:=h
 have s0:=q0Bn h0
 have s1:=q0Bn h1
 have s2:=q0Bn h2
 unfold okU at h0 h1 h2
 obtain ⟨a,b,c⟩:=y
 simp only at*
 unfold ofL takeL
 rw [q0Zf]
 simp only [q0ii]
 unfold raw
 simp only [List.countP_append,q10t,q0Xz l _ _ (show (0:Int)≠1 by decide),q0Xz l _ _ (show (0:Int)≠2 by decide),q0Xz l _ _ (show (1:Int)≠0 by decide),q0Xz l _ _ (show (1:Int)≠2 by decide),q0Xz l _ _ (show (2:Int)≠0 by decide),q0Xz l _ _ (show (2:Int)≠1 by decide),s0,s1,s2]
 simp only [C3.mk.injEq]
 omega
theorem q10h (l:List Float) (x y:C3) (h:okT l x y):nextQ l x (takeL l x y)=true:=by
 unfold nextQ
 rw [q0Zg l x y h]
 simp [h]
def plus (x y:C3):C3:=⟨x.a+y.a,x.b+y.b,x.c+y.c⟩
theorem q118 {x y:C3} (ha:0<=x.a/\x.a<=100000) (hb:0<=x.b/\x.b<=100000) (hc:0<=x.c/\x.c<=100000) (ya:0<=y.a/\y.a<=100000) (yb:0<=y.b/\y.b<=100000) (yc:0<=y.c/\y.c<=100000):addC x y=plus x y:=by
 unfold addC zipF plus
 simp only [held,big,C3.mk.injEq]
 omega
theorem q0Z2 {l:List Float} {x y:C3} (hl:l.length<=100000) (h:okT l x y):addC x y=plus x y:=by
 obtain ⟨h0,h1,h2⟩:=h
 unfold okU at h0 h1 h2
 have g0:=q02d 0 l 0
 have g1:=q02d 1 l 0
 have g2:=q02d 2 l 0
 exact q118 (by omega) (by omega) (by omega) (by omega) (by omega) (by omega)
def bitV (n m:Int):Int:=IntKind.i64.wrap (BitVec.ofInt 64 n&&&BitVec.ofInt 64 m).toNat
def bitB (m n:Int):Bool:= !decide (bitV n m=0)
def topB (x:Float):Bool:=bitB 1 x.w
def botB (x:Float):Bool:=bitB 2 x.w
abbrev fz:Int:=1125899906842624
def hz (n:Int):Int:=min (max n 0) fz
def hiS (l:List Float) (sep:Int) (s:Int) (x:Int):Int:=match atF l x with|some f=>hz (s+hz f.h+hz sep)|none=>s
def highQ (l:List Float) (xs:List Int) (sep:Int):Int:=xs.foldl (hiS l sep) 0
def mayAt (p:Float->Bool) (l:List Float) (x:Int):Bool:=match atF l x with|some f=>p f|none=>false
def fitsF (many maxH:Int) (p:Float->Bool) (sep:Int) (l:List Float) (xs:List Int):Bool:=
 decide ((xs.length:Int)<=many)&&(xs.all (mayAt p l)&&decide (highQ l xs sep<=maxH))
def fitT (g:Geom) (l:List Float) (xs:List Int):Bool:=fitsF g.topMany g.topMost topB g.sep l xs
def fitB (g:Geom) (l:List Float) (xs:List Int):Bool:=fitsF g.botMany g.botMost botB g.sep l xs
abbrev Pr:Type:=List Int×List Int
def encP (p:Pr):List PV:=[.sl (p.1.map encI),.sl (p.2.map encI)]
@[simp] theorem q0R0 (x:Pr):(encP x).length=2:=rfl
end Go.EnvOf
namespace Go.EnvOf
open Go Go.Eng
set_option maxRecDepth 100000
abbrev zC:C3:=⟨0,0,0⟩
theorem q0Ya (l:List Float) (h:C3):takeL l h zC=[]:=by
 unfold takeL raw seg
 simp [isort]
def addF (a b:Int):Option Int:=if-9223372036854775808<=a+b/\a+b<=9223372036854775807 then some (a+b) else none
def subF (a b:Int):Option Int:=if-9223372036854775808<=a-b/\a-b<=9223372036854775807 then some (a-b) else none
def upF (a s:Int):Option Int:=if s<1 then none else if a%s=0 then some a else addF a (s-a%s)
def downF (a s:Int):Option Int:=if s<1 then none else subF a (a%s)
def resV:Option Int->V
 |some a=> .agg [vI a,vB true]
 |none=> .agg [vI 0,vB false]
def resT:Option Int->V
 |some a=> .tup [vI a,vB true]
 |none=> .tup [vI 0,vB false]
theorem q0pf {n:Int} (h0:9223372036854775808<=n) (h1:n<=27670116110564327423):IntKind.wrap .i64 n=n-18446744073709551616:=by
 unfold IntKind.wrap;simp [IntKind.bits,IntKind.signed];omega
theorem q0pg {n:Int} (h0:n<= -9223372036854775809) (h1: -27670116110564327424<=n):IntKind.wrap .i64 n=n+18446744073709551616:=by
 unfold IntKind.wrap;simp [IntKind.bits,IntKind.signed];omega
theorem q06t (a s:Int) (hs:1<=s):(if a.tmod s<0 then a.tmod s+s else a.tmod s)=a%s:=by
 have h1:=Int.emod_nonneg a (show s≠0 by omega)
 have h2:=Int.emod_lt_of_pos a (show 0<s by omega)
 have:=Int.tmod_eq_emod (a:=a) (b:=s)
 rw [this]
 split<;>split<;>omega
theorem q0u8 (a b:Int) (H:Heap) (ha:I64 a) (hb:I64 b):clD EE (.p (.fn 241)) [vI a,vI b] H=some (resT (addF a b),none):=by
 rw [q002 _ _ _ _ _ _ (noP _) fn241]
 unfold addF
 by_cases h1:9223372036854775807<a+b
 ·have w:=q0pf (n:=a+b) (by omega) (by omega)
  have c1: ¬a<a+b-18446744073709551616:=by omega
  have c2:0<b:=by omega
  have c3:b≠0:=by omega
  have c4: ¬(-9223372036854775808<=a+b/\a+b<=9223372036854775807):=by omega
  simp [zEa,resT,w,c1,c2,c3,c4]
 ·by_cases h2:a+b< -9223372036854775808
  ·have w:=q0pg (n:=a+b) (by omega) (by omega)
   have c1:a<a+b+18446744073709551616:=by omega
   have c2: ¬0<b:=by omega
   have c3:b≠0:=by omega
   have c4: ¬(-9223372036854775808<=a+b/\a+b<=9223372036854775807):=by omega
   simp [zEa,resT,w,c1,c2,c3,c4]
  ·have w:=w64 (n:=a+b) (by omega) (by omega)
   have c1:(a<a+b)=(0<b):=by rw [eq_iff_iff];omega
   have c4: -9223372036854775808<=a+b/\a+b<=9223372036854775807:=by omega
   simp [zEa,resT,w,c1,c4]
theorem q0u9 (a b:Int) (H:Heap) (ha:I64 a) (hb:I64 b):clD EE (.p (.fn 320)) [vI a,vI b] H=some (resT (subF a b),none):=by
 rw [q002 _ _ _ _ _ _ (noP _) fn320]
 unfold subF
 by_cases h1:9223372036854775807<a-b
 ·have w:=q0pf (n:=a-b) (by omega) (by omega)
  have c1:a-b-18446744073709551616<a:=by omega
  have c2: ¬0<b:=by omega
  have c3:b≠0:=by omega
  have c4: ¬(-9223372036854775808<=a-b/\a-b<=9223372036854775807):=by omega
  simp [zEa,resT,w,c1,c2,c3,c4]
 ·by_cases h2:a-b< -9223372036854775808
  ·have w:=q0pg (n:=a-b) (by omega) (by omega)
   have c1: ¬a-b+18446744073709551616<a:=by omega
   have c2:0<b:=by omega
   have c3:b≠0:=by omega
   have c4: ¬(-9223372036854775808<=a-b/\a-b<=9223372036854775807):=by omega
   simp [zEa,resT,w,c1,c2,c3,c4]
  ·have w:=w64 (n:=a-b) (by omega) (by omega)
   have c1:(a-b<a)=(0<b):=by rw [eq_iff_iff];omega
   have c4: -9223372036854775808<=a-b/\a-b<=9223372036854775807:=by omega
   simp [zEa,resT,w,c1,c4]
theorem q0Bx (a b:Int) (H:Heap) (ha:I64 a) (hb:I64 b):clD EE (.p (.fn 324)) [vI a,vI b] H=some (resV (addF a b),none):=by
 rw [q002 _ _ _ _ _ _ (noP _) fn324]
 unfold addF
 by_cases c:0<b
 ·have w:=w64 (n:=9223372036854775807-b) (by omega) (by omega)
  have c2: ¬b<0:=by omega
  by_cases h1:9223372036854775807-b<a
  ·have c4: ¬(-9223372036854775808<=a+b/\a+b<=9223372036854775807):=by omega
   simp [zEa,resV,subs,q001,w,c,c2,h1,c4]
  ·have c4: -9223372036854775808<=a+b/\a+b<=9223372036854775807:=by omega
   have w2:=w64 (n:=a+b) (by omega) (by omega)
   simp [zEa,resV,subs,q001,w,w2,c,c2,h1,c4]
 ·by_cases c2:b<0
  ·have w:=w64 (n:= -9223372036854775808-b) (by omega) (by omega)
   by_cases h1:a< -9223372036854775808-b
   ·have c4: ¬(-9223372036854775808<=a+b/\a+b<=9223372036854775807):=by omega
    simp [zEa,resV,subs,q001,w,c,c2,h1,c4]
   ·have c4: -9223372036854775808<=a+b/\a+b<=9223372036854775807:=by omega
    have w2:=w64 (n:=a+b) (by omega) (by omega)
    simp [zEa,resV,subs,q001,w,w2,c,c2,h1,c4]
  ·have e:b=0:=by omega
   subst e
   have w2:=w64 (n:=a) (by omega) (by omega)
   simp [zEa,resV,subs,q001,w2,ha.1,ha.2]
theorem q0By (a b:Int) (H:Heap) (ha:I64 a) (hb:I64 b):clD EE (.p (.fn 323)) [vI a,vI b] H=some (resV (subF a b),none):=by
 rw [q002 _ _ _ _ _ _ (noP _) fn323]
 unfold subF
 by_cases c:0<b
 ·have w:=w64 (n:= -9223372036854775808+b) (by omega) (by omega)
  have c2: ¬b<0:=by omega
  by_cases h1:a< -9223372036854775808+b
  ·have c4: ¬(-9223372036854775808<=a-b/\a-b<=9223372036854775807):=by omega
   simp [zEa,resV,subs,q001,w,c,c2,h1,c4]
  ·have c4: -9223372036854775808<=a-b/\a-b<=9223372036854775807:=by omega
   have w2:=w64 (n:=a-b) (by omega) (by omega)
   simp [zEa,resV,subs,q001,w,w2,c,c2,h1,c4]
 ·by_cases c2:b<0
  ·have w:=w64 (n:=9223372036854775807+b) (by omega) (by omega)
   by_cases h1:9223372036854775807+b<a
   ·have c4: ¬(-9223372036854775808<=a-b/\a-b<=9223372036854775807):=by omega
    simp [zEa,resV,subs,q001,w,c,c2,h1,c4]
   ·have c4: -9223372036854775808<=a-b/\a-b<=9223372036854775807:=by omega
    have w2:=w64 (n:=a-b) (by omega) (by omega)
    simp [zEa,resV,subs,q001,w,w2,c,c2,h1,c4]
  ·have e:b=0:=by omega
   subst e
   have w2:=w64 (n:=a) (by omega) (by omega)
   simp [zEa,resV,subs,q001,w2,ha.1,ha.2]
theorem q078 (a s:Int) (hs:1<=s):0<=a%s/\a%s<s:=⟨Int.emod_nonneg a (by omega),Int.emod_lt_of_pos a (by omega)⟩
theorem q08p (a s:Int) (hs:1<=s): -s<=a.tmod s/\a.tmod s<s:=by
 have h:=q06t a s hs
 have h2:=q078 a s hs
 split at h<;>omega
theorem q0m5 (a s:Int) (H:Heap) (hs:1<=s) (h2:I64 s):clD EE (.p (.fn 321)) [vI a,vI s] H=some (vI (a%s),none):=by
 rw [q002 _ _ _ _ _ _ (noP _) fn321]
 have h:=q06t a s hs
 have hb:=q08p a s hs
 have h0:s≠0:=by omega
 by_cases c:a.tmod s<0
 ·rw [if_pos c] at h
  have w:=w64 (n:=a%s) (by omega) (by omega)
  simp [zEa,h0,c,w,h]
 ·rw [if_neg c] at h
  rw [h] at c
  simp [zEa,h0,c,h]
theorem q0Bz (a s:Int) (H:Heap) (ha:I64 a) (hs:I64 s):clD EE (.p (.fn 235)) [vI a,vI s] H=some (resT (downF a s),none):=by
 rw [q002 _ _ _ _ _ _ (noP _) fn235]
 unfold downF
 by_cases c:s<1
 ·simp [zEa,c,resT]
 ·have h1:=q0m5 a s H (by omega) hs
  have hb:=q078 a s (by omega)
  have h2:=q0u9 a (a%s) H ha ⟨by omega,by omega⟩
  cases h3:subF a (a%s)<;>simp [h3,resT] at h2<;>simp [zEa,c,resT,h1,h2,h3]
theorem up_ev (a s:Int) (H:Heap) (ha:I64 a) (hs:I64 s):clD EE (.p (.fn 236)) [vI a,vI s] H=some (resT (upF a s),none):=by
 rw [q002 _ _ _ _ _ _ (noP _) fn236]
 unfold upF
 by_cases c:s<1
 ·simp [zEa,c,resT]
 ·have h1:=q0m5 a s H (by omega) hs
  have hb:=q078 a s (by omega)
  by_cases c2:a%s=0
  ·simp [zEa,c,resT,h1,c2]
  ·have w:=w64 (n:=s-a%s) (by omega) (by omega)
   have c3:0<a%s:=by omega
   have h2:=q0u8 a (s-a%s) H ha ⟨by omega,by omega⟩
   cases h3:addF a (s-a%s)<;>simp [h3,resT] at h2<;>simp [zEa,c,c2,c3,w,resT,h1,h2,h3]
theorem q0m6 (a s:Int) (H:Heap) (ha:I64 a) (hs:I64 s):clD EE (.p (.fn 244)) [vI a,vI s] H=some (resV (downF a s),none):=by
 rw [q002 _ _ _ _ _ _ (noP _) fn244]
 unfold downF
 by_cases c:s<1
 ·simp [zEa,c,resV,subs,q001]
 ·have h:=q06t a s (by omega)
  have hb:=q08p a s (by omega)
  have hb2:=q078 a s (by omega)
  have h0:s≠0:=by omega
  have h2:=q0By a (a%s) H ha ⟨by omega,by omega⟩
  by_cases c2:a.tmod s<0
  ·rw [if_pos c2] at h
   have w:=w64 (n:=a%s) (by omega) (by omega)
   cases h3:subF a (a%s)<;>simp [h3,resV] at h2<;>simp [zEa,c,resV,subs,q001,h0,c2,w,h,h2,h3]
  ·rw [if_neg c2] at h
   rw [h] at c2
   cases h3:subF a (a%s)<;>simp [h3,resV] at h2<;>simp [zEa,c,resV,subs,q001,h0,c2,h,h2,h3]
theorem q0ua (a s:Int) (H:Heap) (ha:I64 a) (hs:I64 s):clD EE (.p (.fn 245)) [vI a,vI s] H=some (resV (upF a s),none):=by
 rw [q002 _ _ _ _ _ _ (noP _) fn245]
 unfold upF
 by_cases c:s<1
 ·simp [zEa,c,resV,subs,q001]
 ·have h:=q06t a s (by omega)
  have hb:=q08p a s (by omega)
  have hb2:=q078 a s (by omega)
  have h0:s≠0:=by omega
  have w:=w64 (n:=s-a%s) (by omega) (by omega)
  have h2:=q0Bx a (s-a%s) H ha ⟨by omega,by omega⟩
  by_cases c3:a%s=0
  ·by_cases c2:a.tmod s<0
   ·rw [if_pos c2] at h
    have w:IntKind.i64.wrap 0=0:=w64 (by omega) (by omega)
    simp [zEa,c,resV,subs,q001,h0,c2,w,h,c3]
   ·rw [if_neg c2] at h
    rw [h] at c2
    simp [zEa,c,resV,subs,q001,h0,c2,h,c3]
  ·by_cases c2:a.tmod s<0
   ·rw [if_pos c2] at h
    have w3:=w64 (n:=a%s) (by omega) (by omega)
    cases h3:addF a (s-a%s)<;>simp [h3,resV] at h2<;>simp [zEa,c,resV,subs,q001,h0,c2,w,w3,h,h2,h3,c3]
   ·rw [if_neg c2] at h
    rw [h] at c2
    cases h3:addF a (s-a%s)<;>simp [h3,resV] at h2<;>simp [zEa,c,resV,subs,q001,h0,c2,w,h,h2,h3,c3]
def orN (o:Option Int) (n:Int):Int:=match o with|some a=>a|none=>n
def upG (n s:Int):Int:=orN (upF n s) n
def downG (n s:Int):Int:=orN (downF n s) n
def nearG (n s:Int):Int:=if s<1 then n else if n%s<s-n%s then downG n s else upG n s
theorem or_ev (f:FuncId) (o:Option Int) (n s:Int) (H:Heap) (h:clD EE (.p (.fn f)) [vI n,vI s] H=some (resT o,none)):clD EE (.p (.fn 234)) [vI n,vI s,.p (.fn f)] H=some (vI (orN o n),none):=by
 rw [q002 _ _ _ _ _ _ (noP _) fn234]
 cases o<;>simp [resT] at h<;>simp [zEa,h,orN]
theorem q0du (n s:Int) (H:Heap) (hn:I64 n) (hs:I64 s):clD EE (.p (.fn 131)) [vI n,vI s] H=some (vI (downG n s),none):=by
 rw [q002 _ _ _ _ _ _ (noP _) fn131]
 have h:=or_ev _ _ n s H (q0Bz n s H hn hs)
 simp [zEa,h,downG]
theorem q08q (n s:Int) (H:Heap) (hn:I64 n) (hs:I64 s):clD EE (.p (.fn 132)) [vI n,vI s] H=some (vI (upG n s),none):=by
 rw [q002 _ _ _ _ _ _ (noP _) fn132]
 have h:=or_ev _ _ n s H (up_ev n s H hn hs)
 simp [zEa,h,upG]
theorem q0xu (n s:Int) (H:Heap) (hn:I64 n) (hs:I64 s):clD EE (.p (.fn 233)) [vI n,vI s] H=some (vI (nearG n s),none):=by
 rw [q002 _ _ _ _ _ _ (noP _) fn233]
 unfold nearG
 by_cases c:s<1
 ·simp [zEa,c]
 ·have h:=q06t n s (by omega)
  have hb:=q08p n s (by omega)
  have hb2:=q078 n s (by omega)
  have h0:s≠0:=by omega
  have w:=w64 (n:=s-n%s) (by omega) (by omega)
  have h1:=q0du n s H hn hs
  have h2:=q08q n s H hn hs
  by_cases c2:n.tmod s<0
  ·rw [if_pos c2] at h
   have w3:=w64 (n:=n%s) (by omega) (by omega)
   by_cases c3:n%s<s-n%s<;>simp [zEa,c,c2,c3,h0,w,w3,h,h1,h2]
  ·rw [if_neg c2] at h
   rw [h] at c2
   by_cases c3:n%s<s-n%s<;>simp [zEa,c,c2,c3,h0,w,h,h1,h2]
theorem q0f8 (o:Option Int) (n:Int) (H:Heap):clD EE (.p (.fn 243)) [resV o,vI n] H=some (vI (orN o n),none):=by
 rw [q002 _ _ _ _ _ _ (noP _) fn243]
 cases o<;>simp [resV,zEb,orN]
theorem q0ik (n s:Int) (H:Heap) (hn:I64 n) (hs:I64 s):clD EE (.p (.fn 144)) [vI n,vI s] H=some (vI (downG n s),none):=by
 rw [q002 _ _ _ _ _ _ (noP _) fn144]
 have h:=q0m6 n s H hn hs
 have h2:=q0f8 (downF n s) n H
 cases ho:downF n s<;>simp only [ho,resV] at h h2<;>simp [zEa,h,h2,downG,ho]
theorem q08r (n s:Int) (H:Heap) (hn:I64 n) (hs:I64 s):clD EE (.p (.fn 145)) [vI n,vI s] H=some (vI (upG n s),none):=by
 rw [q002 _ _ _ _ _ _ (noP _) fn145]
 have h:=q0ua n s H hn hs
 have h2:=q0f8 (upF n s) n H
 cases ho:upF n s<;>simp only [ho,resV] at h h2<;>simp [zEa,h,h2,upG,ho]
theorem q0f9 (o:Option Int): ∃a b,resV o= .agg [vI a,vB b]:=by cases o<;>exact ⟨_,_,rfl⟩
theorem q0ub (n s:Int) (H:Heap) (hn:I64 n) (hs:I64 s):clD EE (.p (.fn 246)) [vI n,vI s] H=some (vI (nearG n s),none):=by
 rw [q002 _ _ _ _ _ _ (noP _) fn246]
 unfold nearG
 by_cases c:s<1
 ·simp [zEa,c]
 ·have h:=q06t n s (by omega)
  have hb:=q08p n s (by omega)
  have hb2:=q078 n s (by omega)
  have h0:s≠0:=by omega
  have w:=w64 (n:=s-n%s) (by omega) (by omega)
  have h1:=q0m6 n s H hn hs
  have h2:=q0ua n s H hn hs
  have g1:=q0f8 (downF n s) n H
  have g2:=q0f8 (upF n s) n H
  obtain ⟨a1,b1,e1⟩:=q0f9 (downF n s)
  obtain ⟨a2,b2,e2⟩:=q0f9 (upF n s)
  rw [e1] at h1 g1
  rw [e2] at h2 g2
  by_cases c2:n.tmod s<0
  ·rw [if_pos c2] at h
   have w3:=w64 (n:=n%s) (by omega) (by omega)
   by_cases c3:n%s<s-n%s
   ·simp [zEc,c,c2,c3,h0,w,w3,h,h1,h2,g1,downG]
   ·have c4:n%s≠0:=by omega
    simp [zEc,c,c2,c3,c4,h0,w,w3,h,h1,h2,g2,upG]
  ·rw [if_neg c2] at h
   rw [h] at c2
   by_cases c3:n%s<s-n%s
   ·simp [zEc,c,c2,c3,h0,w,h,h1,h2,g1,downG]
   ·have c4:n%s≠0:=by omega
    simp [zEc,c,c2,c3,c4,h0,w,h,h1,h2,g2,upG]
theorem q0ph {o:Option Int} {n:Int} (hn:I64 n) (h: ∀a,o=some a->I64 a):I64 (orN o n):=by
 cases o with
 |none=>exact hn
 |some a=>exact h a rfl
theorem q0xv {a b c:Int} (h:addF a b=some c):I64 c:=by unfold addF at h;split at h<;>simp at h;subst h;assumption
theorem q0xw {a b c:Int} (h:subF a b=some c):I64 c:=by unfold subF at h;split at h<;>simp at h;subst h;assumption
theorem q06u {n s:Int} (hn:I64 n):I64 (upG n s):=q0ph hn fun a h=>by
 unfold upF at h;split at h
 ·cases h
 ·split at h
  ·simp at h;subst h;exact hn
  ·exact q0xv h
theorem q0ba {n s:Int} (hn:I64 n):I64 (downG n s):=q0ph hn fun a h=>by
 unfold downF at h;split at h
 ·cases h
 ·exact q0xw h
theorem q0uc {n s:Int} (hn:I64 n):I64 (nearG n s):=by
 unfold nearG;split
 ·exact hn
 ·split
  ·exact q0ba hn
  ·exact q06u hn
def inR (lo hi:Int) (l:List Int):Bool:= !l.any fun x=>decide (x<lo)||decide (hi<x)
def wiE (x:V) (H:Heap) (p q:Nat) (n:Nat) (i:Nat):St:=⟨[(1,.ptr p 0),(2,.ptr q 0),(7,x),(8,vI n),(9,vI i)],[],H,H.length,[]⟩
def wiX (x:V) (H:Heap) (p q:Nat) (n:Nat):Ex×St:=(.exit 0,⟨[(1,.ptr p 0),(2,.ptr q 0),(7,x),(8,vI n),(9,vI n),(10,vB false)],[],H,H.length,[]⟩)
def wiB (H:Heap):Ex×St:=(.ret,⟨[(4,vB false)],[],H,H.length,[]⟩)
structure Reads (H:Heap) (x:V) (l:List Int):Prop where
 len:lenV x=some l.length
 at_: ∀(i:Nat) (v:Int),l[i]? =some v-> ∃a,ixsI H x (.p (.int .i64 (i:Int))) 1=some a/\ ∀env loc base dirty,q011 ⟨env,loc,H,base,dirty⟩ a 1=some [vI v]
theorem q05x (H:Heap) (l:List Int):Reads H (sli l) l:=⟨by simp,fun i v h=>⟨_,q00c H encI h rfl,fun _ _ _ _=>rfl⟩⟩
theorem q0ud (l:List Int) (hn:l.length<=1000000) (x:V) (H:Heap) (hx:Reads H x l) (p q:Nat) (lo hi:Int) (hp:Eng.boxAt H p=some [vI lo]) (hq:Eng.boxAt H q=some [vI hi]):
  evD EE q0Xc (wiE x H p q l.length 0)=some (if (l.any fun x=>decide (x<lo)||decide (hi<x))=true then wiB H else wiX x H p q l.length):=by
 unfold q0Xc
 refine Eq.trans (q013 l (fun (_:Unit) i=>wiE x H p q l.length i) (fun _ _=>True) (stepB (fun x=>decide (x<lo)||decide (hi<x)) (wiB H)) (fun _=>wiX x H p q l.length) (fun _ _=>rfl) ?_ ?_ () 0 trivial (Zj _)) (by rw [q043];rfl)
 ·rintro _ i v-hv
  have hlt:=(Za.1 hv).1
  have w1:IntKind.i64.wrap ((i:Int)+1)=((i+1:Nat):Int):=w64 (by omega) (by omega)
  obtain ⟨a,ha,hl⟩:=hx.at_ i v hv
  have e1:subs [vI lo] 0 1=some [vI lo]:=rfl
  have e2:subs [vI hi] 0 1=some [vI hi]:=rfl
  by_cases c1:v<lo
  ·simp [stepB,wiE,wiB,hlt,ha,hl,hp,hq,e1,e2,c1]
  ·by_cases c2:hi<v
   ·simp [stepB,wiE,wiB,hlt,ha,hl,hp,hq,e1,e2,c1,c2]
   ·simp [stepB,wiE,hlt,ha,hl,hp,hq,e1,e2,c1,c2,w1]
 ·rintro _-
  simp [wiE,wiX]
theorem q06m (l:List Int) (hn:l.length<=1000000) (x:V) (H:Heap) (hx:Reads H x l) (p q:Nat) (lo hi:Int) (hp:Eng.boxAt H p=some [vI lo]) (hq:Eng.boxAt H q=some [vI hi]):
  clD EE (.p (.fn 392)) [x,.ptr p 0,.ptr q 0] H=some (vB (inR lo hi l),none):=by
 rw [q002 _ _ _ _ _ _ (noP _) fn392]
 have key:=q0ud l hn x H hx p q lo hi hp hq
 have hl:=hx.len
 unfold inR
 cases b:l.any fun x=>decide (x<lo)||decide (hi<x) with
 |true=>
  rw [b,if_pos rfl] at key
  simp [wiE,wiB] at key
  simp [zEa,hl,key]
 |false=>
  rw [b,if_neg (by simp)] at key
  simp [wiE,wiX] at key
  simp [zEa,hl,key]
theorem q04s (l:List Int) (hn:l.length<=1000000) (x:V) (H:Heap) (hx:Reads H x l) (p q:Nat) (lo hi:Int) (hp:Eng.boxAt H p=some [vI lo]) (hq:Eng.boxAt H q=some [vI hi]):
  clD EE (.p (.fn 393)) [x,.ptr p 0,.ptr q 0] H=some (vB (inR lo hi l),none):=by
 rw [<-q06m l hn x H hx p q lo hi hp hq,q002 _ _ _ _ _ _ (noP _) fn392,q002 _ _ _ _ _ _ (noP _) fn393]
 rfl
theorem q036 (a b:Int) (H:Heap):clD EE (.p (.fn 358)) [vI a,vI b] H=some (.fn (.func 392) [] [.ptr H.length 0,.ptr (H.length+1) 0],some (H++[.box [vI a],.box [vI b]],[])):=by
 rw [q002 _ _ _ _ _ _ (noP _) fn358]
 simp [zEa]
theorem q02s (a b:Int) (H:Heap):clD EE (.p (.fn 359)) [vI a,vI b] H=some (.fn (.func 393) [] [.ptr H.length 0,.ptr (H.length+1) 0],some (H++[.box [vI a],.box [vI b]],[])):=by
 rw [q002 _ _ _ _ _ _ (noP _) fn359]
 simp [zEa]
def geomF (g:Geom):Int:=
 if inR 1 8 [g.cols]=false then 6
 else if inR 1 1073741823 [g.wide,g.high]=false then 7
 else if inR 0 1073741823 [g.gap,g.noteMost,g.topMost,g.botMost]=false then 7
 else if inR 0 536870912 [g.rule,g.sep,g.grid]=false then 7
 else if inR 1 g.high [g.first]=false then 7
 else if inR 0 g.first [g.grid]=false then 7
 else if inR 0 4 [g.topMany,g.botMany]=false then 7
 else if inR 0 1048576 [g.club,g.widow,g.split,g.defer,g.spare]=false then 7
 else 0
theorem q0il (H:Heap) (id:Nat) (l:List Int) (hb:Eng.boxAt H id=some (l.map vI)):Reads H (.bvs id 0 l.length 1) l:=by
 refine ⟨rfl,fun i v h=> ?_⟩
 have hlt:=(Za.1 h).1
 refine ⟨.ptr id i,by simp [ixsI,ixsV,hlt],fun env loc base dirty=> ?_⟩
 have h2:(l.map vI)[i]? =some (vI v):=by simp [h]
 obtain ⟨h3,h4⟩:=Za.1 h2
 have h5:i+1<=(l.map vI).length:=h3
 simp only [q0Da,hb,Ze,subs,h5,if_true]
 rw [ZA h3,h4];rfl
theorem q0m7 (id n s:Nat) (h:n≠0):slcaV s n (.ptr id 0) none=some (.bvs id 0 n s):=by simp [slcaV,h]
theorem q0bb (g:Geom) (H:Heap):clD EE (.p (.fn 307)) [vGeom g] H=some (vI (geomF g),none):=by
 rw [q002 _ _ _ _ _ _ (noP _) fn307]
 have f1:=q06m [g.cols] (by simp) (sli [g.cols]) (H++[.box [vI 1],.box [vI 8]]) (q05x _ _) H.length (H.length+1) 1 8 (by simp) (by simp)
 have f2:=q04s [g.wide,g.high] (by simp) (sli [g.wide,g.high]) (H++[.box [vI 1],.box [vI 8],.box [vI 1],.box [vI 1073741823],.box [vI 0],.box [vI 1073741823],.box [vI 0],.box [vI 536870912],.box [vI g.gap,vI g.noteMost,vI g.topMost,vI g.botMost],.box [vI g.club,vI g.widow,vI g.split,vI g.defer,vI g.spare]]) (q05x _ _) (H.length+2) (H.length+3) 1 1073741823 (by simp) (by simp)
 have f3:=q04s [g.gap,g.noteMost,g.topMost,g.botMost] (by simp) (.bvs (H.length+8) 0 4 1) (H++[.box [vI 1],.box [vI 8],.box [vI 1],.box [vI 1073741823],.box [vI 0],.box [vI 1073741823],.box [vI 0],.box [vI 536870912],.box [vI g.gap,vI g.noteMost,vI g.topMost,vI g.botMost],.box [vI g.club,vI g.widow,vI g.split,vI g.defer,vI g.spare]]) (q0il _ _ [g.gap,g.noteMost,g.topMost,g.botMost] (by simp)) (H.length+4) (H.length+5) 0 1073741823 (by simp) (by simp)
 have f4:=q04s [g.rule,g.sep,g.grid] (by simp) (sli [g.rule,g.sep,g.grid]) (H++[.box [vI 1],.box [vI 8],.box [vI 1],.box [vI 1073741823],.box [vI 0],.box [vI 1073741823],.box [vI 0],.box [vI 536870912],.box [vI g.gap,vI g.noteMost,vI g.topMost,vI g.botMost],.box [vI g.club,vI g.widow,vI g.split,vI g.defer,vI g.spare]]) (q05x _ _) (H.length+6) (H.length+7) 0 536870912 (by simp) (by simp)
 have f5:=q04s [g.first] (by simp) (sli [g.first]) (H++[.box [vI 1],.box [vI 8],.box [vI 1],.box [vI 1073741823],.box [vI 0],.box [vI 1073741823],.box [vI 0],.box [vI 536870912],.box [vI g.gap,vI g.noteMost,vI g.topMost,vI g.botMost],.box [vI g.club,vI g.widow,vI g.split,vI g.defer,vI g.spare],.box [vI 1],.box [vI g.high]]) (q05x _ _) (H.length+10) (H.length+11) 1 g.high (by simp) (by simp)
 have f6:=q04s [g.grid] (by simp) (sli [g.grid]) (H++[.box [vI 1],.box [vI 8],.box [vI 1],.box [vI 1073741823],.box [vI 0],.box [vI 1073741823],.box [vI 0],.box [vI 536870912],.box [vI g.gap,vI g.noteMost,vI g.topMost,vI g.botMost],.box [vI g.club,vI g.widow,vI g.split,vI g.defer,vI g.spare],.box [vI 1],.box [vI g.high],.box [vI 0],.box [vI g.first]]) (q05x _ _) (H.length+12) (H.length+13) 0 g.first (by simp) (by simp)
 have f7:=q06m [g.topMany,g.botMany] (by simp) (sli [g.topMany,g.botMany]) (H++[.box [vI 1],.box [vI 8],.box [vI 1],.box [vI 1073741823],.box [vI 0],.box [vI 1073741823],.box [vI 0],.box [vI 536870912],.box [vI g.gap,vI g.noteMost,vI g.topMost,vI g.botMost],.box [vI g.club,vI g.widow,vI g.split,vI g.defer,vI g.spare],.box [vI 1],.box [vI g.high],.box [vI 0],.box [vI g.first],.box [vI 0],.box [vI 4]]) (q05x _ _) (H.length+14) (H.length+15) 0 4 (by simp) (by simp)
 have f8:=q06m [g.club,g.widow,g.split,g.defer,g.spare] (by simp) (.bvs (H.length+9) 0 5 1) (H++[.box [vI 1],.box [vI 8],.box [vI 1],.box [vI 1073741823],.box [vI 0],.box [vI 1073741823],.box [vI 0],.box [vI 536870912],.box [vI g.gap,vI g.noteMost,vI g.topMost,vI g.botMost],.box [vI g.club,vI g.widow,vI g.split,vI g.defer,vI g.spare],.box [vI 1],.box [vI g.high],.box [vI 0],.box [vI g.first],.box [vI 0],.box [vI 4],.box [vI 0],.box [vI 1048576]]) (q0il _ _ [g.club,g.widow,g.split,g.defer,g.spare] (by simp)) (H.length+16) (H.length+17) 0 1048576 (by simp) (by simp)
 have s1:=fun id=>q0m7 id 4 1 (by simp)
 have s2:=fun id=>q0m7 id 5 1 (by simp)
 simp only [sli,Zo,ZL,encI] at f1 f2 f3 f4 f5 f6 f7 f8
 unfold geomF
 cases e1:inR 1 8 [g.cols] with
 |false=>rw [e1] at f1;simp [zEc,q036,q02s,f1]
 |true=>
  rw [e1] at f1
  cases e2:inR 1 1073741823 [g.wide,g.high] with
  |false=>rw [e2] at f2;simp [zEc,q036,q02s,f1,f2]
  |true=>
   rw [e2] at f2
   cases e3:inR 0 1073741823 [g.gap,g.noteMost,g.topMost,g.botMost] with
   |false=>rw [e3] at f3;simp [zEc,q036,q02s,f1,f2,f3,s1,s2]
   |true=>
    rw [e3] at f3
    cases e4:inR 0 536870912 [g.rule,g.sep,g.grid] with
    |false=>rw [e4] at f4;simp [zEc,q036,q02s,f1,f2,f3,f4,s1,s2]
    |true=>
     rw [e4] at f4
     cases e5:inR 1 g.high [g.first] with
     |false=>rw [e5] at f5;simp [zEc,q036,q02s,f1,f2,f3,f4,f5,s1,s2]
     |true=>
      rw [e5] at f5
      cases e6:inR 0 g.first [g.grid] with
      |false=>rw [e6] at f6;simp [zEc,q036,q02s,f1,f2,f3,f4,f5,f6,s1,s2]
      |true=>
       rw [e6] at f6
       cases e7:inR 0 4 [g.topMany,g.botMany] with
       |false=>rw [e7] at f7;simp [zEc,q036,q02s,f1,f2,f3,f4,f5,f6,f7,s1,s2]
       |true=>
        rw [e7] at f7
        cases e8:inR 0 1048576 [g.club,g.widow,g.split,g.defer,g.spare] with
        |false=>rw [e8] at f8;simp [zEc,q036,q02s,f1,f2,f3,f4,f5,f6,f7,f8,s1,s2]
        |true=>rw [e8] at f8;simp [zEc,q036,q02s,f1,f2,f3,f4,f5,f6,f7,f8,s1,s2]
def out_ (lo hi:Int) (x:Int):Bool:=decide (x<lo)||decide (hi<x)
def gE (g:Geom) (a t:Nat) (l:List Int) (H:Heap) (i:Nat):St:=⟨[(1,.lptr 1 0),(a,.lptr a 0),(t,vI i)],[(1,cGeom g),(a,l.map vI)],H,H.length,[]⟩
def gX (g:Geom) (a t x e:Nat) (l:List Int) (H:Heap):Ex×St:=(.exit e,⟨[(1,.lptr 1 0),(a,.lptr a 0),(t,vI l.length),(x,vB false)],[(1,cGeom g),(a,l.map vI)],H,H.length,[]⟩)
def gB (H:Heap):Ex×St:=(.ret,⟨[(2,vI 7)],[],H,H.length,[]⟩)
theorem q0dv {l:List Int} {i:Nat} {v:Int} (h:l[i]? =some v):subs (l.map vI) i 1=some [vI v]:=by
 have h2:(l.map vI)[i]? =some (vI v):=by simp [h]
 obtain ⟨h3,h4⟩:=Za.1 h2
 have h5:i+1<=(l.map vI).length:=h3
 simp only [subs,h5,if_true]
 rw [ZA h3,h4];rfl
theorem q0h2 (i s n j:Nat) (k:IntKind) (h:i<n):ixaV (.lptr j 0) (.p (.int k (i:Int))) s n=some (.lptr j (i*s)):=by simp [ixaV,q007,h]
theorem q0ue (g:Geom) (l:List Int) (hl:l.length=3) (H:Heap):evD EE q0Wp (gE g 3 4 l H 0)=some (if l.any (out_ 1 1073741823)=true then gB H else gX g 3 4 25 0 l H):=by
 unfold q0Wp
 refine Eq.trans (q013 l (fun (_:Unit) i=>gE g 3 4 l H i) (fun _ _=>True) (stepB (out_ 1 1073741823) (gB H)) (fun _=>gX g 3 4 25 0 l H) (fun _ _=>rfl) ?_ ?_ () 0 trivial (Zj _)) (by rw [q043];rfl)
 ·rintro _ i v-hv
  have hlt:=(Za.1 hv).1
  have hne: ¬l=[]:=by rintro rfl;simp at hlt
  have h3:(i:Int)<3:=by omega
  have h3':i<3:=by omega
  have w1:IntKind.i64.wrap ((i:Int)+1)=((i+1:Nat):Int):=w64 (by omega) (by omega)
  have hs:=q0dv hv
  have hi:=fun k=>q0h2 i 1 3 3 k h3'
  by_cases c1:v<1
  ·simp [stepB,out_,gE,gB,h3,hi,hs,hne,c1]
  ·by_cases c2:1073741823<v
   ·simp [stepB,out_,gE,gB,h3,hi,hs,hne,c1,c2]
   ·simp [stepB,out_,gE,h3,hi,hs,hne,c1,c2,w1]
 ·rintro _-
  simp [gE,gX,hl]
theorem q0uf (g:Geom) (l:List Int) (hl:l.length=7) (H:Heap):evD EE q0Wq (gE g 5 6 l H 0)=some (if l.any (out_ 0 1073741823)=true then gB H else gX g 5 6 54 2 l H):=by
 unfold q0Wq
 refine Eq.trans (q013 l (fun (_:Unit) i=>gE g 5 6 l H i) (fun _ _=>True) (stepB (out_ 0 1073741823) (gB H)) (fun _=>gX g 5 6 54 2 l H) (fun _ _=>rfl) ?_ ?_ () 0 trivial (Zj _)) (by rw [q043];rfl)
 ·rintro _ i v-hv
  have hlt:=(Za.1 hv).1
  have hne: ¬l=[]:=by rintro rfl;simp at hlt
  have h3:(i:Int)<7:=by omega
  have h3':i<7:=by omega
  have w1:IntKind.i64.wrap ((i:Int)+1)=((i+1:Nat):Int):=w64 (by omega) (by omega)
  have hs:=q0dv hv
  have hi:=fun k=>q0h2 i 1 7 5 k h3'
  by_cases c1:v<0
  ·simp [stepB,out_,gE,gB,h3,hi,hs,hne,c1]
  ·by_cases c2:1073741823<v
   ·simp [stepB,out_,gE,gB,h3,hi,hs,hne,c1,c2]
   ·simp [stepB,out_,gE,h3,hi,hs,hne,c1,c2,w1]
 ·rintro _-
  simp [gE,gX,hl]
def out2 (i:Nat) (v:Int):Bool:=out_ 0 1048576 v||(decide ((i:Int)<2)&&decide (4<v))
theorem q0ug (g:Geom) (l:List Int) (hl:l.length=7) (H:Heap):evD EE q0Wr (gE g 7 8 l H 0)=some (if anyI out2 0 l=true then gB H else gX g 7 8 83 4 l H):=by
 unfold q0Wr
 refine Eq.trans (q013 l (fun (_:Unit) i=>gE g 7 8 l H i) (fun _ _=>True) (stepI out2 (gB H)) (fun _=>gX g 7 8 83 4 l H) (fun _ _=>rfl) ?_ ?_ () 0 trivial (Zj _)) (by rw [q0ly];rfl)
 ·rintro _ i v-hv
  have hlt:=(Za.1 hv).1
  have hne: ¬l=[]:=by rintro rfl;simp at hlt
  have h3:(i:Int)<7:=by omega
  have h3':i<7:=by omega
  have w1:IntKind.i64.wrap ((i:Int)+1)=((i+1:Nat):Int):=w64 (by omega) (by omega)
  have hs:=q0dv hv
  have hi:=fun k=>q0h2 i 1 7 7 k h3'
  by_cases c1:v<0
  ·simp [stepI,out2,out_,gE,gB,h3,hi,hs,hne,c1]
  ·by_cases c2:1048576<v
   ·simp [stepI,out2,out_,gE,gB,h3,hi,hs,hne,c1,c2]
   ·by_cases c3:(i:Int)<2
    ·by_cases c4:4<v
     ·simp [stepI,out2,out_,gE,gB,h3,hi,hs,hne,c1,c2,c3,c4]
     ·simp [stepI,out2,out_,gE,h3,hi,hs,hne,c1,c2,c3,c4,w1]
    ·simp [stepI,out2,out_,gE,h3,hi,hs,hne,c1,c2,c3,w1]
 ·rintro _-
  simp [gE,gX,hl]
def q0m8 (g:Geom):Int:=
 if out_ 1 8 g.cols=true then 6
 else if [g.wide,g.high,g.first].any (out_ 1 1073741823)=true then 7
 else if [g.gap,g.rule,g.sep,g.noteMost,g.topMost,g.botMost,g.grid].any (out_ 0 1073741823)=true then 7
 else if anyI out2 0 [g.topMany,g.botMany,g.club,g.widow,g.split,g.defer,g.spare]=true then 7
 else if g.high<g.first\/g.first<g.grid\/536870912<g.grid\/536870912<g.rule\/536870912<g.sep then 7
 else 0
theorem q0xx (g:Geom):q0m8 g=geomF g:=by
 unfold q0m8 geomF
 have e1:(inR 1 8 [g.cols]=false)↔out_ 1 8 g.cols=true:=by simp [inR,out_];omega
 simp only [e1]
 split
 ·rfl
 ·simp only [inR,out_,out2,anyI,List.any_cons,List.any_nil,Bool.or_false,Bool.not_eq_false',Z4,Zb,decide_eq_true_eq]
  repeat' split
  all_goals first|rfl|(exfalso;omega)
theorem q0jo (g:Geom) (H:Heap):clD EE (.p (.fn 139)) [vGeom g] H=some (vI (geomF g),none):=by
 rw [q002 _ _ _ _ _ _ (noP _) fn139,<-q0xx]
 have k0:=q0ue g [g.wide,g.high,g.first] rfl H
 have k1:=q0uf g [g.gap,g.rule,g.sep,g.noteMost,g.topMost,g.botMost,g.grid] rfl H
 have k2:=q0ug g [g.topMany,g.botMany,g.club,g.widow,g.split,g.defer,g.spare] rfl H
 simp only [gE,gX,gB] at k0 k1 k2
 unfold q0m8
 by_cases c1:g.cols<1
 ·simp [zEb,out_,c1]
 ·by_cases c2:8<g.cols
  ·simp [zEb,out_,c1,c2]
  ·have e1:out_ 1 8 g.cols=false:=by simp [out_];omega
   rw [e1]
   cases b0:[g.wide,g.high,g.first].any (out_ 1 1073741823) with
   |true=>
    rw [b0,if_pos rfl] at k0
    simp at k0
    simp [zEc,c1,c2,k0]
   |false=>
    rw [b0,if_neg (by simp)] at k0
    cases b1:[g.gap,g.rule,g.sep,g.noteMost,g.topMost,g.botMost,g.grid].any (out_ 0 1073741823) with
    |true=>
     rw [b1,if_pos rfl] at k1
     simp at k0 k1
     simp [zEc,c1,c2,k0,k1]
    |false=>
     rw [b1,if_neg (by simp)] at k1
     cases b2:anyI out2 0 [g.topMany,g.botMany,g.club,g.widow,g.split,g.defer,g.spare] with
     |true=>
      rw [b2,if_pos rfl] at k2
      simp at k0 k1 k2
      simp [zEc,c1,c2,k0,k1,k2]
     |false=>
      rw [b2,if_neg (by simp)] at k2
      simp at k0 k1 k2
      by_cases d1:g.high<g.first
      ·simp [zEc,c1,c2,k0,k1,k2,d1]
      ·by_cases d2:g.first<g.grid
       ·simp [zEc,c1,c2,k0,k1,k2,d1,d2]
       ·by_cases d3:536870912<g.grid
        ·simp [zEc,c1,c2,k0,k1,k2,d1,d2,d3]
        ·by_cases d4:536870912<g.rule
         ·simp [zEc,c1,c2,k0,k1,k2,d1,d2,d3,d4]
         ·by_cases d5:536870912<g.sep
          ·simp [zEc,c1,c2,k0,k1,k2,d1,d2,d3,d4,d5]
          ·simp [zEc,c1,c2,k0,k1,k2,d1,d2,d3,d4,d5]
theorem q09l {n s:Int} (h0:0<=n) (h1:n<=1073741823) (hs:1<=s) (h2:s<=1073741823):0<=upG n s/\upG n s<=4294967296:=by
 have a:=Int.emod_nonneg n (show s≠0 by omega)
 have b:=Int.emod_lt_of_pos n (show 0<s by omega)
 unfold upG upF
 rw [if_neg (by omega)]
 split
 ·simp only [orN];omega
 ·unfold addF
  split<;>simp only [orN]<;>omega
theorem q09m {n s:Int} (h0:0<=n) (h1:n<=1073741823) (hs:1<=s) (h2:s<=1073741823):0<=downG n s/\downG n s<=4294967296:=by
 have a:=Int.emod_nonneg n (show s≠0 by omega)
 have b:=Int.emod_lt_of_pos n (show 0<s by omega)
 have c1:0<=s*(n/s):=Int.mul_nonneg (by omega) (Int.ediv_nonneg h0 (by omega))
 have c2:=Int.emod_add_mul_ediv n s
 unfold downG downF
 rw [if_neg (by omega)]
 unfold subF
 split<;>simp only [orN]<;>omega
theorem q04b {lo hi:Int} {l:List Int} (h: ¬inR lo hi l=false): ∀x∈l,lo<=x/\x<=hi:=by
 intro x hx
 have h1:inR lo hi l=true:=by simpa using h
 unfold inR at h1
 have h2:(l.any fun x=>decide (x<lo)||decide (hi<x))=false:=by simpa using h1
 have:=List.any_eq_false.1 h2 x hx
 simp at this
 omega
structure Stt where
 at_:Int
 col:Int
 note:Int
 line:Int
 h:C3
 deriving Inhabited,DecidableEq
abbrev vStt (s:Stt):V:= .agg [vI s.at_,vI s.col,vI s.note,vI s.line,vI s.h.a,vI s.h.b,vI s.h.c]
end Go.EnvOf
