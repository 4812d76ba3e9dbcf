/- The program's functions and the document's, evaluated. -/
import Derived.Test.YtpibjnnbploadaaGreatEngAll2
import Derived.Test.YtpibjnnbploadaaGreatText2
set_option linter.unusedSimpArgs false
set_option linter.unusedVariables false
namespace Go.EnvOf
open Go Go.Eng
set_option maxRecDepth 100000
theorem okEl_upV: ∀(es:List Int),(upV (es.map encI)).all (okEl 1)=true
 |[]=>rfl
 |x::r=>by simp only [List.map_cons,q047,List.all_cons,okEl_upV r,Bool.and_true];rfl
theorem q0hu: ∀(l:List Int),readI (upV (l.map encI))=some l
 |[]=>rfl
 |x::r=>by
  have:=q0hu r
  simp only [List.map_cons,q047] at this⊢
  simp only [encI,List.map_cons,List.map_nil,readI,this]
theorem q0hv (x:Int): ∀l,(insI x l).length=l.length+1
 |[]=>rfl
 |y::r=>by unfold insI;split<;>simp [q0hv x r]
theorem isort_len: ∀l,(isort l).length=l.length
 |[]=>rfl
 |x::r=>by simp [isort,q0hv,isort_len r]
theorem q0rh (l:List Int):l.map intEl=upV (l.map encI):=by simp [upV,intEl,encI]
theorem q0op (H:Heap) (id tot off:Nat):clD EE (.p (.fn 428)) [.row id tot off 0] H=some (.tup [],none):=by
 rw [q0hl _ _ _ _ _ q0hk];rfl
theorem q0ri (H:Heap) (l:List Int) (hl:l.length<most) (hne:l≠[]) (id:Nat) (h:Go.Eng.rowAt H id=some (1,upV (l.map encI))):clD EE (.p (.fn 428)) [.row id l.length 0 l.length] H=some (.tup [],some (H.set id (.row 1 (upV ((isort l).map encI))),[id])):=by
 obtain ⟨n,hn⟩: ∃n,l.length=n+1:=⟨l.length-1,by cases l;exact absurd rfl hne;simp⟩
 rw [q0hl _ _ _ _ _ q0hk,hn]
 simp [sortP,sortR,h,q0hu,hn,hn▸hl,q0rh]
theorem q021 (c:Int): ∀(l:List Float) (i:Nat),(figOf c i l).length≤l.length
 |[],_=>by simp [figOf]
 |x::r,i=>by
  have:=q021 c r (i+1)
  simp only [figOf,List.length_append,List.length_cons]
  split<;>simp<;>omega
def okU (n:Nat) (u w:Int):Prop:=0≤u∧0≤w∧u≤n∧w≤n-u
instance (n:Nat) (u w:Int):Decidable (okU n u w):=inferInstanceAs (Decidable (_∧_))
def seg (F:List Int) (u w:Int):List Int:=(F.drop u.toNat).take w.toNat
theorem q057 {F:List Int} {u w:Int} (h:okU F.length u w):(seg F u w).length=w.toNat:=by
 unfold okU at h;unfold seg;rw [List.length_take,List.length_drop];omega
theorem q0v6 (F:List Int) (u w:Int) (h:okU F.length u w) (H:Heap):slcI H 1 (sli F) (some (vI u)) (some (vI (u+w)))=some (sli (seg F u w)):=by
 unfold okU at h
 have e:(u+w-u).toNat=w.toNat:=by omega
 have c:0≤u∧u≤u+w∧u+w≤F.length:=by omega
 have hh:q05i 1 (F.map encI)=true:=by cases F<;>rfl
 have g:(u:Int)≤u+w:=by omega
 have g2:u+w≤(F.length:Int):=by omega
 simp [slcI,slcV,seg,e,hh,h.1,g,g2,h.2.1,List.map_take,List.map_drop]
def tkE (l:List Float) (x y:C3) (H:Heap) (d:List Nat) (out:List Int) (i:Nat):St:=
 ⟨[(0,q00q l),(4,.lptr 4 0),(5,.lptr 5 0),(8,.row H.length out.length 0 out.length),(11,vI i)],[(4,[vI x.a,vI x.b,vI x.c]),(5,[vI y.a,vI y.b,vI y.c])],H++[.row 1 (upV (out.map encI))],H.length,d⟩
def tkB (H:Heap) (d:List Nat) (out:List Int):Ex×St:=(.ret,⟨[(6,.nils),(7,vB false)],[],H++[.row 1 (upV (out.map encI))],H.length,d⟩)
def tkX (l:List Float) (x y:C3) (H:Heap) (d:List Nat) (out:List Int):Ex×St:=
 (.exit 0,⟨[(0,q00q l),(4,.lptr 4 0),(5,.lptr 5 0),(8,.row H.length out.length 0 out.length),(11,vI 3),(12,vB false)],[(4,[vI x.a,vI x.b,vI x.c]),(5,[vI y.a,vI y.b,vI y.c])],H++[.row 1 (upV (out.map encI))],H.length,d⟩)
def tkS (l:List Float) (bad:List Int→Ex×St) (out:List Int) (i:Nat) (p:Int×Int):List Int⊕(Ex×St):=if okU (figOf i 0 l).length p.1 p.2 then .inl (out++seg (figOf i 0 l) p.1 p.2) else .inr (bad out)
set_option maxHeartbeats 2000000 in
theorem q0v7 (l:List Float) (x y:C3) (H:Heap) (d:List Nat) (hl:l.length≤100000):
  evD EE q0ab (tkE l x y H d [] 0)=some (rng (tkS l (tkB H d)) (tkX l x y H d) [] 0 [(x.a,y.a),(x.b,y.b),(x.c,y.c)]):=by
 unfold q0ab
 refine q04j [(x.a,y.a),(x.b,y.b),(x.c,y.c)] (tkE l x y H d) (fun out i=>out.length≤100000*i) (tkS l (tkB H d)) (tkX l x y H d) (fun _ _=>rfl) ?_ ?_ [] 0 (by simp) (Nat.zero_le _)
 ·intro out i p hi hp
  have hlt:i<3:=(List.getElem?_eq_some_iff.1 hp).1
  have hF:=q021 i l 0
  have hm:out.length+100000<most:=by unfold most;omega
  unfold tkS
  have hf:=fun H=>q0rg l i H (by omega)
  generalize figOf i 0 l=F at*
  obtain ⟨u,w⟩:=p
  simp only
  have w1:IntKind.i64.wrap 1=1:=by decide
  have w2:IntKind.i64.wrap 2=2:=by decide
  have w3:IntKind.i64.wrap 3=3:=by decide
  by_cases hok:okU F.length u w
  ·rw [if_pos hok]
   have hs:=q0v6 F u w hok
   have hsl:=q057 hok
   obtain ⟨a1,a2,a3,a4⟩:=id hok
   have wu:IntKind.i64.wrap (u+w)=u+w:=w64 (by omega) (by omega)
   have wn:IntKind.i64.wrap ((F.length:Int)-u)=(F.length:Int)-u:=w64 (by omega) (by omega)
   have b1: ¬u<0:=by omega
   have b2: ¬w<0:=by omega
   have b3: ¬(F.length:Int)<u:=by omega
   have b4: ¬(F.length:Int)-u<w:=by omega
   have hmm:out.length+(seg F u w).length<most:=by omega
   refine ⟨?_,by rw [List.length_append];omega⟩
   match i,hlt with
   |0,_|1,_|2,_=>
    simp at hp hf
    obtain ⟨rfl,rfl⟩:=hp
    simp (config:= {maxSteps:=2000000}) [tkE,ixaV,subs,hf,hs,wu,wn,w1,w2,w3,b1,b2,b3,b4,okEl_upV,hmm]
  ·rw [if_neg hok]
   refine ⟨?_,by simp [tkB]⟩
   have wn:0≤u→u≤F.length→IntKind.i64.wrap ((F.length:Int)-u)=(F.length:Int)-u:=fun _ _=>w64 (by omega) (by omega)
   match i,hlt with
   |0,_|1,_|2,_=>
    simp at hp hf
    obtain ⟨e1,e2⟩:=hp
    by_cases c1:u<0
    ·simp [tkE,tkB,ixaV,subs,hf,wn,e1,e2,c1]
    by_cases c2:w<0
    ·simp [tkE,tkB,ixaV,subs,hf,wn,e1,e2,c1,c2]
    by_cases c3:(F.length:Int)<u
    ·simp [tkE,tkB,ixaV,subs,hf,wn,e1,e2,c1,c2,c3]
    have wn:=wn (by omega) (by omega)
    have c4:(F.length:Int)-u<w:=by unfold okU at hok;omega
    simp [tkE,tkB,ixaV,subs,hf,wn,e1,e2,c1,c2,c3,c4]
 ·intro out hi
  refine ⟨?_,by simp [tkX]⟩
  simp [tkE,tkX]
def okT (l:List Float) (x y:C3):Prop:=okU (figOf 0 0 l).length x.a y.a∧okU (figOf 1 0 l).length x.b y.b∧okU (figOf 2 0 l).length x.c y.c
instance (l:List Float) (x y:C3):Decidable (okT l x y):=inferInstanceAs (Decidable (_∧_))
def raw (l:List Float) (x y:C3):List Int:=seg (figOf 0 0 l) x.a y.a++seg (figOf 1 0 l) x.b y.b++seg (figOf 2 0 l) x.c y.c
def takeL (l:List Float) (x y:C3):List Int:=isort (raw l x y)
theorem q0hw (F:List Int) (u w:Int):(seg F u w).length≤F.length:=by unfold seg;rw [List.length_take,List.length_drop];omega
theorem q0kw (l:List Float) (x y:C3):(raw l x y).length≤3*l.length:=by
 have h0:=q0hw (figOf 0 0 l) x.a y.a
 have h1:=q0hw (figOf 1 0 l) x.b y.b
 have h2:=q0hw (figOf 2 0 l) x.c y.c
 have g0:=q021 0 l 0
 have g1:=q021 1 l 0
 have g2:=q021 2 l 0
 unfold raw
 simp only [List.length_append]
 omega
def vTake (l:List Float) (x y:C3):V:=if okT l x y then .tup [sli (takeL l x y),vB true] else .tup [sli [],vB false]
theorem q0v8 (l:List Float) (x y:C3) (H:Heap) (hl:l.length≤100000):clD EE (.p (.fn 366)) [q00q l,vC x,vC y] H=some (vTake l x y,none):=by
 rw [q002 _ _ _ _ _ _ (noP _) fn366]
 have key:=q0v7 l x y H [] hl
 simp only [rng,tkS,List.nil_append] at key
 unfold vTake takeL
 have w0:((0:Nat):Int)=0:=rfl
 have w1:((0+1:Nat):Int)=1:=rfl
 have w2:((0+1+1:Nat):Int)=2:=rfl
 rw [w0,w1,w2] at key
 have hr:=q0kw l x y
 by_cases h:okT l x y
 ·obtain ⟨h0,h1,h2⟩:=id h
  simp only [if_pos h0,if_pos h1,if_pos h2] at key
  have e:seg (figOf 0 0 l) x.a y.a++seg (figOf 1 0 l) x.b y.b++seg (figOf 2 0 l) x.c y.c=raw l x y:=rfl
  rw [e] at key
  rw [if_pos h]
  generalize raw l x y=R at*
  simp [tkE,tkX] at key
  by_cases hne:R=[]
  ·subst hne
   have hn:=fun H id tot off=>q0op H id tot off
   simp at key
   simp [St.enter,q000,subs,q001,key,hn,isort,idsK,frzK,allO]
  ·have hn:=fun H=>q0ri H R (by unfold most;omega) hne
   have hl:=isort_len R
   simp [St.enter,q000,subs,q001,key,hn,hl,List.take_of_length_le]
 ·rw [if_neg h]
  have kb: ∃out:List Int,evD EE q0ab (tkE l x y H [] [] 0)=some (tkB H [] out):=by
   rw [key]
   by_cases h0:okU (figOf 0 0 l).length x.a y.a
   ·by_cases h1:okU (figOf 1 0 l).length x.b y.b
    ·have h2: ¬okU (figOf 2 0 l).length x.c y.c:=fun h2=>h ⟨h0,h1,h2⟩
     simp only [if_pos h0,if_pos h1,if_neg h2]
     exact ⟨_,rfl⟩
    ·simp only [if_pos h0,if_neg h1]
     exact ⟨_,rfl⟩
   ·simp only [if_neg h0]
    exact ⟨_,rfl⟩
  obtain ⟨out,kb⟩:=kb
  clear key
  simp [tkE,tkB] at kb
  simp [St.enter,q000,subs,q001,kb]
def atF (l:List Float) (i:Int):Option Float:=if 0≤i∧i<l.length then some (rd l i) else none
theorem at_ev (l:List Float) (i:Int) (H:Heap):clD EE (.p (.fn 201)) [q00q l,vI i] H=some (.tup [match atF l i with|some f=>q07n f|none=> .agg [vI 0,vI 0,vI 0],vB (atF l i).isSome],none):=by
 rw [q002 _ _ _ _ _ _ (noP _) fn201]
 unfold atF
 by_cases h1:i<0
 ·simp [St.enter,q000,subs,q001,h1,show¬0≤i by omega]
 by_cases h2:(l.length:Int)≤i
 ·simp [St.enter,q000,subs,q001,h1,h2,show¬i<l.length by omega]
 have hx:=q041 l i (by omega) (by omega)
 have hix:=fun H k=>q05y H q00i (k:=k) (s:=3) (by omega) hx rfl
 simp [St.enter,q000,subs,q001,h1,h2,show 0≤i∧i<l.length by omega,hix,q00i]
def bump (s:C3) (c:Int):C3:=if c=0 then ⟨s.a+1,s.b,s.c⟩ else if c=1 then ⟨s.a,s.b+1,s.c⟩ else if c=2 then ⟨s.a,s.b,s.c+1⟩ else s
def ofS (l:List Float) (s:C3) (x:Int):C3:=match atF l x with|some f=>bump s f.c|none=>s
def ofL (l:List Float) (xs:List Int):C3:=xs.foldl (ofS l) ⟨0,0,0⟩
def ofE (l:List Float) (xs:List Int) (H:Heap) (s:C3) (i:Nat):St:=
 ⟨[(0,q00q l),(4,.lptr 4 0),(5,.lptr 5 0),(10,sli xs),(11,vI xs.length),(12,vI i)],[(4,[vI 0,vI 0,vI 0]),(5,[vI s.a,vI s.b,vI s.c])],H,H.length,[]⟩
def ofX (l:List Float) (xs:List Int) (H:Heap) (s:C3):Ex×St:=
 (.exit 0,⟨[(0,q00q l),(4,.lptr 4 0),(5,.lptr 5 0),(10,sli xs),(11,vI xs.length),(12,vI xs.length),(13,vB false)],[(4,[vI 0,vI 0,vI 0]),(5,[vI s.a,vI s.b,vI s.c])],H,H.length,[]⟩)
theorem of_lp (l:List Float) (xs:List Int) (H:Heap) (hl:l.length≤100000) (hx:xs.length≤1000000):
  evD EE q0dk (ofE l xs H ⟨0,0,0⟩ 0)=some (ofX l xs H (ofL l xs)):=by
 have hf: ∀(xs:List Int) (s:C3) (i:Nat),fold (fun s _ x=>ofS l s x) s i xs=xs.foldl (ofS l) s:=by
  intro xs
  induction xs with
  |nil=>intro s i;rfl
  |cons x r ih=>intro s i;simp only [fold,List.foldl_cons,ih]
 unfold ofL
 rw [←hf xs ⟨0,0,0⟩ 0]
 unfold q0dk
 refine Eq.trans (q02d xs (ofE l xs H) (fun s i=>(0≤s.a∧s.a≤i)∧(0≤s.b∧s.b≤i)∧(0≤s.c∧s.c≤i)) (fun s _ x=>ofS l s x) (ofX l xs H) (fun _ _=>rfl) ?_ ?_ ⟨0,0,0⟩ 0 (by simp) (Nat.zero_le _)) (by rw [List.drop_zero])
 ·intro s i x hi hp
  have hlt:=(List.getElem?_eq_some_iff.1 hp).1
  have hix:=fun H k=>q01q H encI (k:=k) (s:=1) hp rfl
  have ha:=fun H=>at_ev l x H
  have w:IntKind.i64.wrap ((i:Int)+1)=((i+1:Nat):Int):=w64 (by omega) (by omega)
  have wa:IntKind.i64.wrap (s.a+1)=s.a+1:=w64 (by omega) (by omega)
  have wb:IntKind.i64.wrap (s.b+1)=s.b+1:=w64 (by omega) (by omega)
  have wc:IntKind.i64.wrap (s.c+1)=s.c+1:=w64 (by omega) (by omega)
  unfold ofS
  cases hat:atF l x with
  |none=>
   rw [hat] at ha
   refine ⟨?_,by simp only;omega⟩
   simp [ofE,hlt,hix,encI,subs,q001,ha,w]
  |some f=>
   rw [hat] at ha
   obtain ⟨f1,f2,f3⟩:=f
   simp only at ha⊢
   unfold bump
   by_cases c1:f1<0
   ·rw [if_neg (by omega),if_neg (by omega),if_neg (by omega)]
    refine ⟨?_,by omega⟩
    simp [ofE,hlt,hix,encI,subs,q001,ha,w,show¬0≤f1 by omega]
   by_cases c2:3≤f1
   ·rw [if_neg (by omega),if_neg (by omega),if_neg (by omega)]
    refine ⟨?_,by omega⟩
    simp [ofE,hlt,hix,encI,subs,q001,ha,w,show 0≤f1 by omega,show¬f1<3 by omega]
   have c:f1=0∨f1=1∨f1=2:=by omega
   rcases c with rfl|rfl|rfl
   ·refine ⟨?_,by simp;omega⟩
    simp [ofE,hlt,hix,encI,subs,q001,ixaV,ha,w,wa]
   ·refine ⟨?_,by simp;omega⟩
    simp [ofE,hlt,hix,encI,subs,q001,ixaV,ha,w,wb]
   ·refine ⟨?_,by simp;omega⟩
    simp [ofE,hlt,hix,encI,subs,q001,ixaV,ha,w,wc]
 ·intro s hi
  refine ⟨?_,by simp [ofX]⟩
  simp [ofE,ofX]
theorem of_ev (l:List Float) (xs:List Int) (H:Heap) (hl:l.length≤100000) (hx:xs.length≤1000000):clD EE (.p (.fn 123)) [q00q l,sli xs] H=some (vC (ofL l xs),none):=by
 rw [q002 _ _ _ _ _ _ (noP _) fn123]
 have key:=of_lp l xs H hl hx
 simp [ofE,ofX] at key
 simp [St.enter,q000,subs,q001,key]
def nextQ (l:List Float) (x:C3) (p:List Int):Bool:=decide (okT l x (ofL l p))&&decide (takeL l x (ofL l p)=p)
theorem q0hx (p:Int→Bool) (x:Int): ∀l,(insI x l).countP p=(x::l).countP p
 |[]=>rfl
 |y::r=>by
  unfold insI
  split
  ·rfl
  ·have:=q0hx p x r
   simp only [List.countP_cons] at this⊢
   omega
theorem q0ew (p:Int→Bool): ∀l,(isort l).countP p=l.countP p
 |[]=>rfl
 |x::r=>by
  simp only [isort,q0hx,List.countP_cons,q0ew p r]
def hitC (c:Int) (i:Nat) (l:List Float) (z:Int):Bool:=decide ((i:Int)≤z)&&decide (z<i+l.length)&&decide ((rd l (z-i)).c=c)
theorem q0v9 {α:Type} [Inhabited α] (x:α) (r:List α) (k:Int) (h:0<k):rd (x::r) k=rd r (k-1):=by
 unfold rd
 have e:k.toNat=(k-1).toNat+1:=by omega
 rw [e];simp
theorem q0va {α:Type} [Inhabited α] (x:α) (r:List α):rd (x::r) 0=x:=rfl
theorem q0ex (c z:Int): ∀(l:List Float) (i:Nat),(figOf c i l).count z=if hitC c i l z=true then 1 else 0
 |[],i=>by
  have:hitC c i [] z=false:=by unfold hitC;simp;intros;omega
  simp [figOf,this]
 |x::r,i=>by
  have ih:=q0ex c z r (i+1)
  simp only [figOf,List.count_append,ih]
  by_cases hz:z=i
  ·subst hz
   have e:hitC c (i+1) r i=false:=by unfold hitC;simp;intros;omega
   have e2:hitC c i (x::r) i=decide (x.c=c):=by
    unfold hitC
    rw [Int.sub_self,q0va]
    simp;intros;omega
   rw [e,e2]
   by_cases hc:x.c=c<;>simp [hc]
  ·have e2:hitC c i (x::r) z=hitC c (i+1) r z:=by
    unfold hitC
    by_cases h1:(i:Int)<z
    ·rw [q0v9 x r (z-i) (by omega)]
     have a1:z-(i:Int)-1=z-((i+1:Nat):Int):=by omega
     rw [a1]
     congr 2
     ·simp;constructor<;>intros<;>omega
     ·simp only [List.length_cons];congr 1;apply propext;constructor<;>intros<;>omega
    ·have a1: ¬(i:Int)≤z:=by omega
     have a2: ¬((i+1:Nat):Int)≤z:=by omega
     simp only [a1,a2,decide_false,Bool.false_and]
   rw [e2]
   have:((if x.c=c then [(i:Int)] else []):List Int).count z=0:=by
    split
    ·simp [List.count_cons];omega
    ·rfl
   omega
theorem q0rj {c d i z} {l:List Float} (h1:hitC c i l z=true) (h2:hitC d i l z=true):c=d:=by
 unfold hitC at h1 h2;simp at h1 h2;omega
theorem q0vb (F:List Int) (u w:Int):(seg F u w).Sublist F:=(List.take_sublist _ _).trans (List.drop_sublist _ _)
theorem q0kx {c:Int} {l:List Float} {u w x:Int} (h:x∈seg (figOf c 0 l) u w):hitC c 0 l x=true:=by
 have h1:=List.count_pos_iff.2 ((q0vb _ _ _).mem h)
 rw [q0ex] at h1
 split at h1
 ·assumption
 ·omega
theorem q0hy (l:List Float): ∀(xs:List Int) (s:C3),xs.foldl (ofS l) s=⟨s.a+xs.countP (hitC 0 0 l),s.b+xs.countP (hitC 1 0 l),s.c+xs.countP (hitC 2 0 l)⟩
 |[],s=>by simp
 |x::r,s=>by
  rw [List.foldl_cons,q0hy l r]
  simp only [List.countP_cons]
  unfold ofS atF hitC bump
  by_cases h:0≤x∧x<l.length
  ·rw [if_pos h]
   have h1:decide (((0:Nat):Int)≤x)=true:=by simpa using h.1
   have h2:decide (x<((0:Nat):Int)+l.length)=true:=by simpa using h.2
   have h3:x-((0:Nat):Int)=x:=by omega
   simp only [h1,h2,h3,Bool.true_and,decide_eq_true_eq]
   generalize (rd l x).c=c
   by_cases c0:c=0
   ·subst c0;simp;omega
   by_cases c1:c=1
   ·subst c1;simp;omega
   by_cases c2:c=2
   ·subst c2;simp;omega
   simp [c0,c1,c2]
  ·rw [if_neg h]
   have h':(0≤x∧x<(l.length:Int))=False:=eq_false h
   simp [h']
theorem q0rk (c:Int) (l:List Float) (u w:Int):(seg (figOf c 0 l) u w).countP (hitC c 0 l)=(seg (figOf c 0 l) u w).length:=List.countP_eq_length.2 fun _ h=>q0kx h
theorem q04k {c d:Int} (l:List Float) (u w:Int) (h:c≠d):(seg (figOf c 0 l) u w).countP (hitC d 0 l)=0:=List.countP_eq_zero.2 fun _ hx hd=>h (q0rj (q0kx hx) hd)
theorem q0hz (l:List Float) (x y:C3) (h:okT l x y):ofL l (takeL l x y)=y:=by
 obtain ⟨h0,h1,h2⟩:=h
 have s0:=q057 h0
 have s1:=q057 h1
 have s2:=q057 h2
 unfold okU at h0 h1 h2
 obtain ⟨a,b,c⟩:=y
 simp only at*
 unfold ofL takeL
 rw [q0hy]
 simp only [q0ew]
 unfold raw
 simp only [List.countP_append,q0rk,q04k l _ _ (show (0:Int)≠1 by decide),q04k l _ _ (show (0:Int)≠2 by decide),q04k l _ _ (show (1:Int)≠0 by decide),q04k l _ _ (show (1:Int)≠2 by decide),q04k l _ _ (show (2:Int)≠0 by decide),q04k l _ _ (show (2:Int)≠1 by decide),s0,s1,s2]
 simp only [C3.mk.injEq]
 omega
theorem q0oq (l:List Float) (x y:C3) (h:okT l x y):nextQ l x (takeL l x y)=true:=by
 unfold nextQ
 rw [q0hz l x y h]
 simp [h]
def plus (x y:C3):C3:=⟨x.a+y.a,x.b+y.b,x.c+y.c⟩
theorem q0vc {x y:C3} (ha:0≤x.a∧x.a≤100000) (hb:0≤x.b∧x.b≤100000) (hc:0≤x.c∧x.c≤100000) (ya:0≤y.a∧y.a≤100000) (yb:0≤y.b∧y.b≤100000) (yc:0≤y.c∧y.c≤100000):addC x y=plus x y:=by
 unfold addC zipF plus
 simp only [held,big,C3.mk.injEq]
 omega
theorem q0ey {l:List Float} {x y:C3} (hl:l.length≤100000) (h:okT l x y):addC x y=plus x y:=by
 obtain ⟨h0,h1,h2⟩:=h
 unfold okU at h0 h1 h2
 have g0:=q021 0 l 0
 have g1:=q021 1 l 0
 have g2:=q021 2 l 0
 exact q0vc (by omega) (by omega) (by omega) (by omega) (by omega) (by omega)
def bitV (n m:Int):Int:=IntKind.i64.wrap (BitVec.ofInt 64 n&&&BitVec.ofInt 64 m).toNat
def bitB (m n:Int):Bool:= !decide (bitV n m=0)
def topB (x:Float):Bool:=bitB 1 x.w
def botB (x:Float):Bool:=bitB 2 x.w
abbrev fz:Int:=1125899906842624
def hz (n:Int):Int:=min (max n 0) fz
def hiS (l:List Float) (sep:Int) (s:Int) (x:Int):Int:=match atF l x with|some f=>hz (s+hz f.h+hz sep)|none=>s
def highQ (l:List Float) (xs:List Int) (sep:Int):Int:=xs.foldl (hiS l sep) 0
def mayAt (p:Float→Bool) (l:List Float) (x:Int):Bool:=match atF l x with|some f=>p f|none=>false
def fitsF (many maxH:Int) (p:Float→Bool) (sep:Int) (l:List Float) (xs:List Int):Bool:=
 decide ((xs.length:Int)≤many)&&(xs.all (mayAt p l)&&decide (highQ l xs sep≤maxH))
def fitT (g:Geom) (l:List Float) (xs:List Int):Bool:=fitsF g.topMany g.topMost topB g.sep l xs
def fitB (g:Geom) (l:List Float) (xs:List Int):Bool:=fitsF g.botMany g.botMost botB g.sep l xs
abbrev Pr:Type:=List Int×List Int
def encP (p:Pr):List PV:=[.sl (p.1.map encI),.sl (p.2.map encI)]
@[simp] theorem q0K9 (x:Pr):(encP x).length=2:=rfl
end Go.EnvOf
namespace Go.EnvOf
open Go Go.Eng
set_option maxRecDepth 100000
abbrev zC:C3:=⟨0,0,0⟩
theorem q08b (l:List Float) (h:C3):takeL l h zC=[]:=by
 unfold takeL raw seg
 simp [isort]
def addF (a b:Int):Option Int:=if-9223372036854775808≤a+b∧a+b≤9223372036854775807 then some (a+b) else none
def subF (a b:Int):Option Int:=if-9223372036854775808≤a-b∧a-b≤9223372036854775807 then some (a-b) else none
def upF (a s:Int):Option Int:=if s<1 then none else if a%s=0 then some a else addF a (s-a%s)
def downF (a s:Int):Option Int:=if s<1 then none else subF a (a%s)
def resT:Option Int→V
 |some a=> .tup [vI a,vB true]
 |none=> .tup [vI 0,vB false]
theorem q0ky {n:Int} (h0:9223372036854775808≤n) (h1:n≤27670116110564327423):IntKind.wrap .i64 n=n-18446744073709551616:=by
 unfold IntKind.wrap;simp [IntKind.bits,IntKind.signed];omega
theorem q0kz {n:Int} (h0:n≤ -9223372036854775809) (h1: -27670116110564327424≤n):IntKind.wrap .i64 n=n+18446744073709551616:=by
 unfold IntKind.wrap;simp [IntKind.bits,IntKind.signed];omega
theorem q0dt (a s:Int) (hs:1≤s):(if a.tmod s<0 then a.tmod s+s else a.tmod s)=a%s:=by
 have h1:=Int.emod_nonneg a (show s≠0 by omega)
 have h2:=Int.emod_lt_of_pos a (show 0<s by omega)
 have:=Int.tmod_eq_emod (a:=a) (b:=s)
 rw [this]
 split<;>split<;>omega
theorem q0or (a b:Int) (H:Heap) (ha:I64 a) (hb:I64 b):clD EE (.p (.fn 338)) [vI a,vI b] H=some (resT (addF a b),none):=by
 rw [q002 _ _ _ _ _ _ (noP _) fn338]
 unfold addF
 by_cases h1:9223372036854775807<a+b
 ·have w:=q0ky (n:=a+b) (by omega) (by omega)
  have c1: ¬a<a+b-18446744073709551616:=by omega
  have c2:0<b:=by omega
  have c3:b≠0:=by omega
  have c4: ¬(-9223372036854775808≤a+b∧a+b≤9223372036854775807):=by omega
  simp [St.enter,q000,resT,w,c1,c2,c3,c4]
 ·by_cases h2:a+b< -9223372036854775808
  ·have w:=q0kz (n:=a+b) (by omega) (by omega)
   have c1:a<a+b+18446744073709551616:=by omega
   have c2: ¬0<b:=by omega
   have c3:b≠0:=by omega
   have c4: ¬(-9223372036854775808≤a+b∧a+b≤9223372036854775807):=by omega
   simp [St.enter,q000,resT,w,c1,c2,c3,c4]
  ·have w:=w64 (n:=a+b) (by omega) (by omega)
   have c1:(a<a+b)=(0<b):=by rw [eq_iff_iff];omega
   have c4: -9223372036854775808≤a+b∧a+b≤9223372036854775807:=by omega
   simp [St.enter,q000,resT,w,c1,c4]
theorem q0x4 (a b:Int) (H:Heap) (ha:I64 a) (hb:I64 b):clD EE (.p (.fn 376)) [vI a,vI b] H=some (resT (subF a b),none):=by
 rw [q002 _ _ _ _ _ _ (noP _) fn376]
 unfold subF
 by_cases h1:9223372036854775807<a-b
 ·have w:=q0ky (n:=a-b) (by omega) (by omega)
  have c1:a-b-18446744073709551616<a:=by omega
  have c2: ¬0<b:=by omega
  have c3:b≠0:=by omega
  have c4: ¬(-9223372036854775808≤a-b∧a-b≤9223372036854775807):=by omega
  simp [St.enter,q000,resT,w,c1,c2,c3,c4]
 ·by_cases h2:a-b< -9223372036854775808
  ·have w:=q0kz (n:=a-b) (by omega) (by omega)
   have c1: ¬a-b+18446744073709551616<a:=by omega
   have c2:0<b:=by omega
   have c3:b≠0:=by omega
   have c4: ¬(-9223372036854775808≤a-b∧a-b≤9223372036854775807):=by omega
   simp [St.enter,q000,resT,w,c1,c2,c3,c4]
  ·have w:=w64 (n:=a-b) (by omega) (by omega)
   have c1:(a-b<a)=(0<b):=by rw [eq_iff_iff];omega
   have c4: -9223372036854775808≤a-b∧a-b≤9223372036854775807:=by omega
   simp [St.enter,q000,resT,w,c1,c4]
theorem q0cu (a s:Int) (hs:1≤s):0≤a%s∧a%s<s:=⟨Int.emod_nonneg a (by omega),Int.emod_lt_of_pos a (by omega)⟩
theorem q0l0 (a s:Int) (hs:1≤s): -s≤a.tmod s∧a.tmod s<s:=by
 have h:=q0dt a s hs
 have h2:=q0cu a s hs
 split at h<;>omega
theorem q0i0 (a s:Int) (H:Heap) (hs:1≤s) (h2:I64 s):clD EE (.p (.fn 411)) [vI a,vI s] H=some (vI (a%s),none):=by
 rw [q002 _ _ _ _ _ _ (noP _) fn411]
 have h:=q0dt a s hs
 have hb:=q0l0 a s hs
 have h0:s≠0:=by omega
 by_cases c:a.tmod s<0
 ·rw [if_pos c] at h
  have w:=w64 (n:=a%s) (by omega) (by omega)
  simp [St.enter,q000,h0,c,w,h]
 ·rw [if_neg c] at h
  rw [h] at c
  simp [St.enter,q000,h0,c,h]
theorem q0vd (a s:Int) (H:Heap) (ha:I64 a) (hs:I64 s):clD EE (.p (.fn 332)) [vI a,vI s] H=some (resT (downF a s),none):=by
 rw [q002 _ _ _ _ _ _ (noP _) fn332]
 unfold downF
 by_cases c:s<1
 ·simp [St.enter,q000,c,resT]
 ·have h1:=q0i0 a s H (by omega) hs
  have hb:=q0cu a s (by omega)
  have h2:=q0x4 a (a%s) H ha ⟨by omega,by omega⟩
  cases h3:subF a (a%s)<;>simp [h3,resT] at h2<;>simp [St.enter,q000,c,resT,h1,h2,h3]
theorem up_ev (a s:Int) (H:Heap) (ha:I64 a) (hs:I64 s):clD EE (.p (.fn 333)) [vI a,vI s] H=some (resT (upF a s),none):=by
 rw [q002 _ _ _ _ _ _ (noP _) fn333]
 unfold upF
 by_cases c:s<1
 ·simp [St.enter,q000,c,resT]
 ·have h1:=q0i0 a s H (by omega) hs
  have hb:=q0cu a s (by omega)
  by_cases c2:a%s=0
  ·simp [St.enter,q000,c,resT,h1,c2]
  ·have w:=w64 (n:=s-a%s) (by omega) (by omega)
   have c3:0<a%s:=by omega
   have h2:=q0or a (s-a%s) H ha ⟨by omega,by omega⟩
   cases h3:addF a (s-a%s)<;>simp [h3,resT] at h2<;>simp [St.enter,q000,c,c2,c3,w,resT,h1,h2,h3]
def orN (o:Option Int) (n:Int):Int:=match o with|some a=>a|none=>n
def upG (n s:Int):Int:=orN (upF n s) n
def downG (n s:Int):Int:=orN (downF n s) n
def nearG (n s:Int):Int:=if s<1 then n else if n%s<s-n%s then downG n s else upG n s
theorem or_ev (f:FuncId) (o:Option Int) (n s:Int) (H:Heap) (h:clD EE (.p (.fn f)) [vI n,vI s] H=some (resT o,none)):clD EE (.p (.fn 331)) [vI n,vI s,.p (.fn f)] H=some (vI (orN o n),none):=by
 rw [q002 _ _ _ _ _ _ (noP _) fn331]
 cases o<;>simp [resT] at h<;>simp [St.enter,q000,h,orN]
theorem q0bq (n s:Int) (H:Heap) (hn:I64 n) (hs:I64 s):clD EE (.p (.fn 196)) [vI n,vI s] H=some (vI (downG n s),none):=by
 rw [q002 _ _ _ _ _ _ (noP _) fn196]
 have h:=or_ev _ _ n s H (q0vd n s H hn hs)
 simp [St.enter,q000,h,downG]
theorem q07o (n s:Int) (H:Heap) (hn:I64 n) (hs:I64 s):clD EE (.p (.fn 197)) [vI n,vI s] H=some (vI (upG n s),none):=by
 rw [q002 _ _ _ _ _ _ (noP _) fn197]
 have h:=or_ev _ _ n s H (up_ev n s H hn hs)
 simp [St.enter,q000,h,upG]
theorem q0rl (n s:Int) (H:Heap) (hn:I64 n) (hs:I64 s):clD EE (.p (.fn 330)) [vI n,vI s] H=some (vI (nearG n s),none):=by
 rw [q002 _ _ _ _ _ _ (noP _) fn330]
 unfold nearG
 by_cases c:s<1
 ·simp [St.enter,q000,c]
 ·have h:=q0dt n s (by omega)
  have hb:=q0l0 n s (by omega)
  have hb2:=q0cu n s (by omega)
  have h0:s≠0:=by omega
  have w:=w64 (n:=s-n%s) (by omega) (by omega)
  have h1:=q0bq n s H hn hs
  have h2:=q07o n s H hn hs
  by_cases c2:n.tmod s<0
  ·rw [if_pos c2] at h
   have w3:=w64 (n:=n%s) (by omega) (by omega)
   by_cases c3:n%s<s-n%s<;>simp [St.enter,q000,c,c2,c3,h0,w,w3,h,h1,h2]
  ·rw [if_neg c2] at h
   rw [h] at c2
   by_cases c3:n%s<s-n%s<;>simp [St.enter,q000,c,c2,c3,h0,w,h,h1,h2]
theorem q0l1 {o:Option Int} {n:Int} (hn:I64 n) (h: ∀a,o=some a→I64 a):I64 (orN o n):=by
 cases o with
 |none=>exact hn
 |some a=>exact h a rfl
theorem q0rm {a b c:Int} (h:addF a b=some c):I64 c:=by unfold addF at h;split at h<;>simp at h;subst h;assumption
theorem q0rn {a b c:Int} (h:subF a b=some c):I64 c:=by unfold subF at h;split at h<;>simp at h;subst h;assumption
theorem q060 {n s:Int} (hn:I64 n):I64 (upG n s):=q0l1 hn fun a h=>by
 unfold upF at h;split at h
 ·cases h
 ·split at h
  ·simp at h;subst h;exact hn
  ·exact q0rm h
theorem q09o {n s:Int} (hn:I64 n):I64 (downG n s):=q0l1 hn fun a h=>by
 unfold downF at h;split at h
 ·cases h
 ·exact q0rn h
theorem q0os {n s:Int} (hn:I64 n):I64 (nearG n s):=by
 unfold nearG;split
 ·exact hn
 ·split
  ·exact q09o hn
  ·exact q060 hn
def inR (lo hi:Int) (l:List Int):Bool:= !l.any fun x=>decide (x<lo)||decide (hi<x)
def wiE (x:V) (H:Heap) (p q:Nat) (n:Nat) (i:Nat):St:=⟨[(1,.ptr p 0),(2,.ptr q 0),(7,x),(8,vI n),(9,vI i)],[],H,H.length,[]⟩
def wiX (x:V) (H:Heap) (p q:Nat) (n:Nat):Ex×St:=(.exit 0,⟨[(1,.ptr p 0),(2,.ptr q 0),(7,x),(8,vI n),(9,vI n),(10,vB false)],[],H,H.length,[]⟩)
def wiB (H:Heap):Ex×St:=(.ret,⟨[(4,vB false)],[],H,H.length,[]⟩)
structure Reads (H:Heap) (x:V) (l:List Int):Prop where
 len:lenV x=some l.length
 at_: ∀(i:Nat) (v:Int),l[i]? =some v→ ∃a,ixsI H x (.p (.int .i64 (i:Int))) 1=some a∧ ∀env loc base dirty,q00t ⟨env,loc,H,base,dirty⟩ a 1=some [vI v]
theorem q058 (H:Heap) (l:List Int):Reads H (sli l) l:=⟨by simp,fun i v h=>⟨_,q01q H encI h rfl,fun _ _ _ _=>rfl⟩⟩
theorem q0ot (l:List Int) (hn:l.length≤1000000) (x:V) (H:Heap) (hx:Reads H x l) (p q:Nat) (lo hi:Int) (hp:Eng.boxAt H p=some [vI lo]) (hq:Eng.boxAt H q=some [vI hi]):
  evD EE q0dq (wiE x H p q l.length 0)=some (if (l.any fun x=>decide (x<lo)||decide (hi<x))=true then wiB H else wiX x H p q l.length):=by
 unfold q0dq
 refine Eq.trans (q04j l (fun (_:Unit) i=>wiE x H p q l.length i) (fun _ _=>True) (stepB (fun x=>decide (x<lo)||decide (hi<x)) (wiB H)) (fun _=>wiX x H p q l.length) (fun _ _=>rfl) ?_ ?_ () 0 trivial (Nat.zero_le _)) (by rw [q0ds];rfl)
 ·rintro _ i v-hv
  have hlt:=(List.getElem?_eq_some_iff.1 hv).1
  have w1:IntKind.i64.wrap ((i:Int)+1)=((i+1:Nat):Int):=w64 (by omega) (by omega)
  obtain ⟨a,ha,hl⟩:=hx.at_ i v hv
  have e1:subs [vI lo] 0 1=some [vI lo]:=rfl
  have e2:subs [vI hi] 0 1=some [vI hi]:=rfl
  by_cases c1:v<lo
  ·simp [stepB,wiE,wiB,hlt,ha,hl,hp,hq,e1,e2,c1]
  ·by_cases c2:hi<v
   ·simp [stepB,wiE,wiB,hlt,ha,hl,hp,hq,e1,e2,c1,c2]
   ·simp [stepB,wiE,hlt,ha,hl,hp,hq,e1,e2,c1,c2,w1]
 ·rintro _-
  simp [wiE,wiX]
theorem q05u (l:List Int) (hn:l.length≤1000000) (x:V) (H:Heap) (hx:Reads H x l) (p q:Nat) (lo hi:Int) (hp:Eng.boxAt H p=some [vI lo]) (hq:Eng.boxAt H q=some [vI hi]):
  clD EE (.p (.fn 473)) [x,.ptr p 0,.ptr q 0] H=some (vB (inR lo hi l),none):=by
 rw [q002 _ _ _ _ _ _ (noP _) fn473]
 have key:=q0ot l hn x H hx p q lo hi hp hq
 have hl:=hx.len
 unfold inR
 cases b:l.any fun x=>decide (x<lo)||decide (hi<x) with
 |true=>
  rw [b,if_pos rfl] at key
  simp [wiE,wiB] at key
  simp [St.enter,q000,hl,key]
 |false=>
  rw [b,if_neg (by simp)] at key
  simp [wiE,wiX] at key
  simp [St.enter,q000,hl,key]
theorem q042 (l:List Int) (hn:l.length≤1000000) (x:V) (H:Heap) (hx:Reads H x l) (p q:Nat) (lo hi:Int) (hp:Eng.boxAt H p=some [vI lo]) (hq:Eng.boxAt H q=some [vI hi]):
  clD EE (.p (.fn 474)) [x,.ptr p 0,.ptr q 0] H=some (vB (inR lo hi l),none):=by
 rw [←q05u l hn x H hx p q lo hi hp hq,q002 _ _ _ _ _ _ (noP _) fn473,q002 _ _ _ _ _ _ (noP _) fn474]
 rfl
theorem q02p (a b:Int) (H:Heap):clD EE (.p (.fn 437)) [vI a,vI b] H=some (.fn (.func 473) [] [.ptr H.length 0,.ptr (H.length+1) 0],some (H++[.box [vI a],.box [vI b]],[])):=by
 rw [q002 _ _ _ _ _ _ (noP _) fn437]
 simp [St.enter,q000]
theorem q026 (a b:Int) (H:Heap):clD EE (.p (.fn 438)) [vI a,vI b] H=some (.fn (.func 474) [] [.ptr H.length 0,.ptr (H.length+1) 0],some (H++[.box [vI a],.box [vI b]],[])):=by
 rw [q002 _ _ _ _ _ _ (noP _) fn438]
 simp [St.enter,q000]
def geomF (g:Geom):Int:=
 if inR 1 8 [g.cols]=false then 6
 else if inR 1 1073741823 [g.wide,g.high]=false then 7
 else if inR 0 1073741823 [g.gap,g.noteMost,g.topMost,g.botMost]=false then 7
 else if inR 0 536870912 [g.rule,g.sep,g.grid]=false then 7
 else if inR 1 g.high [g.first]=false then 7
 else if inR 0 g.first [g.grid]=false then 7
 else if inR 0 4 [g.topMany,g.botMany]=false then 7
 else if inR 0 1048576 [g.club,g.widow,g.split,g.defer,g.spare]=false then 7
 else 0
theorem q0ez (H:Heap) (id:Nat) (l:List Int) (hb:Eng.boxAt H id=some (l.map vI)):Reads H (.bvs id 0 l.length 1) l:=by
 refine ⟨rfl,fun i v h=> ?_⟩
 have hlt:=(List.getElem?_eq_some_iff.1 h).1
 refine ⟨.ptr id i,by simp [ixsI,ixsV,hlt],fun env loc base dirty=> ?_⟩
 have h2:(l.map vI)[i]? =some (vI v):=by simp [h]
 obtain ⟨h3,h4⟩:=List.getElem?_eq_some_iff.1 h2
 have h5:i+1≤(l.map vI).length:=h3
 simp only [q0wi,hb,Option.bind_some,subs,h5,if_true]
 rw [List.drop_eq_getElem_cons h3,h4];rfl
theorem q0i1 (id n s:Nat) (h:n≠0):slcaV s n (.ptr id 0) none=some (.bvs id 0 n s):=by simp [slcaV,h]
theorem q09p (g:Geom) (H:Heap):clD EE (.p (.fn 398)) [vGeom g] H=some (vI (geomF g),none):=by
 rw [q002 _ _ _ _ _ _ (noP _) fn398]
 have f1:=q05u [g.cols] (by simp) (sli [g.cols]) (H++[.box [vI 1],.box [vI 8]]) (q058 _ _) H.length (H.length+1) 1 8 (by simp) (by simp)
 have f2:=q042 [g.wide,g.high] (by simp) (sli [g.wide,g.high]) (H++[.box [vI 1],.box [vI 8],.box [vI 1],.box [vI 1073741823],.box [vI 0],.box [vI 1073741823],.box [vI 0],.box [vI 536870912],.box [vI g.gap,vI g.noteMost,vI g.topMost,vI g.botMost],.box [vI g.club,vI g.widow,vI g.split,vI g.defer,vI g.spare]]) (q058 _ _) (H.length+2) (H.length+3) 1 1073741823 (by simp) (by simp)
 have f3:=q042 [g.gap,g.noteMost,g.topMost,g.botMost] (by simp) (.bvs (H.length+8) 0 4 1) (H++[.box [vI 1],.box [vI 8],.box [vI 1],.box [vI 1073741823],.box [vI 0],.box [vI 1073741823],.box [vI 0],.box [vI 536870912],.box [vI g.gap,vI g.noteMost,vI g.topMost,vI g.botMost],.box [vI g.club,vI g.widow,vI g.split,vI g.defer,vI g.spare]]) (q0ez _ _ [g.gap,g.noteMost,g.topMost,g.botMost] (by simp)) (H.length+4) (H.length+5) 0 1073741823 (by simp) (by simp)
 have f4:=q042 [g.rule,g.sep,g.grid] (by simp) (sli [g.rule,g.sep,g.grid]) (H++[.box [vI 1],.box [vI 8],.box [vI 1],.box [vI 1073741823],.box [vI 0],.box [vI 1073741823],.box [vI 0],.box [vI 536870912],.box [vI g.gap,vI g.noteMost,vI g.topMost,vI g.botMost],.box [vI g.club,vI g.widow,vI g.split,vI g.defer,vI g.spare]]) (q058 _ _) (H.length+6) (H.length+7) 0 536870912 (by simp) (by simp)
 have f5:=q042 [g.first] (by simp) (sli [g.first]) (H++[.box [vI 1],.box [vI 8],.box [vI 1],.box [vI 1073741823],.box [vI 0],.box [vI 1073741823],.box [vI 0],.box [vI 536870912],.box [vI g.gap,vI g.noteMost,vI g.topMost,vI g.botMost],.box [vI g.club,vI g.widow,vI g.split,vI g.defer,vI g.spare],.box [vI 1],.box [vI g.high]]) (q058 _ _) (H.length+10) (H.length+11) 1 g.high (by simp) (by simp)
 have f6:=q042 [g.grid] (by simp) (sli [g.grid]) (H++[.box [vI 1],.box [vI 8],.box [vI 1],.box [vI 1073741823],.box [vI 0],.box [vI 1073741823],.box [vI 0],.box [vI 536870912],.box [vI g.gap,vI g.noteMost,vI g.topMost,vI g.botMost],.box [vI g.club,vI g.widow,vI g.split,vI g.defer,vI g.spare],.box [vI 1],.box [vI g.high],.box [vI 0],.box [vI g.first]]) (q058 _ _) (H.length+12) (H.length+13) 0 g.first (by simp) (by simp)
 have f7:=q05u [g.topMany,g.botMany] (by simp) (sli [g.topMany,g.botMany]) (H++[.box [vI 1],.box [vI 8],.box [vI 1],.box [vI 1073741823],.box [vI 0],.box [vI 1073741823],.box [vI 0],.box [vI 536870912],.box [vI g.gap,vI g.noteMost,vI g.topMost,vI g.botMost],.box [vI g.club,vI g.widow,vI g.split,vI g.defer,vI g.spare],.box [vI 1],.box [vI g.high],.box [vI 0],.box [vI g.first],.box [vI 0],.box [vI 4]]) (q058 _ _) (H.length+14) (H.length+15) 0 4 (by simp) (by simp)
 have f8:=q05u [g.club,g.widow,g.split,g.defer,g.spare] (by simp) (.bvs (H.length+9) 0 5 1) (H++[.box [vI 1],.box [vI 8],.box [vI 1],.box [vI 1073741823],.box [vI 0],.box [vI 1073741823],.box [vI 0],.box [vI 536870912],.box [vI g.gap,vI g.noteMost,vI g.topMost,vI g.botMost],.box [vI g.club,vI g.widow,vI g.split,vI g.defer,vI g.spare],.box [vI 1],.box [vI g.high],.box [vI 0],.box [vI g.first],.box [vI 0],.box [vI 4],.box [vI 0],.box [vI 1048576]]) (q0ez _ _ [g.club,g.widow,g.split,g.defer,g.spare] (by simp)) (H.length+16) (H.length+17) 0 1048576 (by simp) (by simp)
 have s1:=fun id=>q0i1 id 4 1 (by simp)
 have s2:=fun id=>q0i1 id 5 1 (by simp)
 simp only [sli,List.map_cons,List.map_nil,encI] at f1 f2 f3 f4 f5 f6 f7 f8
 unfold geomF
 cases e1:inR 1 8 [g.cols] with
 |false=>rw [e1] at f1;simp [St.enter,q000,subs,q001,q02p,q026,f1]
 |true=>
  rw [e1] at f1
  cases e2:inR 1 1073741823 [g.wide,g.high] with
  |false=>rw [e2] at f2;simp [St.enter,q000,subs,q001,q02p,q026,f1,f2]
  |true=>
   rw [e2] at f2
   cases e3:inR 0 1073741823 [g.gap,g.noteMost,g.topMost,g.botMost] with
   |false=>rw [e3] at f3;simp [St.enter,q000,subs,q001,q02p,q026,f1,f2,f3,s1,s2]
   |true=>
    rw [e3] at f3
    cases e4:inR 0 536870912 [g.rule,g.sep,g.grid] with
    |false=>rw [e4] at f4;simp [St.enter,q000,subs,q001,q02p,q026,f1,f2,f3,f4,s1,s2]
    |true=>
     rw [e4] at f4
     cases e5:inR 1 g.high [g.first] with
     |false=>rw [e5] at f5;simp [St.enter,q000,subs,q001,q02p,q026,f1,f2,f3,f4,f5,s1,s2]
     |true=>
      rw [e5] at f5
      cases e6:inR 0 g.first [g.grid] with
      |false=>rw [e6] at f6;simp [St.enter,q000,subs,q001,q02p,q026,f1,f2,f3,f4,f5,f6,s1,s2]
      |true=>
       rw [e6] at f6
       cases e7:inR 0 4 [g.topMany,g.botMany] with
       |false=>rw [e7] at f7;simp [St.enter,q000,subs,q001,q02p,q026,f1,f2,f3,f4,f5,f6,f7,s1,s2]
       |true=>
        rw [e7] at f7
        cases e8:inR 0 1048576 [g.club,g.widow,g.split,g.defer,g.spare] with
        |false=>rw [e8] at f8;simp [St.enter,q000,subs,q001,q02p,q026,f1,f2,f3,f4,f5,f6,f7,f8,s1,s2]
        |true=>rw [e8] at f8;simp [St.enter,q000,subs,q001,q02p,q026,f1,f2,f3,f4,f5,f6,f7,f8,s1,s2]
theorem q08c {n s:Int} (h0:0≤n) (h1:n≤1073741823) (hs:1≤s) (h2:s≤1073741823):0≤upG n s∧upG n s≤4294967296:=by
 have a:=Int.emod_nonneg n (show s≠0 by omega)
 have b:=Int.emod_lt_of_pos n (show 0<s by omega)
 unfold upG upF
 rw [if_neg (by omega)]
 split
 ·simp only [orN];omega
 ·unfold addF
  split<;>simp only [orN]<;>omega
theorem q08d {n s:Int} (h0:0≤n) (h1:n≤1073741823) (hs:1≤s) (h2:s≤1073741823):0≤downG n s∧downG n s≤4294967296:=by
 have a:=Int.emod_nonneg n (show s≠0 by omega)
 have b:=Int.emod_lt_of_pos n (show 0<s by omega)
 have c1:0≤s*(n/s):=Int.mul_nonneg (by omega) (Int.ediv_nonneg h0 (by omega))
 have c2:=Int.emod_add_mul_ediv n s
 unfold downG downF
 rw [if_neg (by omega)]
 unfold subF
 split<;>simp only [orN]<;>omega
theorem q03p {lo hi:Int} {l:List Int} (h: ¬inR lo hi l=false): ∀x∈l,lo≤x∧x≤hi:=by
 intro x hx
 have h1:inR lo hi l=true:=by simpa using h
 unfold inR at h1
 have h2:(l.any fun x=>decide (x<lo)||decide (hi<x))=false:=by simpa using h1
 have:=List.any_eq_false.1 h2 x hx
 simp at this
 omega
structure Stt where
 at_:Int
 col:Int
 note:Int
 line:Int
 h:C3
 deriving Inhabited,DecidableEq
abbrev vStt (s:Stt):V:= .agg [vI s.at_,vI s.col,vI s.note,vI s.line,vI s.h.a,vI s.h.b,vI s.h.c]
theorem q0br {e:List V} {j:Nat} {v:V} (h:e[j]? =some v):subs e j 1=some [v]:=by
 obtain ⟨h1,h2⟩:=List.getElem?_eq_some_iff.1 h
 have h3:j+1≤e.length:=h1
 simp [subs,h3,List.drop_eq_getElem_cons h1,h2]
theorem q077 {e:List V} {j:Nat} {v u:V} (h:e[j]? =some v):q001 e j [u]=some (e.set j u):=by
 obtain ⟨h1,h2⟩:=List.getElem?_eq_some_iff.1 h
 have h3:j+1≤e.length:=h1
 simp [q001,h1,h3,List.set_eq_take_append_cons_drop]
theorem q08e (f:FuncId) (g:Int→Int) (n s:Int) (H:Heap) (id tot i j sz:Nat) (es:List (List V)) (e:List V) (hr:Eng.rowAt H id=some (sz,es)) (ht:es.length=tot) (he:es[i]? =some e) (hj:e[j]? =some (vI n)) (hlt:id<H.length)
  (hg: ∀H',clD EE (.p (.fn f)) [vI n,vI s] H'=some (vI (g n),none)):
  clD EE (.p (.fn 195)) [.agg [vI s],.p (.fn f),.vsl [[.rptr id tot i j]]] H=some (.tup [],some (H.set id (.row sz (es.set i (e.set j (vI (g n))))),[id])):=by
 rw [q002 _ _ _ _ _ _ (noP _) fn195]
 have key:evD EE q07k ⟨[(1,.p (.fn f)),(3,.lptr 3 0),(8,.vsl [[.rptr id tot i j]]),(9,.p (.int .i64 1)),(10,.p (.int .i64 0))],[(3,[vI s])],H,H.length,[]⟩=
   some (.exit 0,⟨[(1,.p (.fn f)),(3,.lptr 3 0),(8,.vsl [[.rptr id tot i j]]),(9,.p (.int .i64 1)),(10,.p (.int .i64 1)),(11,.p (.bool false))],[(3,[vI s])],H.set id (.row sz (es.set i (e.set j (vI (g n))))),H.length,[id]⟩):=by
  unfold q07k
  have w:IntKind.i64.wrap 1=1:=w64 (by omega) (by omega)
  rw [q009]
  have e3:subs [vI s] 0 1=some [vI s]:=rfl
  have e4:subs [V.rptr id tot i j] 0 1=some [V.rptr id tot i j]:=rfl
  simp [q0br hj,q077 hj,hr,ht,he,hg,hlt,w,ixsI,ixsV,e3,e4]
  rw [q009]
  simp
 simp [St.enter,q000,key]
theorem q06v (f:FuncId) (g:Int→Int) (n m s:Int) (H:Heap) (id a b:Nat) (cs:List V) (hr:Eng.boxAt H id=some cs) (ha:cs[a]? =some (vI n)) (hb:cs[b]? =some (vI m)) (hab:a≠b) (hlt:id<H.length)
  (hg: ∀H',clD EE (.p (.fn f)) [vI n,vI s] H'=some (vI (g n),none)) (hg2: ∀H',clD EE (.p (.fn f)) [vI m,vI s] H'=some (vI (g m),none)):
  clD EE (.p (.fn 195)) [.agg [vI s],.p (.fn f),.vsl [[.ptr id a],[.ptr id b]]] H=some (.tup [],some (H.set id (.box ((cs.set a (vI (g n))).set b (vI (g m)))),[id,id])):=by
 rw [q002 _ _ _ _ _ _ (noP _) fn195]
 have key:evD EE q07k ⟨[(1,.p (.fn f)),(3,.lptr 3 0),(8,.vsl [[.ptr id a],[.ptr id b]]),(9,.p (.int .i64 2)),(10,.p (.int .i64 0))],[(3,[vI s])],H,H.length,[]⟩=
   some (.exit 0,⟨[(1,.p (.fn f)),(3,.lptr 3 0),(8,.vsl [[.ptr id a],[.ptr id b]]),(9,.p (.int .i64 2)),(10,.p (.int .i64 2)),(11,.p (.bool false))],[(3,[vI s])],H.set id (.box ((cs.set a (vI (g n))).set b (vI (g m)))),H.length,[id,id]⟩):=by
  unfold q07k
  have w:IntKind.i64.wrap 1=1:=w64 (by omega) (by omega)
  have w2:IntKind.i64.wrap 2=2:=w64 (by omega) (by omega)
  have e3:subs [vI s] 0 1=some [vI s]:=rfl
  have e4: ∀x:V,subs [x] 0 1=some [x]:=fun _=>rfl
  have hb2:(cs.set a (vI (g n)))[b]? =some (vI m):=by rw [List.getElem?_set_ne hab];exact hb
  have hset:Eng.boxAt (H.set id (.box (cs.set a (vI (g n))))) id=some (cs.set a (vI (g n))):=by simp [Eng.boxAt,List.getElem?_set,hlt]
  rw [q009]
  simp [q0br ha,q077 ha,hr,hg,hlt,w,ixsI,ixsV,e3,e4]
  rw [q009]
  simp [q0br hb2,q077 hb2,hset,hg2,hlt,w2,ixsI,ixsV,e3,e4]
  rw [q009]
  simp
 simp [St.enter,q000,key]
def itemG (s:Int) (x:Item):Item:=if x.k=1 then {x with h:=upG x.h s} else if x.k=2 then {x with h:=nearG x.h s,str:=0,ord:=0,shr:=0} else x
def noteG (s:Int) (n:Note):Note:= {n with lines:=n.lines.map fun x=>upG x s}
def q039 (s:Int) (f:Float):Float:= {f with h:=upG f.h s}
def geomG (g:Geom):Geom:= {g with high:=downG g.high g.grid,first:=downG g.first g.grid,rule:=upG g.rule g.grid,sep:=upG g.sep g.grid}
def snapG (j:Job):Job:=if j.g.grid<1 then j else ⟨geomG j.g,j.items.map (itemG j.g.grid),j.notes.map (noteG j.g.grid),j.floats.map (q039 j.g.grid)⟩
abbrev q07p (x:Item):Prop:=I64 x.k∧I64 x.h∧I64 x.f∧I64 x.str∧I64 x.ord∧I64 x.shr∧I64 x.n
abbrev q0du (f:Float):Prop:=I64 f.c∧I64 f.h∧I64 f.w
def q06h (s:Int) (l:List Item) (H:Heap) (M:List Item) (i:Nat):St:=
 ⟨[(2,.lptr 2 0),(5,.row H.length l.length 0 l.length),(11,vI l.length),(12,vI i)],[(2,[vI s])],H++[.row 7 (upV (M.map q005))],H.length,[]⟩
def q0cv (s:Int) (l:List Item) (H:Heap) (M:List Item):Ex×St:=
 (.exit 0,⟨[(2,.lptr 2 0),(5,.row H.length l.length 0 l.length),(11,vI l.length),(12,vI l.length),(13,.p (.bool false))],[(2,[vI s])],H++[.row 7 (upV (M.map q005))],H.length,[]⟩)
theorem q0ro (s:Int) (hs:I64 s) (l:List Item) (hl: ∀x∈l,q07p x) (hn:l.length≤1000000) (H:Heap):
  evD EE q07i (q06h s l H l 0)=some (q0cv s l H (l.map (itemG s))):=by
 unfold q07i
 refine (q02d l (q06h s l H) (fun M i=>M.length=l.length∧M.drop i=l.drop i) (fun M i x=>M.set i (itemG s x)) (q0cv s l H) (fun _ _=>rfl) ?_ ?_ l 0 ⟨rfl,rfl⟩ (Nat.zero_le _)).trans ?_
 ·rintro M i x ⟨hM,hd⟩ hx
  have hlt:=(List.getElem?_eq_some_iff.1 hx).1
  have hMx:M[i]? =some x:=by
   have:=congrArg (·[0]?) hd
   simpa [List.getElem?_drop,hx] using this
  have w:IntKind.i64.wrap ((i:Int)+1)=((i+1:Nat):Int):=w64 (by omega) (by omega)
  have ho:=hl x (List.mem_of_getElem? hx)
  have hu:(upV (M.map q005))[i]? =some ((q005 x).map .p):=by simp [upV,hMx]
  have hset:M.set i (itemG s x)=M.set i (itemG s x):=rfl
  have inv:(M.set i (itemG s x)).length=l.length∧(M.set i (itemG s x)).drop (i+1)=l.drop (i+1):=by
   refine ⟨by simp [hM],?_⟩
   rw [List.drop_set_of_lt (Nat.lt_succ_self i)]
   have:=congrArg (List.drop 1) hd
   simpa [List.drop_drop,Nat.add_comm] using this
  refine ⟨?_,inv⟩
  have hrow:Eng.rowAt (H++[DObj.row 7 (upV (M.map q005))]) H.length=some (7,upV (M.map q005)):=by simp
  have hlen:(upV (M.map q005)).length=l.length:=by simp [hM]
  have hj:((q005 x).map V.p)[1]? =some (vI x.h):=rfl
  have t1:=q08e 197 (fun n=>upG n s) x.h s (H++[DObj.row 7 (upV (M.map q005))]) H.length l.length i 1 7 _ _ hrow hlen hu hj (by simp) (fun H'=>q07o x.h s H' ho.2.1 hs)
  have t2:=q08e 330 (fun n=>nearG n s) x.h s (H++[DObj.row 7 (upV (M.map q005))]) H.length l.length i 1 7 _ _ hrow hlen hu hj (by simp) (fun H'=>q0rl x.h s H' ho.2.1 hs)
  by_cases k1:x.k=1
  ·have e:(upV (M.map q005)).set i (((q005 x).map V.p).set 1 (vI (upG x.h s)))=upV ((M.set i (itemG s x)).map q005):=by
    rw [←q05z];simp [itemG,k1,q005]
   rw [e] at t1
   simp [-getElem?_pos,q06h,hlt,q014,hM,hu,q005,subs,k1,t1,w]
  ·by_cases k2:x.k=2
   ·have g: ∀a,((upV (M.map q005)).set i a)[i]? =some a:=fun a=>by rw [List.getElem?_set_self (by simp [hM,hlt])]
    have e:(upV (M.map q005)).set i [vI x.k,vI (nearG x.h s),vI x.f,vI 0,vI 0,vI 0,vI x.n]=upV ((M.set i (itemG s x)).map q005):=by
     rw [←q05z];simp [itemG,k2,q005]
    rw [k2] at e
    simp [-getElem?_pos,q06h,hlt,q014,hM,hu,q005,subs,q001,k1,k2,t2,w,g]
    simp [q005,upV] at e⊢
    exact e
   ·have e:M.set i (itemG s x)=M:=by
     have:itemG s x=x:=by simp [itemG,k1,k2]
     rw [this]
     refine List.ext_getElem? fun j=> ?_
     rw [List.getElem?_set]
     split
     ·rename_i h;subst h;rw [if_pos (by omega),hMx]
     ·rfl
    rw [e]
    simp [-getElem?_pos,q06h,hlt,q014,hM,hu,q005,subs,q001,k1,k2,w]
 ·rintro M ⟨hM,hd⟩
  simp [q06h,q0cv]
 ·have:=q089 (itemG s) l []
  simp at this
  simp [this]
theorem q0fz:EE.fns 189=some (q04x 7 [vI 0,vI 0,vI 0,vI 0,vI 0,vI 0,vI 0]):=fn189
theorem q0dv:EE.fns 190=some (q04x 3 [vI 0,vI 0,vI 0]):=fn190
theorem q0jn:EE.fns 191=some (q04x 1 [vI 0]):=fn191
theorem q0i2:EE.fns 192=some (q04x 1 [vI 0]):=fn192
def q00j {α:Type} (n:Nat) (l:List α):V:=if l=[] then .nils else .row n l.length 0 l.length
def q03a {α:Type} (enc:α→List PV) (s:Nat) (H:Heap) (l:List α):Option (Heap×List Nat):=if l=[] then none else some (H++[.row s (upV (l.map enc))],[])
theorem q04y {α:Type} (f:FuncId) (s:Nat) (z:List V) (H:Heap) (enc:α→List PV) (hs: ∀x,(enc x).length=s) (hf:EE.fns f=some (q04x s z)) (l:List α) (hm:l.length<most) (hp:EE.prims f=none:=by exact noP _):
  clD EE (.p (.fn f)) [.p (.sl (l.map enc))] H=some (q00j H.length l,q03a enc s H l):=by
 cases l with
 |nil=>exact q0ct EE f s z H _ hp hf rfl
 |cons x r=>
  have:=q0rc EE f s z H (enc x) (r.map enc) hp hf (by simp [hs]) (by simpa using hm)
  simpa [q00j,q03a] using this
theorem q0rp (s:Int) (hs:I64 s) (l:List Item) (hl: ∀x∈l,q07p x) (hn:l.length≤1000000) (H:Heap):
  clD EE (.p (.fn 193)) [.agg [vI s],q00d l] H=some (q00d (l.map (itemG s)),none):=by
 rw [q002 _ _ _ _ _ _ (noP _) fn193]
 have hc:=q04y _ 7 _ H q005 (fun _=>rfl) q0fz l (by unfold most;omega)
 cases l with
 |nil=>
  simp [q00j,q03a] at hc
  have key:evD EE q07i ⟨[(2,.lptr 2 0),(5,.nils),(11,vI 0),(12,vI 0)],[(2,[vI s])],H,H.length,[]⟩=some (.exit 0,⟨[(2,.lptr 2 0),(5,.nils),(11,vI 0),(12,vI 0),(13,.p (.bool false))],[(2,[vI s])],H,H.length,[]⟩):=by
   unfold q07i
   rw [q009]
   simp
  simp [St.enter,q000,subs,hc,key]
 |cons x r=>
  have key:=q0ro s hs (x::r) hl hn H
  simp [q00j,q03a] at hc
  simp [q06h,q0cv] at key
  simp [St.enter,q000,subs,hc,key]
def q09q (s:Int) (w:V) (n i:Nat) (L:List Int) (H0:Nat) (id:Nat) (G:Heap) (B:Nat) (K:List Int) (k:Nat):St:=
 ⟨[(2,.lptr 2 0),(5,.row H0 n 0 n),(6,vI i),(12,w),(13,vI n),(14,vI i),(34,vI L.length),(35,vI k)],[(2,[vI s])],G.set id (.row 1 (upV (K.map encI))),B,[]⟩
def q0cw (s:Int) (w:V) (n i:Nat) (L:List Int) (H0:Nat) (id:Nat) (G:Heap) (B:Nat) (K:List Int):Ex×St:=
 (.exit 2,⟨[(2,.lptr 2 0),(5,.row H0 n 0 n),(6,vI i),(12,w),(13,vI n),(14,vI i),(34,vI L.length),(35,vI L.length),(36,.p (.bool false))],[(2,[vI s])],G.set id (.row 1 (upV (K.map encI))),B,[]⟩)
theorem q0dw (s:Int) (hs:I64 s) (w:V) (n i:Nat) (hi:i<n) (L:List Int) (hL: ∀x∈L,I64 x) (hn:L.length≤1000000) (H0 id:Nat) (G:Heap) (B:Nat) (es:List (List V)) (v2:V)
  (h0:Eng.rowAt G H0=some (2,es)) (he:es.length=n) (hei:es[i]? =some [.row id L.length 0 L.length,v2]) (hid:id<G.length) (hne:id≠H0) (hB:B≤id):
  evD EE q07j (q09q s w n i L H0 id G B L 0)=some (q0cw s w n i L H0 id G B (L.map fun x=>upG x s)):=by
 unfold q07j
 refine (q02d L (q09q s w n i L H0 id G B) (fun M k=>M.length=L.length∧M.drop k=L.drop k) (fun M k x=>M.set k (upG x s)) (q0cw s w n i L H0 id G B) (fun _ _=>rfl) ?_ ?_ L 0 ⟨rfl,rfl⟩ (Nat.zero_le _)).trans ?_
 ·rintro M k x ⟨hM,hd⟩ hx
  have hlt:=(List.getElem?_eq_some_iff.1 hx).1
  have hMx:M[k]? =some x:=by
   have:=congrArg (·[0]?) hd
   simpa [List.getElem?_drop,hx] using this
  have w1:IntKind.i64.wrap ((k:Int)+1)=((k+1:Nat):Int):=w64 (by omega) (by omega)
  have ho:=hL x (List.mem_of_getElem? hx)
  have hu:(upV (M.map encI))[k]? =some [vI x]:=by simp [upV,hMx,encI]
  have inv:(M.set k (upG x s)).length=L.length∧(M.set k (upG x s)).drop (k+1)=L.drop (k+1):=by
   refine ⟨by simp [hM],?_⟩
   rw [List.drop_set_of_lt (Nat.lt_succ_self k)]
   have:=congrArg (List.drop 1) hd
   simpa [List.drop_drop,Nat.add_comm] using this
  refine ⟨?_,inv⟩
  have hrow:=q0oo G id 1 (upV (M.map encI)) hid
  have hrow0:Eng.rowAt (G.set id (.row 1 (upV (M.map encI)))) H0=some (2,es):=by rw [q09m _ _ _ _ hne,h0]
  have hlen:(upV (M.map encI)).length=L.length:=by simp [hM]
  have t1:=q08e 197 (fun n=>upG n s) x s (G.set id (.row 1 (upV (M.map encI)))) id L.length k 0 1 _ _ hrow hlen hu rfl (by simpa using hid) (fun H'=>q07o x s H' ho hs)
  have e:(upV (M.map encI)).set k [vI (upG x s)]=upV ((M.set k (upG x s)).map encI):=by
   rw [←q05z];rfl
  simp only [List.set_cons_zero,e,List.set_set] at t1
  simp [-getElem?_pos,q09q,hlt,hi,he,hei,q014,hM,hrow,hrow0,hu,subs,t1,w1,hB]
 ·rintro M ⟨hM,hd⟩
  simp [q09q,q0cw]
 ·have:=q089 (fun x=>upG x s) L []
  simp at this
  simp [this]
abbrev q0i3 (n:Note):Prop:=(∀x∈n.lines,I64 x)∧n.lines.length≤1000000∧n.pens.length≤1000000
def rowsH (l:List Int):Heap:=if l=[] then [] else [.row 1 (upV (l.map encI))]
def noteH (s:Int) (n:Note):Heap:=rowsH (n.lines.map fun x=>upG x s)++rowsH n.pens
def noteV (id:Nat) (n:Note):List V:=[q00j id n.lines,q00j (id+(if n.lines=[] then 0 else 1)) n.pens]
def q01n (s:Int):List Note→Heap
 |[]=>[]
 |n::r=>noteH s n++q01n s r
def q01o (s:Int):Nat→List Note→List (List V)
 |_,[]=>[]
 |id,n::r=>noteV id n::q01o s (id+(noteH s n).length) r
theorem q0cx (s:Int): ∀a b,q01n s (a++b)=q01n s a++q01n s b
 |[],b=>rfl
 |n::r,b=>by simp only [List.cons_append,q01n,q0cx s r b,List.append_assoc]
theorem q0cy (s:Int): ∀a id b,q01o s id (a++b)=q01o s id a++q01o s (id+(q01n s a).length) b
 |[],id,b=>by simp [q01o,q01n]
 |n::r,id,b=>by simp only [List.cons_append,q01o,q01n,q0cy s r,List.length_append,Nat.add_assoc]
theorem q08f (s:Int): ∀l id,(q01o s id l).length=l.length
 |[],_=>rfl
 |n::r,id=>by simp only [q01o,List.length_cons,q08f s r]
def q04l (s:Int) (l:List Note) (H:Heap) (i:Nat):Heap:=
 H++[.row 2 (q01o s (H.length+1) (l.take i)++List.replicate (l.length-i) [.nils,.nils])]++q01n s (l.take i)
def q09r (s:Int) (l:List Note) (H:Heap) (i:Nat):St:=
 ⟨[(2,.lptr 2 0),(5,.row H.length l.length 0 l.length),(12,q00v l),(13,vI l.length),(14,vI i)],[(2,[vI s])],q04l s l H i,H.length,[]⟩
def q09s (s:Int) (l:List Note) (H:Heap):Ex×St:=
 (.exit 0,⟨[(2,.lptr 2 0),(5,.row H.length l.length 0 l.length),(12,q00v l),(13,vI l.length),(14,vI l.length),(15,.p (.bool false))],[(2,[vI s])],q04l s l H l.length,H.length,[]⟩)
theorem q0i4 (s:Int) (l:List Note) (H:Heap) (i:Nat) (n:Note) (hx:l[i]? =some n):
  q04l s l H (i+1)=H++[.row 2 (q01o s (H.length+1) (l.take i)++noteV (H.length+1+(q01n s (l.take i)).length) n::List.replicate (l.length-i-1) [.nils,.nils])]++q01n s (l.take i)++noteH s n:=by
 have e:l.take (i+1)=l.take i++[n]:=by rw [List.take_add_one,hx];rfl
 unfold q04l
 rw [e,q0cy,q0cx]
 simp [q01o,q01n,Nat.sub_sub]
theorem q0rq (H:Heap) (l:List Int) (hm:l.length≤1000000):clD EE (.p (.fn 191)) [sli l] H=some (q00j H.length l,q03a encI 1 H l):=q04y _ 1 _ H encI (fun _=>rfl) q0jn l (by unfold most;omega)
theorem q0ou (H:Heap) (l:List Int) (hm:l.length≤1000000):clD EE (.p (.fn 192)) [sli l] H=some (q00j H.length l,q03a encI 1 H l):=q04y _ 1 _ H encI (fun _=>rfl) q0i2 l (by unfold most;omega)
theorem q0ma (a b c d e f:V) (u:List V) (H:Heap) (B:Nat):evD EE q07j ⟨[(2,a),(5,b),(6,c),(12,d),(13,e),(14,f),(34,vI 0),(35,vI 0)],[(2,u)],H,B,[]⟩=
  some (.exit 2,⟨[(2,a),(5,b),(6,c),(12,d),(13,e),(14,f),(34,vI 0),(35,vI 0),(36,.p (.bool false))],[(2,u)],H,B,[]⟩):=by
 unfold q07j
 rw [q009]
 simp
theorem q0ve {α:Type} {A:List α} {i:Nat} (h:A.length=i) (x:α) (r:List α):(A++x::r)[i]? =some x:=by subst h;simp
theorem q0vf {α:Type} {A:List α} {i:Nat} (h:A.length=i) (x y:α) (r:List α):(A++x::r).set i y=A++y::r:=by subst h;simp
@[simp] theorem q0x5 {α:Type} (n:Nat) (l:List α):(q00j n l).cells=[q00j n l] :=by unfold q00j;split<;>rfl
@[simp] theorem q0za {α:Type} (n:Nat) (l:List α):(q00j n l).oneB=true:=by unfold q00j;split<;>rfl
@[simp] theorem q0zb {α:Type} (n:Nat) (l:List α):(q00j n l).outB=true:=by unfold q00j;split<;>rfl
@[simp] theorem q0zc {α:Type} (n:Nat) (l:List α):(q00j n l).notL=true:=by unfold q00j;split<;>rfl
@[simp] theorem q0cz {α:Type} (n:Nat):q00j n ([] :List α)= .nils:=rfl
@[simp] theorem q0f0:rowsH [] =[] :=rfl
@[simp] theorem q05h {α:Type} (n:Nat) (x:α) (r:List α):q00j n (x::r)= .row n (x::r).length 0 (x::r).length:=rfl
@[simp] theorem q0d0 (x:Int) (r:List Int):rowsH (x::r)=[.row 1 (upV ((x::r).map encI))] :=rfl
theorem q09t (env:List (Nat×V)) (loc:List (Nat×List V)) (hp:Heap) (base:Nat) (dirty:List Nat) (n:Nat) (d:Option Nat) (l:List Int):
  callR ⟨env,loc,hp,base,dirty⟩ false d (some (q00j n l,q03a encI 1 hp l))=some (St.put ⟨env,loc,hp++rowsH l,base,dirty⟩ d (q00j n l)):=by
 unfold q00j q03a rowsH
 split
 ·rename_i h;subst h;simp
 ·simp
theorem q0dx (s:Int) (hs:I64 s) (l:List Note) (hl: ∀x∈l,q0i3 x) (hn:l.length≤1000000) (H:Heap):
  evD EE q0dm (q09r s l H 0)=some (q09s s l H):=by
 unfold q0dm
 refine (q02d l (fun (_:Unit) i=>q09r s l H i) (fun _ _=>True) (fun _ _ _=>()) (fun _=>q09s s l H) (fun _ _=>rfl) ?_ ?_ () 0 trivial (Nat.zero_le _))
 ·rintro _ i n-hx
  refine ⟨?_,trivial⟩
  have hlt:=(List.getElem?_eq_some_iff.1 hx).1
  have w1:IntKind.i64.wrap ((i:Int)+1)=((i+1:Nat):Int):=w64 (by omega) (by omega)
  obtain ⟨h1,h2,h3⟩:=hl n (List.mem_of_getElem? hx)
  have hix:=fun H k=>q01q H q00g (k:=k) (s:=2) hx rfl
  obtain ⟨k,hk⟩: ∃k,l.length-i=k+1:=⟨l.length-i-1,by omega⟩
  have hk2:l.length-i-1=k:=by omega
  have hsucc:=q0i4 s l H i n hx
  rw [hk2] at hsucc
  have hA:=q08f s (l.take i) (H.length+1)
  rw [List.length_take,Nat.min_eq_left (Nat.le_of_lt hlt)] at hA
  have e0:q04l s l H i=H++[.row 2 (q01o s (H.length+1) (l.take i)++List.replicate (k+1) [.nils,.nils])]++q01n s (l.take i):=by unfold q04l;rw [hk]
  simp only [q09r]
  generalize q04l s l H (i+1)=R at hsucc⊢
  rw [e0]
  generalize q01o s (H.length+1) (l.take i)=A at*
  generalize q01n s (l.take i)=T at*
  have hrow: ∀(v:List V) (U:Heap),Eng.rowAt (H++DObj.row 2 (A++v::List.replicate k [.nils,.nils])::U) H.length=some (2,A++v::List.replicate k [.nils,.nils]):=fun v U=>by simp
  have hes: ∀(v:List V),(A++v::List.replicate k [.nils,.nils]).length=l.length:=fun v=>by simp;omega
  have mg:=fun x r=>q0ve (α:=List V) hA x r
  have ms:=fun x y r=>q0vf (α:=List V) hA x y r
  simp only [List.replicate_succ,List.append_assoc,List.cons_append,List.nil_append] at hsucc⊢
  have c1:=q0rq (H++DObj.row 2 (A++[.nils,.nils]::List.replicate k [.nils,.nils])::T) n.lines h2
  have c2:=q0ou (H++DObj.row 2 (A++[.nils,.nils]::List.replicate k [.nils,.nils])::(T++rowsH n.lines)) n.pens h3
  simp only [sli] at c1 c2
  cases hL:n.lines with
  |nil=>
   simp only [hL,List.map_nil,q0f0,List.append_nil] at c1 c2
   simp only [q0cz] at c1
   rw [show q03a encI 1 (H++DObj.row 2 (A++[.nils,.nils]::List.replicate k [.nils,.nils])::T) []=none from rfl] at c1
   have nl:=fun v U=>q0ma (.lptr 2 0) (.row H.length l.length 0 l.length) (vI i) (q00v l) (vI l.length) (vI i) [vI s] (H++DObj.row 2 (A++v::List.replicate k [.nils,.nils])::(T++U)) H.length
   simp only [noteV,noteH,hL,List.map_nil,q0f0,q0cz,if_pos,Nat.add_zero,Nat.add_assoc,Nat.add_comm 1,List.nil_append] at hsucc
   simp only [List.length_append,List.length_cons] at c1 c2
   rw [hsucc]
   simp [-getElem?_pos,hlt,hix,q00g,subs,q001,q014,hrow,hes,mg,ms,hL,c1,c2,q09t,nl,w1]
  |cons x r=>
   simp only [hL,q0d0,q05h] at c1 c2
   rw [show∀G,q03a encI 1 G (x::r)=some (G++[.row 1 (upV ((x::r).map encI))],[]) from fun _=>rfl] at c1
   simp only [noteV,noteH,hL,List.map_cons,q0d0,q05h,List.cons_ne_nil,if_false,reduceCtorEq,Nat.add_assoc,Nat.add_comm 1,List.nil_append] at hsucc
   simp only [List.length_append,List.length_cons,List.length_nil,Nat.zero_add,List.append_assoc,List.cons_append,List.nil_append] at c1 c2
   have hset: ∀v K,(H++DObj.row 2 (A++v::List.replicate k [.nils,.nils])::(T++DObj.row 1 (upV ((x::r).map encI))::rowsH n.pens)).set (H.length+(T.length+1)) (.row 1 K)=
     H++DObj.row 2 (A++v::List.replicate k [.nils,.nils])::(T++DObj.row 1 K::rowsH n.pens):=fun v K=>by simp
   have key:=q0dw s hs (q00v l) l.length i hlt (x::r) (fun y hy=>h1 y (hL▸hy)) (by rw [←hL];exact h2) H.length (H.length+(T.length+1))
    (H++DObj.row 2 (A++[.row (H.length+(T.length+1)) (x::r).length 0 (x::r).length,q00j (H.length+(T.length+2)) n.pens]::List.replicate k [.nils,.nils])::(T++DObj.row 1 (upV ((x::r).map encI))::rowsH n.pens)) H.length _ (q00j (H.length+(T.length+2)) n.pens)
    (hrow _ _) (hes _) (mg _ _) (by simp) (by omega) (by omega)
   simp only [q09q,q0cw,hset] at key
   rw [hsucc]
   simp at c1 c2 key
   simp [-getElem?_pos,hlt,hix,q00g,subs,q001,q014,hrow,hes,mg,ms,hL,c1,c2,q09t,key,w1]
 ·rintro _-
  refine ⟨?_,by simp [q09s]⟩
  simp [q09r,q09s]
theorem q0f1 (base id:Nat) (G:Heap) (d:Nat) (L K:List Int) (h:Eng.rowAt G id=some (1,upV (K.map encI))∨L=[]) (hb:base≤id) (hl:K.length=L.length):frz base G (d+1) (q00j id L)=some (.sl (K.map encI)):=by
 cases L with
 |nil=>
  have:K=[]:=by simpa using hl
  subst this;rfl
 |cons x r=>
  rcases h with h|h
  ·rw [q05h,q0dr,if_pos hb,h,q0hq];simp [hl]
   rw [←List.length_cons (a:=x) (as:=r),←hl];simp
  ·cases h
theorem q0jo (s:Int) (n:Note) (H0:Heap) (U:Heap):Eng.rowAt (H0++(noteH s n++U)) H0.length=some (1,upV ((n.lines.map fun x=>upG x s).map encI))∨n.lines=[]:=by
 unfold noteH
 cases h:n.lines with
 |nil=>exact .inr rfl
 |cons x r=>left;simp
theorem q0jp (s:Int) (n:Note) (H0:Heap) (U:Heap):Eng.rowAt (H0++(noteH s n++U)) (H0.length+(if n.lines=[] then 0 else 1))=some (1,upV (n.pens.map encI))∨n.pens=[]:=by
 unfold noteH
 cases h:n.pens with
 |nil=>exact .inr rfl
 |cons x r=>
  left
  cases h2:n.lines with
  |nil=>simp
  |cons y q=>simp
theorem q0f2 (s:Int) (base:Nat): ∀(l:List Note) (H0:Heap),base≤H0.length→allO (allO (frz base (H0++q01n s l) 2)) (q01o s H0.length l)=some (l.map fun n=>q00g (noteG s n))
 |[],_,_=>rfl
 |n::r,H0,hb=>by
  have ih:=q0f2 s base r (H0++noteH s n) (by simp;omega)
  rw [List.append_assoc,List.length_append] at ih
  have f1:=q0f1 base H0.length (H0++(noteH s n++q01n s r)) 1 n.lines (n.lines.map fun x=>upG x s) (q0jo s n H0 _) hb (by simp)
  have f2:=q0f1 base (H0.length+(if n.lines=[] then 0 else 1)) (H0++(noteH s n++q01n s r)) 1 n.pens n.pens (q0jp s n H0 _) (by omega) rfl
  simp only [q01n,q01o,noteV,allO,f1,f2,ih,List.map_cons]
  rfl
theorem q0ov (s:Int) (hs:I64 s) (l:List Note) (hl: ∀x∈l,q0i3 x) (hn:l.length≤1000000) (H:Heap):
  clD EE (.p (.fn 194)) [.agg [vI s],q00v l] H=some (q00v (l.map (noteG s)),none):=by
 rw [q002 _ _ _ _ _ _ (noP _) fn194]
 have key:=q0dx s hs l hl hn H
 have hm:l.length<most:=by unfold most;omega
 have fz:=q0f2 s H.length l (H++[.row 2 (q01o s (H.length+1) l)]) (by simp)
 have hl2:=q08f s l (H.length+1)
 simp [q09r,q09s,q04l,q01n,q01o] at key fz
 have ht:List.take l.length (q01o s (H.length+1) l)=q01o s (H.length+1) l:=List.take_of_length_le (by omega)
 simp [St.enter,q000,q0rb,hm,key,subs,frzK,hl2,ht,fz]
abbrev q0d1 (g:Geom):Prop:=I64 g.cols∧I64 g.wide∧I64 g.gap∧I64 g.high∧I64 g.first∧I64 g.grid∧I64 g.rule∧I64 g.sep∧I64 g.noteMost∧I64 g.topMost∧I64 g.botMost∧I64 g.topMany∧I64 g.botMany∧I64 g.club∧I64 g.widow∧I64 g.split∧I64 g.defer∧I64 g.spare
structure okJob (j:Job):Prop where
 g:q0d1 j.g
 items: ∀x∈j.items,q07p x
 notes: ∀x∈j.notes,q0i3 x
 floats: ∀x∈j.floats,q0du x
 n1:j.items.length≤1000000
 n2:j.notes.length≤1000000
 n3:j.floats.length≤1000000
def q07q (s:Int) (l:List Float) (u:List V) (g:Geom) (a b:V) (H:Heap) (M:List Float) (i:Nat):St:=
 ⟨[(2,.lptr 2 0),(3,.lptr 3 0),(4,.ptr (H.length+1) 0),(44,vI l.length),(45,vI i)],[(2,u),(3,[vI s])],H++[.row 3 (upV (M.map q00i)),.box (cGeom g++[a,b,.row H.length l.length 0 l.length])],H.length,[]⟩
def q0ah (s:Int) (l:List Float) (u:List V) (g:Geom) (a b:V) (H:Heap) (M:List Float):Ex×St:=
 (.exit 0,⟨[(2,.lptr 2 0),(3,.lptr 3 0),(4,.ptr (H.length+1) 0),(44,vI l.length),(45,vI l.length),(46,.p (.bool false))],[(2,u),(3,[vI s])],H++[.row 3 (upV (M.map q00i)),.box (cGeom g++[a,b,.row H.length l.length 0 l.length])],H.length,[]⟩)
theorem q0d2 (s:Int) (hs:I64 s) (l:List Float) (hl: ∀x∈l,q0du x) (hn:l.length≤1000000) (u:List V) (g:Geom) (a b:V) (H:Heap):
  evD EE q09i (q07q s l u g a b H l 0)=some (q0ah s l u g a b H (l.map (q039 s))):=by
 unfold q09i
 refine (q02d l (q07q s l u g a b H) (fun M k=>M.length=l.length∧M.drop k=l.drop k) (fun M k x=>M.set k (q039 s x)) (q0ah s l u g a b H) (fun _ _=>rfl) ?_ ?_ l 0 ⟨rfl,rfl⟩ (Nat.zero_le _)).trans ?_
 ·rintro M i x ⟨hM,hd⟩ hx
  have hlt:=(List.getElem?_eq_some_iff.1 hx).1
  have hMx:M[i]? =some x:=by
   have:=congrArg (·[0]?) hd
   simpa [List.getElem?_drop,hx] using this
  have w:IntKind.i64.wrap ((i:Int)+1)=((i+1:Nat):Int):=w64 (by omega) (by omega)
  have ho:=hl x (List.mem_of_getElem? hx)
  have hu:(upV (M.map q00i))[i]? =some ((q00i x).map .p):=by simp [upV,hMx]
  have inv:(M.set i (q039 s x)).length=l.length∧(M.set i (q039 s x)).drop (i+1)=l.drop (i+1):=by
   refine ⟨by simp [hM],?_⟩
   rw [List.drop_set_of_lt (Nat.lt_succ_self i)]
   have:=congrArg (List.drop 1) hd
   simpa [List.drop_drop,Nat.add_comm] using this
  refine ⟨?_,inv⟩
  have hrow: ∀U:Heap,Eng.rowAt (H++DObj.row 3 (upV (M.map q00i))::U) H.length=some (3,upV (M.map q00i)):=fun U=>by simp
  have hlen:(upV (M.map q00i)).length=l.length:=by simp [hM]
  have hj:((q00i x).map V.p)[1]? =some (vI x.h):=rfl
  have t1:=fun U:Heap=>q08e 197 (fun n=>upG n s) x.h s (H++DObj.row 3 (upV (M.map q00i))::U) H.length l.length i 1 3 _ _ (hrow U) hlen hu hj (by simp) (fun H'=>q07o x.h s H' ho.2.1 hs)
  have e:(upV (M.map q00i)).set i (((q00i x).map V.p).set 1 (vI (upG x.h s)))=upV ((M.set i (q039 s x)).map q00i):=by
   rw [←q05z];rfl
  simp only [e] at t1
  simp [-getElem?_pos,q07q,hlt,q014,hM,hu,q00i,subs,t1,w]
 ·rintro M ⟨hM,hd⟩
  simp [q07q,q0ah]
 ·have:=q089 (q039 s) l []
  simp at this
  simp [this]
theorem q0l2 (j:Job) (ok:okJob j) (H:Heap):clD EE (.p (.fn 73)) [vJob j] H=some (vJob (snapG j),none):=by
 rw [q002 _ _ _ _ _ _ (noP _) fn73]
 obtain ⟨g,items,notes,floats⟩:=j
 have hg:=ok.g
 simp only [q0d1] at hg
 by_cases c:g.grid<1
 ·simp [St.enter,q000,subs,q001,c,snapG]
 ·have h1:=q0rp g.grid hg.2.2.2.2.2.1 items ok.items ok.n1 H
  have h2:=q0ov g.grid hg.2.2.2.2.2.1 notes ok.notes ok.n2 H
  have hc:=q04y _ 3 _ H q00i (fun _=>rfl) q0dv floats (by have:=ok.n3;simp only at this;unfold most;omega)
  have i1:=fun H'=>q0bq g.high g.grid H' hg.2.2.2.1 hg.2.2.2.2.2.1
  have i2:=fun H'=>q0bq g.first g.grid H' hg.2.2.2.2.1 hg.2.2.2.2.2.1
  have i3:=fun H'=>q07o g.rule g.grid H' hg.2.2.2.2.2.2.1 hg.2.2.2.2.2.1
  have i4:=fun H'=>q07o g.sep g.grid H' hg.2.2.2.2.2.2.2.1 hg.2.2.2.2.2.1
  obtain ⟨I,hI⟩: ∃I,(items.map (itemG g.grid)).map q005=I:=⟨_,rfl⟩
  obtain ⟨N,hN⟩: ∃I,(notes.map (noteG g.grid)).map q00g=I:=⟨_,rfl⟩
  have hj:snapG ⟨g,items,notes,floats⟩=⟨geomG g,items.map (itemG g.grid),notes.map (noteG g.grid),floats.map (q039 g.grid)⟩:=if_neg c
  rw [hj]
  show _=some (V.agg (cGeom (geomG g)++[.p (.sl ((items.map (itemG g.grid)).map q005)),.p (.sl ((notes.map (noteG g.grid)).map q00g)),q00q (floats.map (q039 g.grid))]),none)
  simp only [q00d,q00v,hI,hN] at h1 h2⊢
  clear hj hI hN
  cases floats with
  |nil=>
   have b1:=q06v 196 (fun n=>downG n g.grid) g.high g.first g.grid (H++[.box (cGeom g++[.p (.sl I),.p (.sl N),.nils])])
    H.length 3 4 _ (by simp;rfl) rfl rfl (by decide) (by simp) i1 i2
   have b2:=q06v 197 (fun n=>upG n g.grid) g.rule g.sep g.grid (H++[.box (cGeom {g with high:=downG g.high g.grid,first:=downG g.first g.grid}++[.p (.sl I),.p (.sl N),.nils])])
    H.length 6 7 _ (by simp;rfl) rfl rfl (by decide) (by simp) i3 i4
   have key: ∀u cs,evD EE q09i ⟨[(2,.lptr 2 0),(3,.lptr 3 0),(4,.ptr H.length 0),(44,vI 0),(45,vI 0)],[(2,u),(3,[vI g.grid])],H++[.box cs],H.length,[]⟩=
     some (.exit 0,⟨[(2,.lptr 2 0),(3,.lptr 3 0),(4,.ptr H.length 0),(44,vI 0),(45,vI 0),(46,.p (.bool false))],[(2,u),(3,[vI g.grid])],H++[.box cs],H.length,[]⟩):=by
    intro u cs
    unfold q09i
    rw [q009]
    simp
   simp [q00j,q03a] at hc
   simp at b1 b2
   simp [St.enter,q000,subs,q001,c,h1,h2,hc,b1,b2,key,geomG]
  |cons x r=>
   have b1:=q06v 196 (fun n=>downG n g.grid) g.high g.first g.grid (H++[.row 3 (upV ((x::r).map q00i)),.box (cGeom g++[.p (.sl I),.p (.sl N),.row H.length (x::r).length 0 (x::r).length])])
    (H.length+1) 3 4 _ (by simp;rfl) rfl rfl (by decide) (by simp) i1 i2
   have b2:=q06v 197 (fun n=>upG n g.grid) g.rule g.sep g.grid (H++[.row 3 (upV ((x::r).map q00i)),.box (cGeom {g with high:=downG g.high g.grid,first:=downG g.first g.grid}++[.p (.sl I),.p (.sl N),.row H.length (x::r).length 0 (x::r).length])])
    (H.length+1) 6 7 _ (by simp;rfl) rfl rfl (by decide) (by simp) i3 i4
   have key:=fun u=>q0d2 g.grid hg.2.2.2.2.2.1 (x::r) ok.floats ok.n3 u (geomG g) (.p (.sl I)) (.p (.sl N)) H
   simp [q00j,q03a] at hc
   simp at b1 b2
   simp [q07q,q0ah,geomG] at key
   simp [St.enter,q000,subs,q001,c,h1,h2,hc,b1,b2,key,geomG]
def off (s n:Int):Bool:= !decide (n.tmod s=0)
theorem q0rr:EE.fns 509=some (idxI 1 false):=fn509
theorem q0rs:EE.fns 489=some (conI 509):=fn489
theorem q0rt (hv:V) (p:Int→Bool) (l:List Int) (H:Heap) (ho:(normA hv).outB=true) (ho2:normA hv=hv) (hn:l.length≤1000000) (hH: ∀x∈l,clD EE hv [vI x] H=some (vB (p x),none)):
  clD EE (.p (.fn 489)) [sli l,hv] H=some (vB (l.any p),none):=
 q0x2 _ _ (noP _) q0rs (sli l) hv p l H rfl rfl ho ho2 (q09n _ 1 false encI (fun x=>vI x) (noP _) q0rr (fun _=>rfl) (fun _=>rfl) (fun _=>rfl) (fun _=>rfl) l (by omega) hv p H hH)
end Go.EnvOf
