/- The program's functions and the document's, evaluated. -/
import Derived.Test.YtpibjnnbploadaaGreatText6
import Derived.Test.YtpibjnnbploadaaGreatText5
import Derived.Test.YtpibjnnbploadaaGreatText3
set_option linter.unusedSimpArgs false
set_option linter.unusedVariables false
namespace Go.EnvOf
open Go Go.Eng
set_option maxRecDepth 100000
def mustP (l:List Item) (n:Nat):Bool:=match l[n]? with|some x=>q08c x|none=>true
def mayN (l:List Item) (n:Nat):Bool:=mayV l n
def pos (a:Int):Nat:=(max a 0).toNat
def q02k (l:List Item) (a:Int):Int:=seekP (mustP l) (l.length-pos a) (pos a+1)
def q015 (l:List Item) (a:Int):Int:=seekP (mayN l) (l.length-pos a) (pos a+1)
def brkN (l:List Item) (a:Int):List Nat:=(List.range' (pos a+1) (l.length-pos a)).filter fun (m:Nat)=>decide ((m:Int)≤q02k l a)&&mayN l m
def brkF (l:List Item) (a:Int):List Int:=(brkN l a).map Int.ofNat
theorem q09c (p:Nat→Bool): ∀(k n:Nat),seekP p k n= -1∨((n:Int)≤seekP p k n∧seekP p k n<n+k∧p (seekP p k n).toNat=true)
 |0,n=> .inl rfl
 |k+1,n=>by
  rw [seekP]
  by_cases h:p n=true
  ·rw [if_pos h];exact .inr ⟨by omega,by omega,by simpa using h⟩
  ·rw [if_neg h]
   rcases q09c p k (n+1) with h1|⟨h1,h2,h3⟩
   ·exact .inl h1
   ·exact .inr ⟨by omega,by omega,h3⟩
theorem q0vf (l:List Item) (hl:l.length≤1000000) (n:Nat) (hn:n≤l.length) (H:Heap):clD EE (.fn (.func 344) [q007 l] []) [vI n] H=some (vB (mustP l n),none):=by
 rw [q02e,q002 _ _ _ _ _ _ (noP _) fn344]
 have l3:=fun H=>q07f l n H
 have f:=fun x H=>q0gu x H
 rw [q09a] at l3
 unfold mustP
 cases h:l[n]? with
 |none=>rw [h] at l3;simp [St.enter,q000,subs,q001,l3]
 |some x=>rw [h] at l3;simp [St.enter,q000,subs,q001,l3,f]
theorem q0yv (l:List Item) (hl:l.length≤1000000) (n:Nat) (H:Heap):clD EE (.fn (.func 316) [q007 l] []) [vI n] H=some (vB (mayN l n),none):=by
 rw [q02e];exact q0yu l hl n H
theorem q0vg (l:List Item) (hl:l.length≤1000000) (a:Int) (H:Heap):clD EE (.p (.fn 213)) [q007 l,vI a] H=some (vI (q02k l a),none):=by
 rw [q002 _ _ _ _ _ _ (noP _) fn213]
 have l2:=fun H=>q01r l H
 unfold q02k pos
 by_cases c:(l.length:Int)≤a
 ·have e:l.length-(max a 0).toNat=0:=by omega
  rw [e]
  simp [St.enter,q000,l2,c,seekP]
 ·have w:IntKind.i64.wrap (max a 0+1)=(((max a 0).toNat+1:Nat):Int):=by
   have e:(((max a 0).toNat+1:Nat):Int)=max a 0+1:=by omega
   rw [e];exact w64 (by omega) (by omega)
  by_cases d:(max a 0).toNat+1≤l.length+1
  ·have s:=fun H=>q0fg l ((max a 0).toNat+1) (.fn (.func 344) [q007 l] []) (mustP l) hl H (fun n hn=>q0vf l hl n hn H) d rfl rfl
   have e:l.length+1-((max a 0).toNat+1)=l.length-(max a 0).toNat:=by omega
   rw [e] at s
   generalize (max a 0).toNat+1=z at*
   simp only [q007] at l2 s⊢
   simp [St.enter,q000,l2,c,w,s]
  ·omega
theorem q0aw (l:List Item) (hl:l.length≤1000000) (a:Int) (H:Heap):clD EE (.p (.fn 214)) [q007 l,vI a] H=some (vI (q015 l a),none):=by
 rw [q002 _ _ _ _ _ _ (noP _) fn214]
 have l2:=fun H=>q01r l H
 unfold q015 pos
 by_cases c:(l.length:Int)≤a
 ·have e:l.length-(max a 0).toNat=0:=by omega
  rw [e]
  simp [St.enter,q000,l2,c,seekP]
 ·have w:IntKind.i64.wrap (max a 0+1)=(((max a 0).toNat+1:Nat):Int):=by
   have e:(((max a 0).toNat+1:Nat):Int)=max a 0+1:=by omega
   rw [e];exact w64 (by omega) (by omega)
  by_cases d:(max a 0).toNat+1≤l.length+1
  ·have s:=fun H=>q0fg l ((max a 0).toNat+1) (.fn (.func 316) [q007 l] []) (mayN l) hl H (fun n hn=>q0yv l hl n H) d rfl rfl
   have e:l.length+1-((max a 0).toNat+1)=l.length-(max a 0).toNat:=by omega
   rw [e] at s
   generalize (max a 0).toNat+1=z at*
   simp only [q007] at l2 s⊢
   simp [St.enter,q000,l2,c,w,s]
  ·omega
def filtB (l:List Item) (F:Int) (k n:Nat):List Nat:=(List.range' n k).filter fun (m:Nat)=>decide ((m:Int)≤F)&&mayN l m
theorem q0ow (l:List Item) (F:Int) (n:Nat):filtB l F 0 n=[]:=rfl
theorem q0eb (l:List Item) (F:Int) (k n:Nat):filtB l F (k+1) n=if (n:Int)≤F∧mayN l n=true then n::filtB l F k (n+1) else filtB l F k (n+1):=by
 unfold filtB
 rw [List.range'_succ,List.filter_cons]
 by_cases c:(n:Int)≤F
 ·by_cases m:mayN l n=true<;>simp [c,m]
 ·simp [c]
theorem q0ec (l:List Item) (F:Int): ∀(k n:Nat),F<n→filtB l F k n=[]
 |0,n,h=>rfl
 |k+1,n,h=>by rw [q0eb,if_neg (by omega),q0ec l F k (n+1) (by omega)]
theorem q0ed (l:List Item) (F:Int): ∀(k n:Nat),filtB l F k n=if seekP (mayN l) k n= -1 then [] else if seekP (mayN l) k n≤F then (seekP (mayN l) k n).toNat::filtB l F (n+k-((seekP (mayN l) k n).toNat+1)) ((seekP (mayN l) k n).toNat+1) else []
 |0,n=>by simp [seekP,q0ow]
 |k+1,n=>by
  rw [q0eb,seekP]
  by_cases m:mayN l n=true
  ·rw [if_pos m,if_neg (show¬(n:Int)= -1 by omega)]
   by_cases c:(n:Int)≤F
   ·rw [if_pos ⟨c,m⟩,if_pos c]
    have e:n+(k+1)-((n:Int).toNat+1)=k:=by omega
    rw [e];rfl
   ·rw [if_neg (fun h=>c h.1),if_neg c,q0ec l F k (n+1) (by omega)]
  ·rw [if_neg (fun h=>m h.2),if_neg m,q0ed l F k (n+1)]
   have e:n+1+k=n+(k+1):=by omega
   rw [e]
def bkE (l:List Item) (F:Int) (H:Heap) (acc:List Int) (b:Int):St:=⟨[(0,q007 l),(5,.row H.length acc.length 0 acc.length),(6,vI F),(7,vI b)],[],H++[.row 1 (upV (acc.map encI))],H.length,[]⟩
def bkX (l:List Item) (F:Int) (H:Heap) (acc:List Int) (b:Int):Ex×St:=(.exit 0,⟨[(0,q007 l),(5,.row H.length acc.length 0 acc.length),(6,vI F),(7,vI b),(20,vB false)],[],H++[.row 1 (upV (acc.map encI))],H.length,[]⟩)
theorem bk_lp (l:List Item) (hl:l.length≤1000000) (F:Int) (H:Heap): ∀(k n:Nat) (acc:List Int),(n+k=l.length+1∨k=0)→acc.length≤n→ ∃b,evD EE q0ag (bkE l F H acc (seekP (mayN l) k n))=some (bkX l F H (acc++(filtB l F k n).map Int.ofNat) b):=by
 intro k
 induction k using Nat.strongRecOn with
 |_ k ih=>
  intro n acc hk ha
  have hb:=q09c (mayN l) k n
  rw [q0ed]
  generalize hs:seekP (mayN l) k n=b at*
  rcases hb with rfl|⟨h1,h2,h3⟩
  ·refine ⟨-1,?_⟩
   unfold q0ag
   rw [q005]
   simp [bkE,bkX]
  ·have hb0:0<b∨b=0:=by omega
   rcases hb0 with hb0|hb0
   ·rw [if_neg (by omega)]
    by_cases c:b≤F
    ·rw [if_pos c]
     have fi:=fun H=>q0aw l hl b H
     have e0:(b.toNat:Int)=b:=by omega
     have hp:pos b=b.toNat:=by unfold pos;omega
     have e1:q015 l b=seekP (mayN l) (n+k-(b.toNat+1)) (b.toNat+1):=by
      unfold q015;rw [hp];congr 1;omega
     obtain ⟨b',h4⟩:=ih (n+k-(b.toNat+1)) (by omega) (b.toNat+1) (acc++[b]) (by omega) (by simp;omega)
     refine ⟨b',?_⟩
     have e2:acc++List.map Int.ofNat (b.toNat::filtB l F (n+k-(b.toNat+1)) (b.toNat+1))=(acc++[b])++(filtB l F (n+k-(b.toNat+1)) (b.toNat+1)).map Int.ofNat:=by
      simp [hb0,e0,show max b 0=b by omega]
     rw [e2,←h4,←e1]
     have hm:acc.length+1<most:=by unfold most;omega
     conv=>lhs;unfold q0ag
     rw [q005]
     have w0: ∀z,clD EE (.p (.fn 214)) [q007 l,vI b] z=some (vI (q015 l b),none):=fi
     simp only [bkE]
     simp [hb0,c,hm,w0]
     rfl
    ·rw [if_neg c]
     refine ⟨b,?_⟩
     unfold q0ag
     rw [q005]
     simp [bkE,bkX,hb0,c]
   ·exfalso
    subst hb0
    unfold mayN mayV at h3
    simp at h3
theorem q0vh (l:List Item) (a:Int):brkN l a=filtB l (q02k l a) (l.length-pos a) (pos a+1):=rfl
theorem q0s1 (l:List Item) (hl:l.length≤1000000) (a:Int) (H:Heap):clD EE (.p (.fn 84)) [q007 l,vI a] H=some (sli (brkF l a),none):=by
 rw [q002 _ _ _ _ _ _ (noP _) fn84]
 have f1:=fun H=>q0vg l hl a H
 have f2:=fun H=>q0aw l hl a H
 obtain ⟨b,k⟩:=bk_lp l hl (q02k l a) H (l.length-pos a) (pos a+1) [] (by omega) (by simp)
 have e:q015 l a=seekP (mayN l) (l.length-pos a) (pos a+1):=rfl
 rw [←e,←q0vh,List.nil_append] at k
 change _=some (bkX l (q02k l a) H (brkF l a) b) at k
 generalize brkF l a=R at*
 simp [bkE,bkX] at k
 simp [St.enter,q000,f1,f2,k]
end Go.EnvOf
namespace Go.EnvOf
open Go Go.Eng
set_option maxRecDepth 100000
def sumL {α:Type} (f:List Item→α) (z:α) (l:List Item) (i:Nat):List α:=(List.range (l.length+1)).map fun k=>if k≤i then f (l.take k) else z
theorem q05p {α:Type} (f:List Item→α) (z:α) (l:List Item) (i:Nat):(sumL f z l i).length=l.length+1:=by simp [sumL]
theorem q0kg {α:Type} (f:List Item→α) (z:α) (l:List Item) (i k:Nat) (h:k≤i) (hk:k≤l.length):(sumL f z l i)[k]? =some (f (l.take k)):=by simp [sumL,h,show k<l.length+1 by omega]
theorem q0kh {α:Type} (f:List Item→α) (z:α) (l:List Item) (i:Nat) (h:i<l.length):(sumL f z l i)[i+1]? =some z:=by simp [sumL,h];omega
theorem q0ki {α:Type} (f:List Item→α) (z:α) (l:List Item) (i:Nat):(sumL f z l i).set (i+1) (f (l.take (i+1)))=sumL f z l (i+1):=by
 apply List.ext_getElem?
 intro k
 rw [List.getElem?_set]
 by_cases hk:k<l.length+1
 ·by_cases e:i+1=k
  ·subst e;simp [sumL,hk]
  ·rw [if_neg e]
   simp only [sumL,List.getElem?_map,List.getElem?_range hk,Option.map_some]
   by_cases h:k≤i
   ·rw [if_pos h,if_pos (by omega)]
   ·rw [if_neg h,if_neg (by omega)]
 ·have e1:(sumL f z l (i+1))[k]? =none:=List.getElem?_eq_none (by rw [q05p];omega)
  have e2:(sumL f z l i)[k]? =none:=List.getElem?_eq_none (by rw [q05p];omega)
  rw [e1,e2]
  by_cases e:i+1=k
  ·subst e;rw [if_pos rfl,if_neg (by rw [q05p];omega)]
  ·rw [if_neg e]
theorem q0vi {α:Type} (f:List Item→α) (z:α) (l:List Item):sumL f z l l.length=preL f l (l.length+1):=by
 unfold sumL preL
 apply List.map_congr_left
 intro k hk
 have:=List.mem_range.1 hk
 rw [if_pos (by omega)]
theorem q0gv {α:Type} (f:List Item→α) (z:α) (l:List Item) (h:f []=z):sumL f z l 0=List.replicate (l.length+1) z:=by
 apply List.ext_getElem?
 intro k
 by_cases hk:k<l.length+1
 ·simp only [sumL,List.getElem?_map,List.getElem?_range hk,Option.map_some,List.getElem?_replicate,if_pos hk]
  by_cases e:k≤0
  ·have:k=0:=by omega
   subst this;simp [h]
  ·rw [if_neg e]
 ·rw [List.getElem?_eq_none (by rw [q05p];omega),List.getElem?_eq_none (by simp;omega)]
def suH (l:List Item) (i:Nat):Heap:=[DObj.row 6 (upV ((sumL totP zeroT l i).map q01p)),DObj.row 1 (upV ((sumL boxP 0 l i).map encI))]
def suE (l:List Item) (i:Nat):St:=
 ⟨[(0,q00g l),(4,.lptr 21 0),(23,vI l.length),(24,vI i)],[(21,[q00g l,.row 0 (l.length+1) 0 (l.length+1),.row 1 (l.length+1) 0 (l.length+1)])],suH l i,0,[]⟩
def suX (l:List Item):Ex×St:=
 (.exit 0,⟨[(0,q00g l),(4,.lptr 21 0),(23,vI l.length),(24,vI l.length),(25,vB false)],[(21,[q00g l,.row 0 (l.length+1) 0 (l.length+1),.row 1 (l.length+1) 0 (l.length+1)])],suH l l.length,0,[]⟩)
set_option maxHeartbeats 1000000 in
theorem q0B1 (l:List Item) (hl:l.length≤4096) (hf: ∀x∈l,fairI x) (i:Nat) (x:Item) (hx:l[i]? =some x): ∃c,q0ae= .loop [0,4,23,24] [21] c∧evD EE c (suE l i)=some (.normal,suE l (i+1)):=by
 refine ⟨_,rfl,?_⟩
 have hlt:=(List.getElem?_eq_some_iff.1 hx).1
 have w:IntKind.i64.wrap ((i:Int)+1)=((i+1:Nat):Int):=w64 (by omega) (by omega)
 have hix:=fun H k=>q00z H q006 (k:=k) (s:=7) hx rfl
 have ts:=q044 hx
 have fx:=hf x (List.mem_of_getElem? hx)
 have ft: ∀y∈l.take i,fairI y:=fun y hy=>hf y (List.mem_of_mem_take hy)
 have ft1: ∀y∈l.take (i+1),fairI y:=fun y hy=>hf y (List.mem_of_mem_take hy)
 have hlen:(l.take i).length=i:=by rw [List.length_take];omega
 have hlen1:(l.take (i+1)).length=i+1:=by rw [List.length_take];omega
 have t1:=q0rk (l.take i) x
 have b1:=q0rl (l.take i) x
 rw [←ts] at t1 b1
 have q1:=q0fe _ ft
 have q2:=q0fe _ ft1
 have q3:=q0na _ ft
 have q4:=q0na _ ft1
 rw [hlen] at q1 q3
 rw [hlen1] at q2 q4
 have it:=fun H=>q0kb x H
 have sf:=fun H=>q0va (totI x) (q0fd fx) H
 have ta:=fun H=>q0ru (totP (l.take i)) (totI x) (q072 q1 (by omega)) (q072 (q0fd fx) (by omega)) (by rw [←t1];exact q072 q2 (by omega)) H
 rw [←t1] at ta
 have g1:(upV ((sumL totP zeroT l i).map q01p))[i]? =some ((q01p (totP (l.take i))).map V.p):=by simp [q05k,q0kg totP zeroT l i i (Nat.le_refl _) (by omega)]
 have g2:(upV ((sumL totP zeroT l i).map q01p))[i+1]? =some ((q01p zeroT).map V.p):=by simp [q05k,q0kh totP zeroT l i hlt]
 have g3:(upV ((sumL boxP 0 l i).map encI))[i]? =some [vI (boxP (l.take i))]:=by simp [q05k,q0kg boxP 0 l i i (Nat.le_refl _) (by omega),encI]
 have g4:(upV ((sumL boxP 0 l i).map encI))[i+1]? =some [vI 0]:=by simp [q05k,q0kh boxP 0 l i hlt,encI]
 have s1:(upV ((sumL totP zeroT l i).map q01p)).set (i+1) ((q01p (totP (l.take (i+1)))).map V.p)=upV ((sumL totP zeroT l (i+1)).map q01p):=by rw [q06e,q0ki]
 have s2:(upV ((sumL boxP 0 l i).map encI)).set (i+1) [vI (boxP (l.take (i+1)))]=upV ((sumL boxP 0 l (i+1)).map encI):=by
  have:=q06e encI (sumL boxP 0 l i) (i+1) (boxP (l.take (i+1)))
  rw [q0ki] at this
  exact this
 have n1:(upV ((sumL totP zeroT l i).map q01p)).length=l.length+1:=by simp [q05p]
 have n2:(upV ((sumL boxP 0 l i).map encI)).length=l.length+1:=by simp [q05p]
 have hlt1:i<l.length+1:=by omega
 have hlt2:i+1<l.length+1:=by omega
 have x0: ∀a b:V,[a,b][0]? =some a:=fun _ _=>rfl
 have x1: ∀a b:V,[a,b][1]? =some b:=fun _ _=>rfl
 have wb:IntKind.i64.wrap (boxP (l.take i)+x.h)=boxP (l.take i)+x.h:=w64 (by have:=fx.h;omega) (by have:=fx.h;omega)
 unfold suE suH
 generalize totP (l.take (i+1))=T1 at*
 generalize totP (l.take i)=T0 at*
 generalize totI x=TI at*
 generalize hB1:boxP (l.take (i+1))=P1 at*
 generalize boxP (l.take i)=P0 at*
 generalize upV ((sumL totP zeroT l i).map q01p)=A1 at*
 generalize upV ((sumL totP zeroT l (i+1)).map q01p)=A2 at*
 generalize upV ((sumL boxP 0 l i).map encI)=B1 at*
 generalize upV ((sumL boxP 0 l (i+1)).map encI)=B2 at*
 simp only [q01p,zeroT,List.map_cons,List.map_nil] at g1 g2 s1
 have g5: ∀v:List V,(B1.set (i+1) v)[i+1]? =some v:=fun v=>by rw [List.getElem?_set_self (by omega)]
 unfold boxI1 at b1
 have ir:=fun H id tot off len s=>q017 H id tot off len s .i64 (i+1)
 simp only [Int.natCast_add,Int.natCast_one] at ir
 by_cases k1:x.k=1
 ·rw [if_pos k1] at b1
  subst b1
  simp only [vItem,k1] at it
  simp [-getElem?_pos,hlt,hix,q006,subs,q001,w,it,sf,ta,g1,g2,g3,g4,g5,s1,s2,n1,n2,hlt1,hlt2,x0,x1,q017,ir,k1,wb]
 ·rw [if_neg k1,Int.add_zero] at b1
  subst b1
  simp [-getElem?_pos,hlt,hix,q006,subs,q001,w,it,sf,ta,g1,g2,g3,g4,s1,s2,n1,n2,hlt1,hlt2,x0,x1,q017,ir,k1]
theorem q0B2 (l:List Item) (hl:l.length≤4096) (hf: ∀x∈l,fairI x):evD EE q0ae (suE l 0)=some (suX l):=by
 unfold q0ae
 refine Eq.trans (q028 l (fun (_:Unit) i=>suE l i) (fun _ _=>True) (fun _ _ _=>()) (fun _=>suX l) (fun _ _=>rfl) ?_ ?_ () 0 trivial (Nat.zero_le _)) rfl
 ·rintro _ i x-hx
  obtain ⟨c',h1,h2⟩:=q0B1 l hl hf i x hx
  simp only [q0ae,IC.loop.injEq] at h1
  obtain ⟨-,-,rfl⟩:=h1
  exact ⟨h2,trivial⟩
 ·rintro _-
  simp [suE,suX]
theorem q0s2 (l:List Item) (hl:l.length≤4096) (hf: ∀x∈l,fairI x):zR (clD EE (.p (.fn 74)) [q00g l] [])=some (.tup [q00o l,vB true]):=by
 rw [q002 _ _ _ _ _ _ (noP _) fn74]
 have c:=q05e l (by omega)
 have k:=q0B2 l hl hf
 have w:IntKind.i64.wrap ((l.length:Int)+1)=((l.length+1:Nat):Int):=w64 (by omega) (by omega)
 have hm:l.length+1<most:=by unfold most;omega
 have h9: ¬(4096:Int)<l.length:=by omega
 have e1:List.replicate (l.length+1) [vI 0,vI 0,vI 0,vI 0,vI 0,vI 0]=upV ((sumL totP zeroT l 0).map q01p):=by rw [q0gv totP zeroT l rfl];simp [upV,q01p,zeroT]
 have e2:List.replicate (l.length+1) [vI 0]=upV ((sumL boxP 0 l 0).map encI):=by rw [q0gv boxP 0 l rfl];simp [upV,encI]
 have p0:0<(l.length:Int)+1:=by omega
 have pt:((l.length:Int)+1).toNat=l.length+1:=by omega
 simp only [suE,suX,suH,q0vi] at k
 have f1:=fun T=>q047 (H:=DObj.row 6 (upV ((preL totP l (l.length+1)).map q01p))::T) (id:=0) (n:=l.length+1) rfl (by simp [q045])
 have f2:=fun R T=>q047 (H:=R::DObj.row 1 (upV ((preL boxP l (l.length+1)).map encI))::T) (id:=1) (n:=l.length+1) rfl (by simp [q045])
 generalize upV ((sumL totP zeroT l 0).map q01p)=A at*
 generalize upV ((sumL boxP 0 l 0).map encI)=B at*
 simp at k
 simp [St.enter,q000,subs,q001,solN,sd,c,h9,w,hm,p0,pt,e1,e2,k,allO,q00o,f1,f2,q06m]
def anH (l:List Item) (fs:List Float) (n:Nat):Heap:=[DObj.row 1 (upV ((preL q00u l n).map encI)),DObj.row 3 (upV ((preL (q00h fs) l n).map encC3)),DObj.row 3 (upV ((preL (dueP fs) l n).map encC3))]
def anE (l:List Item) (fs:List Float) (i:Nat):St:=
 ⟨[(1,q00b fs),(5,.lptr 21 0),(22,q00g l),(23,vI l.length),(24,vI i)],[(21,[q00g l,.row 0 (i+1) 0 (i+1),.row 1 (i+1) 0 (i+1),.row 2 (i+1) 0 (i+1)])],anH l fs (i+1),0,[]⟩
def anX (l:List Item) (fs:List Float):Ex×St:=
 (.exit 0,⟨[(1,q00b fs),(5,.lptr 21 0),(22,q00g l),(23,vI l.length),(24,vI l.length),(25,vB false)],[(21,[q00g l,.row 0 (l.length+1) 0 (l.length+1),.row 1 (l.length+1) 0 (l.length+1),.row 2 (l.length+1) 0 (l.length+1)])],anH l fs (l.length+1),0,[]⟩)
theorem q0fh {α:Type} (enc:α→List PV) (f:List Item→α) (l:List Item) (n:Nat):upV ((preL f l n).map enc)++upV [enc (f (l.take n))]=upV ((preL f l (n+1)).map enc):=by
 rw [q0rj];simp [upV]
theorem q0vj (l:List Item) (fs:List Float) (hl:l.length≤1000000) (i:Nat) (x:Item) (hx:l[i]? =some x): ∃c,q0af= .loop [1,5,22,23,24] [21] c∧evD EE c (anE l fs i)=some (.normal,anE l fs (i+1)):=by
 refine ⟨_,rfl,?_⟩
 have hlt:=(List.getElem?_eq_some_iff.1 hx).1
 have w:IntKind.i64.wrap ((i:Int)+1)=((i+1:Nat):Int):=w64 (by omega) (by omega)
 have hix:=fun H k=>q00z H q006 (k:=k) (s:=7) hx rfl
 have ts:=q044 hx
 have b1:=q0lr (l.take i) x
 have a1:=q0c8 fs (l.take i) x
 have d1:=q0gm fs (l.take i) x
 rw [←ts] at b1 a1 d1
 have g1:(upV ((preL q00u l (i+1)).map encI))[i]? =some [vI (q00u (l.take i))]:=by simp [q05k,q046 q00u l (i+1) i (by omega),encI]
 have g2:(upV ((preL (q00h fs) l (i+1)).map encC3))[i]? =some [vI (q00h fs (l.take i)).a,vI (q00h fs (l.take i)).b,vI (q00h fs (l.take i)).c]:=by simp [q05k,q046 (q00h fs) l (i+1) i (by omega),encC3]
 have g3:(upV ((preL (dueP fs) l (i+1)).map encC3))[i]? =some [vI (dueP fs (l.take i)).a,vI (dueP fs (l.take i)).b,vI (dueP fs (l.take i)).c]:=by simp [q05k,q046 (dueP fs) l (i+1) i (by omega),encC3]
 have p1:=q0fh encI q00u l (i+1)
 have p2:=q0fh encC3 (q00h fs) l (i+1)
 have p3:=q0fh encC3 (dueP fs) l (i+1)
 have n1:(upV ((preL q00u l (i+1)).map encI)).length=i+1:=by simp [q045]
 have n2:(upV ((preL (q00h fs) l (i+1)).map encC3)).length=i+1:=by simp [q045]
 have n3:(upV ((preL (dueP fs) l (i+1)).map encC3)).length=i+1:=by simp [q045]
 have bb:=q0gn (l.take i)
 have ab:=q0go fs (l.take i)
 have hlen:(l.take i).length=i:=by rw [List.length_take];omega
 rw [hlen] at bb ab
 have wb:IntKind.i64.wrap (q00u (l.take i)+1)=q00u (l.take i)+1:=w64 (by omega) (by omega)
 have wa:IntKind.i64.wrap ((q00h fs (l.take i)).a+1)=(q00h fs (l.take i)).a+1:=w64 (by omega) (by omega)
 have wb2:IntKind.i64.wrap ((q00h fs (l.take i)).b+1)=(q00h fs (l.take i)).b+1:=w64 (by omega) (by omega)
 have wc:IntKind.i64.wrap ((q00h fs (l.take i)).c+1)=(q00h fs (l.take i)).c+1:=w64 (by omega) (by omega)
 have hm:i+1+1<most:=by unfold most;omega
 have hat:=fun H=>at_ev fs x.n H
 have x0: ∀a b:V,[a,b][0]? =some a:=fun _ _=>rfl
 have x1: ∀a b:V,[a,b][1]? =some b:=fun _ _=>rfl
 simp only [encI,encC3,b1,a1,d1] at p1 p2 p3
 unfold anE anH
 generalize q00u (l.take i)=b at*
 generalize hA:q00h fs (l.take i)=A at*
 generalize hD:dueP fs (l.take i)=D at*
 generalize upV ((preL q00u l (i+1)).map encI)=B1 at*
 generalize upV ((preL (q00h fs) l (i+1)).map encC3)=A1 at*
 generalize upV ((preL (dueP fs) l (i+1)).map encC3)=D1 at*
 generalize upV ((preL q00u l (i+1+1)).map encI)=B2 at*
 generalize upV ((preL (q00h fs) l (i+1+1)).map encC3)=A2 at*
 generalize upV ((preL (dueP fs) l (i+1+1)).map encC3)=D2 at*
 unfold addAt at p2
 by_cases k5:x.k=5
 ·simp only [k5,if_true,show¬(5:Int)=6 by decide,show¬(5:Int)=7 by decide,if_false] at p1 p2 p3
  simp [-getElem?_pos,hlt,hix,q006,subs,q001,g1,g2,g3,n1,n2,n3,w,hm,p1,p2,p3,apoB,okEl,q017,x0,x1,k5,wb]
 ·by_cases k6:x.k=6
  ·simp only [k6,if_true,show¬(6:Int)=5 by decide,show¬(6:Int)=7 by decide,if_false,Int.add_zero] at p1 p2 p3
   unfold ofS at p2
   cases hf:atF fs x.n with
   |none=>
    simp only [hf] at p2 hat
    simp [-getElem?_pos,hlt,hix,q006,subs,q001,g1,g2,g3,n1,n2,n3,w,hm,p1,p2,p3,apoB,okEl,q017,x0,x1,k6,hat]
   |some f=>
    simp only [hf] at p2 hat
    unfold bump at p2
    by_cases d0:f.c=0
    ·simp only [d0,if_true] at p2
     simp [-getElem?_pos,hlt,hix,q006,subs,q001,g1,g2,g3,n1,n2,n3,w,hm,p1,p2,p3,apoB,okEl,q017,x0,x1,k6,hat,d0,ixaV,q00k,wa]
    ·by_cases d1:f.c=1
     ·simp only [d1,if_true,show¬(1:Int)=0 by decide,if_false] at p2
      simp [-getElem?_pos,hlt,hix,q006,subs,q001,g1,g2,g3,n1,n2,n3,w,hm,p1,p2,p3,apoB,okEl,q017,x0,x1,k6,hat,d1,ixaV,q00k,wb2]
     ·by_cases d2:f.c=2
      ·simp only [d2,if_true,show¬(2:Int)=0 by decide,show¬(2:Int)=1 by decide,if_false] at p2
       simp [-getElem?_pos,hlt,hix,q006,subs,q001,g1,g2,g3,n1,n2,n3,w,hm,p1,p2,p3,apoB,okEl,q017,x0,x1,k6,hat,d2,ixaV,q00k,wc]
      ·simp only [d0,d1,d2,if_false] at p2
       by_cases d3:f.c<0
       ·simp [-getElem?_pos,hlt,hix,q006,subs,q001,g1,g2,g3,n1,n2,n3,w,hm,p1,p2,p3,apoB,okEl,q017,x0,x1,k6,hat,show¬0≤f.c by omega]
       ·simp [-getElem?_pos,hlt,hix,q006,subs,q001,g1,g2,g3,n1,n2,n3,w,hm,p1,p2,p3,apoB,okEl,q017,x0,x1,k6,hat,show 0≤f.c by omega,show¬f.c<3 by omega]
  ·by_cases k7:x.k=7
   ·simp only [k7,if_true,show¬(7:Int)=5 by decide,show¬(7:Int)=6 by decide,if_false,Int.add_zero] at p1 p2 p3
    by_cases q1:D.a=A.a
    ·by_cases q2:D.b=A.b
     ·by_cases q3:D.c=A.c
      ·simp [-getElem?_pos,hlt,hix,q006,subs,q001,g1,g2,g3,n1,n2,n3,w,hm,p1,p2,p3,apoB,okEl,q017,x0,x1,k7,q1,q2,q3]
      ·simp [-getElem?_pos,hlt,hix,q006,subs,q001,g1,g2,g3,n1,n2,n3,w,hm,p1,p2,p3,apoB,okEl,q017,x0,x1,k7,q1,q2,q3]
     ·simp [-getElem?_pos,hlt,hix,q006,subs,q001,g1,g2,g3,n1,n2,n3,w,hm,p1,p2,p3,apoB,okEl,q017,x0,x1,k7,q1,q2]
    ·simp [-getElem?_pos,hlt,hix,q006,subs,q001,g1,g2,g3,n1,n2,n3,w,hm,p1,p2,p3,apoB,okEl,q017,x0,x1,k7,q1]
   ·simp only [k5,k6,k7,if_false,Int.add_zero] at p1 p2 p3
    simp [-getElem?_pos,hlt,hix,q006,subs,q001,g1,g2,g3,n1,n2,n3,w,hm,p1,p2,p3,apoB,okEl,q017,x0,x1,k5,k6,k7]
theorem q0vk (l:List Item) (fs:List Float) (hl:l.length≤1000000):evD EE q0af (anE l fs 0)=some (anX l fs):=by
 unfold q0af
 refine Eq.trans (q028 l (fun (_:Unit) i=>anE l fs i) (fun _ _=>True) (fun _ _ _=>()) (fun _=>anX l fs) (fun _ _=>rfl) ?_ ?_ () 0 trivial (Nat.zero_le _)) rfl
 ·rintro _ i x-hx
  obtain ⟨c',h1,h2⟩:=q0vj l fs hl i x hx
  simp only [q0af,IC.loop.injEq] at h1
  obtain ⟨-,-,rfl⟩:=h1
  exact ⟨h2,trivial⟩
 ·rintro _-
  simp [anE,anX]
theorem q0s3 (l:List Item) (fs:List Float) (hl:l.length≤1000000):zR (clD EE (.p (.fn 76)) [q00g l,q00b fs] [])=some (vMapW l fs):=by
 rw [q002 _ _ _ _ _ _ (noP _) fn76]
 have c:=q05e l hl
 have k:=q0vk l fs hl
 have e1:upV ((preL q00u l 1).map encI)=[[vI 0]]:=by simp [preL,upV,encI,q00u,cnt]
 have e2:upV ((preL (q00h fs) l 1).map encC3)=[[vI 0,vI 0,vI 0]]:=by simp [preL,upV,encC3,q00h]
 have e3:upV ((preL (dueP fs) l 1).map encC3)=[[vI 0,vI 0,vI 0]]:=by simp [preL,upV,encC3,dueP]
 simp only [anE,anX,anH,Nat.zero_add,e1,e2,e3] at k
 simp at k
 have f1:=fun T=>q047 (H:=DObj.row 1 (upV ((preL q00u l (l.length+1)).map encI))::T) (id:=0) (n:=l.length+1) rfl (by simp [q045])
 have f2:=fun R T=>q047 (H:=R::DObj.row 3 (upV ((preL (q00h fs) l (l.length+1)).map encC3))::T) (id:=1) (n:=l.length+1) rfl (by simp [q045])
 have f3:=fun R R' T=>q047 (H:=R::R'::DObj.row 3 (upV ((preL (dueP fs) l (l.length+1)).map encC3))::T) (id:=2) (n:=l.length+1) rfl (by simp [q045])
 simp [St.enter,q000,subs,q001,solN,sd,c,k,allO,vMapW,f1,f2,f3,rowI,okEl]
theorem q0vl (env:List (Nat×V)) (loc:List (Nat×List V)) (H:Heap) (l:List Note) (x:Note) (hm:l.length+1<most):
  appV ⟨env,loc,H++rowsG 2 q00f l,H.length,[]⟩ (q00n H.length l) (.p (.sl [q00f x])) 2=some (q00n H.length (l++[x]),⟨env,loc,H++rowsG 2 q00f (l++[x]),H.length,[]⟩):=
 q0n6 env loc H H.length [] 2 q00f l x rfl hm (Nat.le_refl _)
def cpE (j:Job) (H:Heap) (M:List Note) (i:Nat):St:=
 ⟨[(2,.lptr 2 0),(3,.lptr 3 0),(16,q00q j.notes),(17,vI j.notes.length),(18,vI i)],[(2,zJobC0),(3,cGeom j.g++[q00g j.items,q00n H.length M,q00b j.floats])],H++rowsG 2 q00f M,H.length,[]⟩
where zJobC0:List V:=[vI 0,vI 0,vI 0,vI 0,vI 0,vI 0,vI 0,vI 0,vI 0,vI 0,vI 0,vI 0,vI 0,vI 0,vI 0,vI 0,vI 0,vI 0,vB false,.nils,.nils,.nils]
def cpX (j:Job) (H:Heap):Ex×St:=
 (.exit 0,⟨[(2,.lptr 2 0),(3,.lptr 3 0),(16,q00q j.notes),(17,vI j.notes.length),(18,vI j.notes.length),(19,vB false)],[(2,cpE.zJobC0),(3,cGeom j.g++[q00g j.items,q00n H.length j.notes,q00b j.floats])],H++rowsG 2 q00f j.notes,H.length,[]⟩)
theorem cp_lp (j:Job) (n2:j.notes.length≤1000000) (hn: ∀n∈j.notes,n.lines.length≤1000000∧n.pens.length≤1000000) (H:Heap):evD EE q0iz (cpE j H [] 0)=some (cpX j H):=by
 unfold q0iz
 refine Eq.trans (q028 j.notes (fun (_:Unit) i=>cpE j H (j.notes.take i) i) (fun _ _=>True) (fun _ _ _=>()) (fun _=>cpX j H) (fun _ _=>rfl) ?_ ?_ () 0 trivial (Nat.zero_le _)) rfl
 ·rintro _ i x-hx
  refine ⟨?_,trivial⟩
  have hlt:=(List.getElem?_eq_some_iff.1 hx).1
  have w:IntKind.i64.wrap ((i:Int)+1)=((i+1:Nat):Int):=w64 (by omega) (by omega)
  have hix:=fun H k=>q00z H q00f (k:=k) (s:=2) hx rfl
  obtain ⟨l1,l2⟩:=hn x (List.mem_of_getElem? hx)
  have c1:=q0oq x.lines l1
  have c2:=q0ls x.pens l2
  have hlen:(j.notes.take i).length=i:=by rw [List.length_take];omega
  have ha:=fun env loc=>q0vl env loc H (j.notes.take i) x (by rw [hlen];unfold most;omega)
  rw [q044 hx]
  generalize j.notes.take i=M at*
  simp only [q00f] at hix ha
  simp only [cpE,cGeom,List.cons_append,List.nil_append]
  simp [-q0mm,hlt,hix,subs,q001,solN,sd,w,c1,c2,ha]
 ·rintro _-
  simp only [cpE,cpX,List.take_length]
  simp [subs]
theorem q0s4 (j:Job) (n1:j.items.length≤1000000) (n2:j.notes.length≤1000000) (n3:j.floats.length≤1000000) (hn: ∀n∈j.notes,n.lines.length≤1000000∧n.pens.length≤1000000) (H:Heap):clD EE (.p (.fn 72)) [vJob j] H=some (vJob j,none):=by
 rw [q002 _ _ _ _ _ _ (noP _) fn72]
 have c1:=q05e j.items n1
 have c2:=q0hq j.floats n3
 have k:=cp_lp j n2 hn H
 have f2:=fun env loc=>q0jx env loc (H++rowsG 2 q00f j.notes) H.length [] H.length 2 q00f j.notes (by
  have:=q0uq 2 q00f H [] j.notes
  simpa using this) (Nat.le_refl _)
 simp only [cpE,cpX,cpE.zJobC0,cGeom,List.cons_append,List.nil_append] at k
 simp only [vJob,cGeom,List.cons_append,List.nil_append]
 generalize hu:q00n H.length j.notes=u at*
 have o:u.oneB=true:=by rw [←hu];simp
 have p:u.cells=[u]:=by rw [←hu];simp
 clear hu
 generalize H++rowsG 2 q00f j.notes=G at*
 simp at k
 simp [St.enter,q000,subs,q001,solN,sd,c1,c2,k,f2,o,p]
def encNp (n:Note):List Int×List Int:=(n.lines,n.pens)
theorem q0kj (l:List Note):q032 (l.map encNp)=lineN l:=by
 induction l with
 |nil=>rfl
 |cons n r ih=>simp only [List.map_cons,q032,List.foldr_cons,lineN,List.sum_cons] at ih⊢;rw [ih];rfl
theorem q0kk (l:List Note) (H:Heap) (hl:l.length≤1000000) (hs:lineN l≤9223372036854775807):clD EE (.p (.fn 78)) [q00q l] H=some (vI (lineN l),none):=by
 have h:=q0ut (l.map encNp) H (by simpa using hl) (by rw [q0kj];exact hs)
 rw [q0kj] at h
 unfold notes at h
 rw [List.map_map] at h
 exact h
theorem q0kl (l:List Note) (h: ∀n∈l,n.lines.length≤1000000):0≤lineN l∧lineN l≤1000000*l.length:=by
 induction l with
 |nil=>simp [lineN]
 |cons n r ih=>
  have h1:=h n List.mem_cons_self
  have h2:=ih fun m hm=>h m (List.mem_cons_of_mem _ hm)
  simp only [lineN,List.map_cons,List.sum_cons,List.length_cons] at h2⊢
  omega
def cutV {α:Type} (enc:α→List PV) (l:List α) (p:Nat):V:=if p=0 then .nils else .p (.sl ((l.take p).map enc))
section
variable {α:Type} (enc:α→List PV) (l:List α) (p:Nat)
@[simp] theorem q0Nl:(cutV enc l p).oneB=true:=by unfold cutV;split<;>rfl
@[simp] theorem q0K6:(cutV enc l p).cells=[cutV enc l p] :=by unfold cutV;split<;>rfl
@[simp] theorem q0Nm:(cutV enc l p).notL=true:=by unfold cutV;split<;>rfl
@[simp] theorem q0K7:normC (cutV enc l p)= .p (.sl ((l.take p).map enc)):=by
  unfold cutV;split
  ·rename_i h0;subst h0;rfl
  ·rfl
theorem q0vm (s:Nat) (hs: ∀x,(enc x).length=s) (H:Heap) (k:IntKind) (h:p≤l.length):slcI H s (.p (.sl (l.map enc))) none (some (.p (.int k (p:Int))))=some (.p (.sl ((l.take p).map enc))):=by
 have hh:q05w s (l.map enc)=true:=by
  cases l with
  |nil=>rfl
  |cons x r=>simp [q05w,hs]
 have h2:(p:Int)≤l.length:=by omega
 simp [slcI,slcV,hh,h2]
end
abbrev textH (j:Job):Heap:=[DObj.box [q007 j.items,q00o j.items,vMapW j.items j.floats]]
def nwS (j:Job) (i:Nat):St:=
 ⟨[(1,.lptr 1 0),(6,.lptr 35 0),(53,vI (j.notes.length+1)),(54,vI i)],[(1,cJobW j),(35,.ptr 0 0::(cJobW j++[q00n 1 ((List.range i).map fun k=>lineN (j.notes.take k)),vI (allS j).a,vI (allS j).b,vI (allS j).c]))],
   textH j++rowsG 1 encI ((List.range i).map fun k=>lineN (j.notes.take k)),0,[]⟩
def nwX (j:Job):Ex×St:=
 (.exit 0,⟨[(1,.lptr 1 0),(6,.lptr 35 0),(53,vI (j.notes.length+1)),(54,vI (j.notes.length+1)),(55,vB false)],[(1,cJobW j),(35,.ptr 0 0::(cJobW j++[q00n 1 (preN j.notes),vI (allS j).a,vI (allS j).b,vI (allS j).c]))],
  textH j++rowsG 1 encI (preN j.notes),0,[]⟩)
theorem nw_lp (j:Job) (n2:j.notes.length≤1000000) (hn: ∀n∈j.notes,n.lines.length≤1000000):evD EE q0iw (nwS j 0)=some (nwX j):=by
 unfold q0iw
 refine Eq.trans (q028 (List.range (j.notes.length+1)) (fun (_:Unit) i=>nwS j i) (fun _ _=>True) (fun _ _ _=>()) (fun _=>nwX j) (fun _ _=>rfl) ?_ ?_ () 0 trivial (Nat.zero_le _)) rfl
 ·rintro _ i x-hx
  refine ⟨?_,trivial⟩
  have hlt:i<j.notes.length+1:=by have:=(List.getElem?_eq_some_iff.1 hx).1;simpa using this
  have w:IntKind.i64.wrap ((i:Int)+1)=((i+1:Nat):Int):=w64 (by omega) (by omega)
  have hl2:(i:Int)<(j.notes.length:Int)+1:=by omega
  have sc:=fun H k=>q0vm q00f j.notes i 2 (fun _=>rfl) H k (by omega)
  have lb:=q0kl (j.notes.take i) (fun n h=>hn n (List.mem_of_mem_take h))
  have ll:(j.notes.take i).length≤1000000:=by rw [List.length_take];omega
  have nl:=fun H=>q0kk (j.notes.take i) H ll (by omega)
  have ha:=fun env loc=>q0n6 env loc (textH j) 0 [] 1 encI ((List.range i).map fun k=>lineN (j.notes.take k)) (lineN (j.notes.take i)) rfl (by simp;unfold most;omega) (Nat.zero_le _)
  have er:(List.range (i+1)).map (fun k=>lineN (j.notes.take k))=(List.range i).map (fun k=>lineN (j.notes.take k))++[lineN (j.notes.take i)]:=by simp [List.range_succ]
  unfold nwS
  rw [er]
  generalize (List.range i).map (fun k=>lineN (j.notes.take k))=M at*
  generalize lineN (j.notes.take i)=y at*
  simp only [textH,List.length_cons,List.length_nil,Nat.zero_add,encI] at ha
  simp only [q00q,List.map_take] at nl sc
  simp only [textH,cJobW,cGeom,List.cons_append,List.nil_append,encI] at ha⊢
  simp [-q0mm,hl2,subs,q001,w,sc,nl,ha]
 ·rintro _-
  simp only [nwS,nwX,List.length_range,preN,cJobW,cGeom,List.cons_append,List.nil_append]
  simp
theorem q0yw (j:Job) (ok:okJob j) (okS:okJob (snapG j)) (hp: ∀n∈(snapG j).notes,n.lines.length≤1000000∧n.pens.length≤1000000):
  zR (clD EE (.p (.fn 17)) [vJob j] [])=some (if (q03n j).1=0 then .tup [vW (snapG j),vB true] else .tup [.p .nilp,vB false]):=by
 rw [q002 _ _ _ _ _ _ (noP _) fn17]
 have hr:=fun H=>q0hp j ok (q0lq ok.n3) H
 have hs:=fun H=>q0my j ok H
 have hc:=fun H=>q0s4 (snapG j) okS.n1 okS.n2 okS.n3 hp H
 by_cases h:(q03n j).1=0
 ·rw [if_pos h]
  have r:=(q0gk j).1 h
  have hs2:=q0s2 (snapG j).items (by rw [q0rn];have:=r.n1;omega) (q0gp r)
  have hv:=q0or (snapG j).items okS.n1
  have ha:=q0s3 (snapG j).items (snapG j).floats okS.n1
  have hal:=fun H=>q09b (snapG j).items (snapG j).floats (snapG j).items.length H
  have e:q00h (snapG j).floats ((snapG j).items.take (putN (snapG j).items (snapG j).items.length))=allS (snapG j):=by
   rw [q0n9 (Nat.le_refl _),List.take_length];rfl
  simp only [e] at hal
  have k:=nw_lp (snapG j) okS.n2 (fun n hn=>(hp n hn).1)
  have w:IntKind.i64.wrap (((snapG j).notes.length:Int)+1)=((snapG j).notes.length:Int)+1:=w64 (by have:=okS.n2;omega) (by have:=okS.n2;omega)
  simp only [h,decide_true] at hr
  have hne:preN (snapG j).notes≠[]:=by simp [preN]
  have hlen:(preN (snapG j).notes).length=(snapG j).notes.length+1:=by simp [preN]
  generalize snapG j=J at*
  have f1:=fun R T=>q047 (H:=R::DObj.row 1 (upV ((preN J.notes).map encI))::T) (id:=1) (n:=(preN J.notes).length) rfl (by simp)
  simp only [nwS,nwX,textH,cJobW,cGeom,List.cons_append,List.nil_append,q00n,rowsG,if_neg hne,List.range_zero,List.map_nil,if_true] at k
  simp only [vJob,cGeom,List.cons_append,List.nil_append] at hr hs hc⊢
  simp at k
  simp [St.enter,q000,subs,q001,solN,sd,hr,hs,hc,hs2,hv,ha,hal,w,k,allO,f1,vW,q00e]
 ·rw [if_neg h]
  have hb:decide ((q03n j).1=0)=false:=by simpa using h
  rw [hb] at hr
  simp only [vJob,cGeom,List.cons_append,List.nil_append] at hr⊢
  simp [St.enter,q000,subs,q001,hr,allO]
section
variable (j:Job) (w:okW j)
include w in
include w in
end
def fairN (x:Int):Bool:=decide (0≤x)&&decide (x≤1073741823)
def q0B3 (j:Job):List Int:=[j.g.grid,j.g.high,j.g.first,j.g.rule,j.g.sep]++j.items.map (·.h)++j.notes.flatMap (·.lines)++j.floats.map (·.h)
def fairF (j:Job):Bool:= !((q0B3 j).any fun x=> !fairN x)
theorem q0yx {x:Item} (s:Int) (h:q089 x):q089 (itemG s x):=by
 have z:I64 0:=⟨by omega,by omega⟩
 unfold itemG
 split
 ·exact ⟨h.1,q06f h.2.1,h.2.2⟩
 ·split
  ·exact ⟨h.1,q0r4 h.2.1,h.2.2.1,z,z,z,h.2.2.2.2.2.2⟩
  ·exact h
theorem q0s5 {j:Job} (h:jobI j):jobI (snapG j):=by
 unfold snapG
 split
 ·exact h
 ·have hg:=h.g
  simp only [q0e3] at hg
  refine ⟨⟨hg.1,hg.2.1,hg.2.2.1,q0am hg.2.2.2.1,q0am hg.2.2.2.2.1,hg.2.2.2.2.2.1,q06f hg.2.2.2.2.2.2.1,q06f hg.2.2.2.2.2.2.2.1,hg.2.2.2.2.2.2.2.2⟩,?_,?_,?_⟩
  ·intro x hx
   obtain ⟨y,hy,rfl⟩:=List.mem_map.1 hx
   exact q0yx _ (h.items y hy)
  ·intro n hn x hx
   obtain ⟨m,hm,rfl⟩:=List.mem_map.1 hn
   obtain ⟨y,hy,rfl⟩:=List.mem_map.1 hx
   exact q06f (h.notes m hm y hy)
  ·intro x hx
   obtain ⟨y,hy,rfl⟩:=List.mem_map.1 hx
   exact ⟨(h.floats y hy).1,q06f (h.floats y hy).2.1,(h.floats y hy).2.2⟩
section
variable {j:Job} (hf:fairF j=true)
include hf
end
theorem q0B4 {j:Job} (r:Right j) (sm:small (snapG j)):okW (snapG j):=by
 obtain ⟨f,hf,hk⟩:=q0e8 j
 have hg:=q0av r.g
 have hn:=q06z 5 j.notes.length j.items 0 0 (Nat.zero_le _) r.r5
 have h5:cnt 5 (snapG j).items=cnt 5 j.items:=by rw [hf];exact q0nb 5 f (fun x=>(hk x).1) _
 refine ⟨by have:=sm.items;omega,by have:=sm.notes;omega,by have:=sm.floats;omega,fun n hn=>by have:=sm.each n hn;omega,?_,?_⟩
 ·rw [q0gr];exact ⟨⟨by omega,by omega⟩,by omega⟩
 ·rw [q0gq];unfold q00u;omega
end Go.EnvOf
namespace Go.EnvOf
open Go Go.Eng
set_option maxRecDepth 100000
def r22E (a b:List Piece) (H:Heap) (i:Nat):St:=⟨[(0,q018 a),(1,q018 b),(5,vI i)],[],H,H.length,[]⟩
def r22X (a b:List Piece) (H:Heap):Ex×St:=(.exit 0,⟨[(0,q018 a),(1,q018 b),(5,vI a.length),(14,vB false)],[],H,H.length,[]⟩)
theorem q0ox (a b:List Piece) (H:Heap) (hl:a.length=b.length) (ha:a.length≤1000000):evD EE q0et (r22E a b H 0)=some (rng (step2 (fun x y=>decide (x=y)) b (qB H)) (fun _=>r22X a b H) () 0 a):=by
 unfold q0et
 refine q027 a (fun (_:Unit) i=>r22E a b H i) (fun _ _=>True) _ (fun _=>r22X a b H) (fun _ _=>rfl) ?_ ?_ () 0 trivial (Nat.zero_le _)
 ·rintro _ i x-hx
  have hlt:=(List.getElem?_eq_some_iff.1 hx).1
  have hy:b[i]? =some (b[i]'(by omega)):=List.getElem?_eq_getElem (by omega)
  generalize (b[i]'(by omega))=y at hy
  have w:IntKind.i64.wrap ((i:Int)+1)=((i+1:Nat):Int):=w64 (by omega) (by omega)
  have hix:=fun H k=>q00z H q00c (k:=k) (s:=3) hx rfl
  have hiy:=fun H k=>q00z H q00c (k:=k) (s:=3) hy rfl
  have hc:=q07r x y
  rw [q05c hy]
  simp only [q00c,List.map_cons,List.map_nil] at hix hiy hc
  by_cases hxy:x=y
  ·subst hxy
   simp [r22E,hlt,hix,hiy,w,subs]
  ·simp [hxy,-q01m] at hc
   simp [-q01m,r22E,qB,hlt,hix,hiy,hxy,subs,hc]
 ·rintro _-
  simp [r22E,r22X]
theorem q0oy (a b:List Piece) (H:Heap) (ha:a.length≤1000000):clD EE (.p (.fn 140)) [q018 a,q018 b] H=some (vB (decide (a=b)),none):=by
 rw [q002 _ _ _ _ _ _ (noP _) fn140]
 by_cases hl:a.length=b.length
 ·have key:=q0ox a b H hl ha
  rw [q06v (fun x y=>decide (x=y)) b (qB H) (r22X a b H) a 0 (by omega),List.drop_zero,q087 a b hl] at key
  have hl':(a.length:Int)=b.length:=by omega
  by_cases h:a=b
  ·rw [if_pos (by simpa using h)] at key
   subst h
   simp [r22E,r22X] at key
   simp [St.enter,q000,key]
  ·rw [if_neg (by simpa using h)] at key
   simp [r22E,qB,hl] at key
   simp [St.enter,q000,hl',key,h]
 ·have hl': ¬(a.length:Int)=b.length:=by omega
  have h:a≠b:=by rintro rfl;exact hl rfl
  simp [St.enter,q000,hl',h]
def sameC (a b:Colm):Bool:=decide (a.k=b.k)&&decide (a.frm=b.frm)&&decide (a.to=b.to)&&decide (a.notes=b.notes)&&decide (a.top=b.top)&&decide (a.bot=b.bot)
theorem q0s6 (a b:Colm) (h1:a.notes.length≤1000000) (h2:a.top.length≤1000000) (h3:a.bot.length≤1000000) (H:Heap):clD EE (.p (.fn 126)) [vColm a,vColm b] H=some (vB (sameC a b),none):=by
 rw [q002 _ _ _ _ _ _ (noP _) fn126]
 have s:=fun H=>q0au a.notes b.notes h1 H
 have t:=fun H=>q0ak a.top b.top H h2
 have u:=fun H=>q0ak a.bot b.bot H h3
 unfold sameC
 by_cases c1:a.k=b.k
 ·by_cases c2:a.frm=b.frm
  ·by_cases c3:a.to=b.to
   ·by_cases c4:a.notes=b.notes
    ·by_cases c5:a.top=b.top
     ·simp only [c4,c5] at s t;simp [St.enter,q000,subs,q001,s,t,u,c1,c2,c3,c4,c5]
     ·simp only [c4] at s;simp [St.enter,q000,subs,q001,s,t,c1,c2,c3,c4,c5]
    ·simp [St.enter,q000,subs,q001,s,c1,c2,c3,c4]
   ·simp [St.enter,q000,subs,q001,c1,c2,c3]
  ·simp [St.enter,q000,subs,q001,c1,c2]
 ·simp [St.enter,q000,subs,q001,c1]
theorem q0oz (a b:Colm) (h1:a.notes.length≤1000000) (h2:a.top.length≤1000000) (h3:a.bot.length≤1000000) (H:Heap):clD EE (.p (.fn 40)) [vColm a,vColm b] H=some (vB (sameC a b),none):=by
 rw [q002 _ _ _ _ _ _ (noP _) fn40]
 have s:=fun H=>q0oy a.notes b.notes H h1
 have t:=fun H=>q0n4 a.top b.top H (by omega)
 have u:=fun H=>q0n4 a.bot b.bot H (by omega)
 unfold sameC
 by_cases c1:a.k=b.k
 ·by_cases c2:a.frm=b.frm
  ·by_cases c3:a.to=b.to
   ·by_cases c4:a.notes=b.notes
    ·by_cases c5:a.top=b.top
     ·simp only [c4,c5] at s t;simp [St.enter,q000,subs,q001,s,t,u,c1,c2,c3,c4,c5]
     ·simp only [c4] at s;simp [St.enter,q000,subs,q001,s,t,c1,c2,c3,c4,c5]
    ·simp [St.enter,q000,subs,q001,s,c1,c2,c3,c4]
   ·simp [St.enter,q000,subs,q001,c1,c2,c3]
  ·simp [St.enter,q000,subs,q001,c1,c2]
 ·simp [St.enter,q000,subs,q001,c1]
end Go.EnvOf
namespace Go.EnvOf
open Go Go.Eng
set_option maxRecDepth 100000
abbrev cColm (c:Colm):List V:=[vI c.k,vI c.frm,vI c.to,q018 c.notes,sli c.top,sli c.bot]
abbrev cStt (s:Stt):List V:=[vI s.at_,vI s.col,vI s.note,vI s.line,vI s.h.a,vI s.h.b,vI s.h.c]
section
variable (j:Job) (H:Heap)
end
def Keep (A:List Nat) (H H':Heap):Prop:=H.length≤H'.length∧ ∀k,k<H.length→k∉A→H'[k]? =H[k]?
def Stay (A:List Nat) (H H':Heap):Prop:=H.length≤H'.length∧ ∀k∈A,H'[k]? =H[k]?
theorem Keep.refl (A:List Nat) (H:Heap):Keep A H H:=⟨Nat.le_refl _,fun _ _ _=>rfl⟩
theorem Keep.app (A:List Nat) (H T:Heap):Keep A H (H++T):=⟨by simp,fun _ h _=>List.getElem?_append_left h⟩
theorem Stay.app (A:List Nat) (H T:Heap) (h: ∀k∈A,k<H.length):Stay A H (H++T):=⟨by simp,fun k hk=>List.getElem?_append_left (h k hk)⟩
theorem Keep.set (A:List Nat) (H:Heap) (i:Nat) (o:DObj) (h:i∈A∨H.length≤i):Keep A H (H.set i o):=by
 refine ⟨by simp,fun k hk hA=>List.getElem?_set_ne ?_⟩
 rintro rfl
 rcases h with h|h
 ·exact hA h
 ·omega
theorem Stay.set (A:List Nat) (H:Heap) (i:Nat) (o:DObj) (h:i∉A):Stay A H (H.set i o):=⟨by simp,fun k hk=>List.getElem?_set_ne (by rintro rfl;exact h hk)⟩
theorem Stay.trans {A:List Nat} {H K L:Heap} (h:Stay A H K) (g:Stay A K L):Stay A H L:=⟨Nat.le_trans h.1 g.1,fun k hk=>(g.2 k hk).trans (h.2 k hk)⟩
theorem Keep.trans {A B:List Nat} {H K L:Heap} (h:Keep A H K) (g:Keep B K L) (hB: ∀k∈B,k∈A∨H.length≤k):Keep A H L:=by
 refine ⟨Nat.le_trans h.1 g.1,fun k hk hA=> ?_⟩
 rw [g.2 k (by have:=h.1;omega) ?_,h.2 k hk hA]
 intro hb
 rcases hB k hb with h|h
 ·exact hA h
 ·omega
theorem Keep.row {A:List Nat} {H K:Heap} (h:Keep A H K) {id s:Nat} {es:List (List V)} (hr:Eng.rowAt H id=some (s,es)) (hA:id∉A):Eng.rowAt K id=some (s,es):=by
 unfold Eng.rowAt at*
 rw [h.2 id (q0je (H:=H) (by unfold Eng.rowAt;exact hr)) hA];exact hr
theorem Keep.box {A:List Nat} {H K:Heap} (h:Keep A H K) {id:Nat} {cs:List V} (hr:Eng.boxAt H id=some cs) (hA:id∉A):Eng.boxAt K id=some cs:=by
 have hl:=q02s hr
 unfold Eng.boxAt at*
 rw [h.2 id hl hA];exact hr
theorem Stay.row {A:List Nat} {H K:Heap} (h:Stay A H K) {id s:Nat} {es:List (List V)} (hr:Eng.rowAt H id=some (s,es)) (hA:id∈A):Eng.rowAt K id=some (s,es):=by
 unfold Eng.rowAt at*
 rw [h.2 id hA];exact hr
theorem Stay.box {A:List Nat} {H K:Heap} (h:Stay A H K) {id:Nat} {cs:List V} (hr:Eng.boxAt H id=some cs) (hA:id∈A):Eng.boxAt K id=some cs:=by
 unfold Eng.boxAt at*
 rw [h.2 id hA];exact hr
structure Eats {α:Type} (rep:α→V→Heap→List Nat→Prop) (q:Nat) (L:List α) (R:Nat→List Nat→Heap→Prop) (F:List Nat→Heap→Prop):Prop where
 stay: ∀i A H H',R i A H→Stay A H H'→R i A H'
 bel: ∀i A H,R i A H→ ∀k∈A,k<H.length
 step: ∀i A H x v B,L[i]? =some x→R i A H→rep x v H B→(∀k∈B,k∉A∧q<k)→
  ∃b H' ds A',clD EE (.yld q) [v] H=some (vB b,some (H',ds))∧q∈ds∧Keep A H H'∧(∀k∈ds,k∈A∨H.length≤k)∧(∀k∈A',k∈A∨k∈B∨H.length≤k)∧
   (b=true→R (i+1) A' H')∧(b=false→F A' H')
def Gave {α:Type} (L:List α) (R:Nat→List Nat→Heap→Prop) (F:List Nat→Heap→Prop) (A:List Nat) (H:Heap) (r:Option (Heap×List Nat)):Prop:=
 ∃A',Keep A H (hpOf H r)∧(∀k∈dsOf r,k∈A∨H.length≤k)∧(∀k∈A',k∈A∨H.length≤k)∧(R L.length A' (hpOf H r)∨F A' (hpOf H r))
theorem q0s7 {α:Type} {E:Env} {ks kl:List Nat} {c:IC} (L:List α) (R:Nat→St→Prop) (F:Ex×St→Prop)
  (hk: ∀i S,R i S→S.keep ks kl=S)
  (hstep: ∀i x S,R i S→L[i]? =some x→(∃S',evD E c S=some (.normal,S')∧R (i+1) S')∨ ∃r,evD E c S=some r∧r.1≠ .normal∧F r)
  (hend: ∀S,R L.length S→ ∃r,evD E c S=some r∧r.1≠ .normal∧F r):
  ∀(n i:Nat) S,L.length-i=n→R i S→i≤L.length→ ∃r,evD E (.loop ks kl c) S=some r∧F r:=by
 have stop: ∀S i,R i S→(∃r,evD E c S=some r∧r.1≠ .normal∧F r)→ ∃r,evD E (.loop ks kl c) S=some r∧F r:=by
  rintro S i hR ⟨⟨x,S'⟩,h1,h2,h3⟩
  refine ⟨(x,S'),?_,h3⟩
  rw [q005,hk _ _ hR,h1]
  cases x with
  |normal=>exact absurd rfl h2
  |_=>rfl
 intro n
 induction n with
 |zero=>
  intro i S hn hR hi
  have e:i=L.length:=by omega
  subst e
  exact stop S _ hR (hend S hR)
 |succ n ih=>
  intro i S hn hR hi
  have hlt:i<L.length:=by omega
  rcases hstep i _ S hR (List.getElem?_eq_getElem hlt) with ⟨S',h1,h2⟩|h
  ·rw [q005,hk _ _ hR,h1,q07j]
   exact ih (i+1) S' (by omega) h2 hlt
  ·exact stop S _ hR h
def exSt:LSt→Ex
 | .done x=>x
 |_=> .normal
theorem q0km {env:List (Nat×V)} {loc:List (Nat×List V)} {hp:Heap} {base:Nat} {dirty:List Nat} {x:Arg} {ps:List Nat} {a b:IC} {it:V} (hv:(∃f,it= .p (.fn f))∨ ∃f u v,it= .fn (.func f) u v)
  (hx:St.arg ⟨env,loc,hp,base,dirty⟩ x=it) {r:Option (Heap×List Nat)} (h:clD EE it [.yld hp.length] (hp++[DObj.loop .ready (outE env) ps a b])=some (.tup [],r))
  {st:LSt} {e:List (Nat×V)} {ps':List Nat} {a' b':IC} (hq:(hpOf (hp++[DObj.loop .ready (outE env) ps a b]) r)[hp.length]? =some (.loop st e ps' a' b')) (hst:st≠ .busy):
  evD EE (.rangeFunc x ps a b) ⟨env,loc,hp,base,dirty⟩=some (exSt st,⟨env,loc,(hpOf (hp++[DObj.loop .ready (outE env) ps a b]) r).set hp.length .dead,base,(dsOf r).foldr (addD base) dirty⟩):=by
 have key:q036 ⟨env,loc,hp,base,dirty⟩ (some (.tup [],r))=some (exSt st,⟨env,loc,(hpOf (hp++[DObj.loop .ready (outE env) ps a b]) r).set hp.length .dead,base,(dsOf r).foldr (addD base) dirty⟩):=by
  cases r with
  |none=>
   simp only [hpOf,dsOf] at hq⊢
   simp at hq
   obtain ⟨rfl,-⟩:=hq
   simp [exSt]
  |some r=>
   obtain ⟨H,ds⟩:=r
   simp only [hpOf,dsOf] at hq⊢
   rw [q0hz,hq]
   cases st with
   |ready=>rfl
   |busy=>exact absurd rfl hst
   |done x=>rfl
 rw [q0hy,hx]
 rcases hv with ⟨f,rfl⟩|⟨f,u,v,rfl⟩
 ·rw [q0nu,h];exact key
 ·rw [q0pp,h];exact key
theorem q0cz {q:Nat} {H:Heap} {env:List (Nat×V)} {ps:List Nat} {a b:IC} (h:H[q]? =some (.loop .ready env ps a b)) {args:List V} (hl:args.length=ps.length) {env1:List (Nat×V)} {loc1:List (Nat×List V)}
  (ha:evD EE a ⟨bindE env ps args,[],H,H.length,[]⟩=some (.normal,⟨env1,loc1,H,H.length,[]⟩)) {x:Ex} {env2:List (Nat×V)} {loc2:List (Nat×List V)} {H2:Heap} {d2:List Nat}
  (hb:evD EE b ⟨env1,loc1,H.set q (.loop .busy env ps a b),H.length,[q]⟩=some (x,⟨env2,loc2,H2,H.length,d2⟩)) (hs:H2[q]? =some (.loop .busy env ps a b)):
  clD EE (.yld q) args H=some (vB (decide (x= .normal)),some (H2.set q (.loop (if x= .normal then .ready else .done x) env ps a b),d2)):=by
 have hq:q<H.length:=(List.getElem?_eq_some_iff.1 h).1
 have hd:addD H.length q []=[q]:=by unfold addD;rw [if_pos hq]
 rw [q0w8,h,q0i0,if_pos hl,ha,q0hc,h,q0i1,hd,hb,q0i2,hs,q0l3]
theorem q0ax {B:Nat}: ∀ {ds d:List Nat},(∀k∈ds,B≤k)→ds.foldr (addD B) d=d
 |[],_,_=>rfl
 |x::ds,d,h=>by
  rw [List.foldr_cons,q0ax fun k hk=>h k (by simp [hk])]
  unfold addD
  rw [if_neg (by have:=h x (by simp);omega)]
theorem q0s8 (E:Env) (f:FuncId) (s:Nat) (z:List V) (H:Heap) (id:Nat) (es:List (List V)) (hp:E.prims f=none) (hf:E.fns f=some (q05b s z)) (hr:Eng.rowAt H id=some (s,es)) (hn:es≠[]) (hs:es.all (okEl s)=true) (hm:es.length<most):
  clD E (.p (.fn f)) [.row id es.length 0 es.length] H=some (.row H.length es.length 0 es.length,some (H++[.row s es],[])):=by
 have hh:q052 [.row id es.length 0 es.length]=false:=by cases es with|nil=>exact absurd rfl hn|cons e r=>rfl
 rw [q0hw E f _ _ _ H hp hf hh]
 have h0:(0:Nat)<most:=by unfold most;omega
 have he:elems H (.row id es.length 0 es.length)=some es:=by simp [elems,hr]
 cases es with
 |nil=>exact absurd rfl hn
 |cons e r=>
  simp only [List.length_cons] at he hm⊢
  simp [-List.all_eq_true,St.enter,q000,he,hs,hm,h0]
theorem q0s9 {p:Int→Bool}: ∀(n:Nat) (a:Int),∀x∈sel p a n,a≤x∧x<a+n∧p x=true
 |0,_,x,h=>by simp [sel] at h
 |n+1,a,x,h=>by
  simp only [sel,List.mem_append] at h
  rcases h with h|h
  ·split at h
   ·simp at h;subst h;exact ⟨Int.le_refl _,by omega,by assumption⟩
   ·cases h
  ·have:=q0s9 n (a+1) x h
   exact ⟨by omega,by omega,this.2.2⟩
end Go.EnvOf
namespace Go.EnvOf
open Go Go.Eng
theorem q0ne {p:Int→Bool} {x:Int} (hp:p x=true): ∀(n:Nat) (a:Int),a≤x→x<a+n→x∈sel p a n
 |0,a,h1,h2=>by omega
 |n+1,a,h1,h2=>by
  simp only [sel,List.mem_append]
  by_cases e:a=x
  ·subst e;simp [hp]
  ·exact .inr (q0ne hp n (a+1) (by omega) (by omega))
theorem q0nf {L M:List Int} (h:q02j L M=false):1≤L.length∧L.length≤64∧ ∀x∈L,1≤x∧x≤1073741823:=by
 unfold q02j q06y bad at h
 simp at h
 obtain ⟨⟨⟨⟨h1,h2⟩,h3⟩,h4⟩,h5⟩:=h
 exact ⟨by omega,by omega,fun x hx=>h4 x hx⟩
def openN (l:List Note) (s:Spot):Nat:=if s.note<0∨s.line<0 then 0 else (max (max (min s.begun l.length) 0-s.note) 0).toNat
def q01y (l:List Note):Nat→Int→Int→List Piece
 |0,_,_=>[]
 |k+1,a,line=>⟨a,line,(rd l a).lines.length⟩::q01y l k (a+1) 0
def q03o (x:Note) (frm:Int):List Int:=sel (q06x x.lines x.pens frm) 0 (x.lines.length+1)
def lastP (s:Spot) (n:Nat):Int:=s.note+n-1
def fromP (s:Spot) (n:Nat):Int:=if n=1 then s.line else 0
def oneP (l:List Note) (s:Spot) (n:Nat) (t:Int):List Piece:=q01y l (n-1) s.note s.line++[⟨lastP s n,fromP s n,t⟩]
def q00j (l:List Note) (s:Spot):List (List Piece):=
 (if openN l s=0∨s.fresh=false then [[]] else [])++
 if openN l s=0 then [] else (q03o (rd l (lastP s (openN l s))) (fromP s (openN l s))).map (oneP l s (openN l s))
def q02l (l:List Note) (s:Spot):List Piece:=(q00j l s).headD []
def mayPc (l:List Note) (s:Spot) (p:List Piece):Bool:=(q00j l s).any fun q=>decide (q=p)
def q01q (s:Spot):Spot:=⟨s.note,s.line,s.begun,true⟩
theorem q0bk {l:List Note} {s:Spot} (hb:s.begun≤l.length) (hn:0≤s.note) (hl:0≤s.line):openN l s=(s.begun-s.note).toNat:=by
 unfold openN;rw [if_neg (by omega)];omega
theorem q0bl {s:Spot} (h:s.note<s.begun):lastP s (s.begun-s.note).toNat=s.begun-1:=by unfold lastP;omega
theorem q0fi {s:Spot}:fromP s (s.begun-s.note).toNat=if s.note+1=s.begun then s.line else 0:=by
 unfold fromP
 by_cases d:s.note+1=s.begun
 ·rw [if_pos d,if_pos (by omega)]
 ·rw [if_neg d,if_neg (by omega)]
theorem q0c9 {l:List Note} {s:Spot} {p:List Piece} (hb:s.begun≤l.length) (hn:0≤s.note) (hl:0≤s.line) (h:p∈q00j l s):
  (p=[]∧(s.begun≤s.note∨s.fresh=false))∨
  (s.note<s.begun∧ ∃q t,p=q++[⟨s.begun-1,if s.note+1=s.begun then s.line else 0,t⟩]∧(if s.note+1=s.begun then s.line else 0)<t∧t≤(rd l (s.begun-1)).lines.length∧mayF (rd l (s.begun-1)).lines (rd l (s.begun-1)).pens t=true):=by
 unfold q00j at h
 rw [q0bk hb hn hl] at h
 rcases List.mem_append.1 h with h|h
 ·by_cases c:(s.begun-s.note).toNat=0∨s.fresh=false
  ·rw [if_pos c] at h
   refine .inl ⟨by simpa using h,?_⟩
   rcases c with c|c
   ·exact .inl (by omega)
   ·exact .inr c
  ·rw [if_neg c] at h;simp at h
 ·by_cases c:(s.begun-s.note).toNat=0
  ·rw [if_pos c] at h;simp at h
  ·rw [if_neg c] at h
   have hlt:s.note<s.begun:=by omega
   obtain ⟨t,ht,rfl⟩:=List.mem_map.1 h
   rw [q0bl hlt,q0fi] at ht
   have:=q0s9 _ _ t ht
   unfold q06x at this
   simp only [Bool.and_eq_true,decide_eq_true_eq] at this
   refine .inr ⟨hlt,q01y l ((s.begun-s.note).toNat-1) s.note s.line,t,?_,this.2.2.1,by omega,this.2.2.2⟩
   unfold oneP
   rw [q0bl hlt,q0fi]
theorem q0ay (l:List Note) (s:Spot):nextF l s []=(s.note,s.line):=rfl
theorem q0p0 (l:List Note) (s:Spot) (q:List Piece) (x:Piece):nextF l s (q++[x])=nextP l x:=by unfold nextF;simp
theorem q0gw {α:Type} {l:List α} {d:α} (h:l≠[]):l.headD d∈l:=by
 cases l with
 |nil=>exact absurd rfl h
 |cons x r=>simp
theorem q0p1 {l:List Note} {s:Spot} (hb:s.begun≤l.length) (hn:0≤s.note) (hl:0≤s.line) (hw: ∀n∈l,1≤n.lines.length)
  (ho:s.note+1=s.begun→s.line<(rd l s.note).lines.length):q00j l s≠[]:=by
 unfold q00j
 rw [q0bk hb hn hl]
 by_cases c:(s.begun-s.note).toNat=0∨s.fresh=false
 ·rw [if_pos c];simp
 ·rw [if_neg c,if_neg (fun h=>c (.inl h)),List.nil_append]
  have hlt:s.note<s.begun:=by omega
  rw [q0bl hlt,q0fi]
  have hm:(rd l (s.begun-1))∈l:=q05n (by omega) (by omega)
  have h1:=hw _ hm
  have key:(((rd l (s.begun-1)).lines.length:Nat):Int)∈q03o (rd l (s.begun-1)) (if s.note+1=s.begun then s.line else 0):=by
   unfold q03o
   refine q0ne ?_ _ _ (by omega) (by omega)
   unfold q06x mayF
   simp only [Bool.and_eq_true,decide_eq_true_eq,Bool.or_eq_true]
   refine ⟨?_,.inl trivial⟩
   by_cases d:s.note+1=s.begun
   ·rw [if_pos d]
    have:=ho d
    have e:s.begun-1=s.note:=by omega
    rw [e];exact this
   ·rw [if_neg d];omega
  intro h
  rw [List.map_eq_nil_iff] at h
  rw [h] at key
  cases key
theorem q0gx {l:List Note} {s:Spot} (hb:s.begun≤l.length) (hn:0≤s.note) (hl:0≤s.line) (hw: ∀n∈l,1≤n.lines.length)
  (ho:s.note+1=s.begun→s.line<(rd l s.note).lines.length):q02l l s∈q00j l s:=q0gw (q0p1 hb hn hl hw ho)
theorem q051 (l:List Note) (s:Spot) (p:List Piece):mayPc l s p=true↔p∈q00j l s:=by
 unfold mayPc
 rw [List.any_eq_true]
 constructor
 ·rintro ⟨q,h,e⟩
  have:q=p:=by simpa using e
  exact this▸h
 ·intro h;exact ⟨p,h,by simp⟩
theorem q07g (l:List Note) (n:Int) (h0:0≤n) (h1:n<l.length):lineN (l.take (n+1).toNat)=lineN (l.take n.toNat)+(rd l n).lines.length:=by
 have e:(n+1).toNat=n.toNat+1:=by omega
 rw [e,q044 (q03y l n h0 h1),q0e6]
theorem q0ee (l:List Note) (a:Nat): ∀k:Nat,lineN (l.take a)≤lineN (l.take (a+k))
 |0=>Int.le_refl _
 |k+1=>by
  have ih:=q0ee l a k
  rcases Nat.lt_or_ge (a+k) l.length with h|h
  ·have:=q044 (List.getElem?_eq_getElem h)
   rw [←Nat.add_assoc,this,q0e6];omega
  ·rw [List.take_of_length_le (show l.length≤a+(k+1) by omega)]
   rw [List.take_of_length_le h] at ih
   exact ih
theorem q0vn (l:List Note) {a b:Int} (h:a≤b):lineN (l.take a.toNat)≤lineN (l.take b.toNat):=by
 have:=q0ee l a.toNat (b.toNat-a.toNat)
 rw [show a.toNat+(b.toNat-a.toNat)=b.toNat by omega] at this
 exact this
def progN (l:List Note) (note line:Int):Int:=lineN (l.take note.toNat)+line
theorem q0gy (l:List Item) (a:Nat):l.take (trimN l a)=l.take a++(l.drop a).takeWhile q04j:=by
 unfold trimN
 rw [List.take_add,q0ff]
theorem q0ng {x:Item} (h:q04j x=true):x.k=2∨x.k=3:=by simpa [q04j] using h
theorem q0az (l:List Item) (n:Int):putN l (trimF l n)=trimN l (putN l n):=q0n9 (q0ka l n)
theorem q0p2 (l r:List Item):q00u (l++r)=q00u l+cnt 5 r:=by
 unfold q00u cnt
 simp [List.filter_append]
theorem q0p3 (j:Job) (n:Int):q00i j (trimF j.items n)=q00i j n:=by
 unfold q00i
 rw [q0az,q0gy,q0p2,q0v6]
 ·simp
 ·intro x hx
  have:=q0ng (q065 hx)
  omega
theorem q0ca (fs:List Float): ∀(r:List Item) (c:C3),(∀x∈r,x.k≠6)→r.foldl (addAt fs) c=c
 |[],_,_=>rfl
 |x::r,c,h=>by
  have h1:addAt fs c x=c:=by unfold addAt;rw [if_neg (h x (by simp))]
  simp only [List.foldl_cons,h1]
  exact q0ca fs r c fun y hy=>h y (by simp [hy])
theorem q0ef (fs:List Float) (l r:List Item):q00h fs (l++r)=r.foldl (addAt fs) (q00h fs l):=by simp [q00h]
theorem q0p4 (j:Job) (n:Int):q00v j (trimF j.items n)=q00v j n:=by
 unfold q00v
 rw [q0az,q0gy,q0ef,q0ca]
 intro x hx
 have:=q0ng (q065 hx)
 omega
theorem q0gz (l:List Item) {a b:Int} (h:a≤b):putN l a≤putN l b:=by unfold putN;omega
theorem q0p5 (j:Job) {a b:Int} (h:a≤b):q00i j a≤q00i j b:=by
 unfold q00i q00u
 have:=q07q 5 (j.items.take (putN j.items b)) (putN j.items a)
 rw [List.take_take,Nat.min_eq_left (q0gz j.items h)] at this
 omega
def leC (x y:C3):Prop:=x.a≤y.a∧x.b≤y.b∧x.c≤y.c
theorem q06h (x y:C3):inC x y=true↔leC x y:=by unfold inC leC;simp only [Bool.and_eq_true,decide_eq_true_eq,and_assoc]
theorem q074 (x:C3):leC x x:=⟨Int.le_refl _,Int.le_refl _,Int.le_refl _⟩
theorem q023 {x y z:C3} (h:leC x y) (g:leC y z):leC x z:=⟨Int.le_trans h.1 g.1,Int.le_trans h.2.1 g.2.1,Int.le_trans h.2.2 g.2.2⟩
theorem q0d0 (fs:List Float) (c:C3) (x:Item):leC c (addAt fs c x):=by
 unfold addAt ofS bump leC
 (repeat' split)<;>(try simp only)<;>omega
theorem q0h0 (fs:List Float): ∀(r:List Item) (c:C3),leC c (r.foldl (addAt fs) c)
 |[],c=>q074 c
 |x::r,c=>q023 (q0d0 fs c x) (q0h0 fs r _)
theorem q0p6 (j:Job) {a b:Int} (h:a≤b):leC (q00v j a) (q00v j b):=by
 unfold q00v
 have e:j.items.take (putN j.items b)=j.items.take (putN j.items a)++(j.items.take (putN j.items b)).drop (putN j.items a):=by
  have:=List.take_append_drop (putN j.items a) (j.items.take (putN j.items b))
  rw [List.take_take,Nat.min_eq_left (q0gz j.items h)] at this
  exact this.symm
 rw [e,q0ef]
 exact q0h0 _ _ _
theorem q0sa (fs:List Float) (l:List Item):leC (dueP fs l) (q00h fs l):=by
 have key: ∀n,n≤l.length→leC (dueP fs (l.take n)) (q00h fs (l.take n)):=by
  intro n
  induction n with
  |zero=>intro _;rw [List.take_zero];exact q074 _
  |succ n ih=>
   intro h
   rw [q044 (List.getElem?_eq_getElem (show n<l.length by omega)),q0gm,q0c8]
   split
   ·exact q0d0 _ _ _
   ·exact q023 (ih (by omega)) (q0d0 _ _ _)
 have:=key l.length (Nat.le_refl _)
 rwa [List.take_length] at this
def cF (fs:List Float) (n:Nat):C3:=⟨(figOf 0 0 (fs.take n)).length,(figOf 1 0 (fs.take n)).length,(figOf 2 0 (fs.take n)).length⟩
theorem q0b0 (c:Int): ∀(a b:List Float) (i:Nat),figOf c i (a++b)=figOf c i a++figOf c (i+a.length) b
 |[],b,i=>by simp [figOf]
 |x::a,b,i=>by
  simp only [List.cons_append,figOf,q0b0 c a b (i+1),List.length_cons,List.append_assoc]
  rw [show i+1+a.length=i+(a.length+1) by omega]
theorem q0yy (fs:List Float) (n:Nat) (f:Float) (h:fs[n]? =some f):cF fs (n+1)=bump (cF fs n) f.c:=by
 unfold cF bump
 rw [q044 h]
 simp only [q0b0,figOf,List.length_append,List.append_nil]
 by_cases c0:f.c=0
 ·simp [c0]
 ·by_cases c1:f.c=1
  ·simp [c1]
  ·by_cases c2:f.c=2
   ·simp [c2]
   ·simp [c0,c1,c2]
theorem q0fj (fs:List Float) (m:Nat) (hm:m≤fs.length): ∀(l:List Item) (i n:Nat),n≤m→refF 6 m i n l<0→l.foldl (addAt fs) (cF fs n)=cF fs m
 |[],i,n,hn,h=>by
  simp only [refF] at h
  by_cases c:n<m
  ·rw [if_pos c] at h;omega
  ·have:n=m:=by omega
   subst this;rfl
 |x::r,i,n,hn,h=>by
  simp only [refF] at h
  simp only [List.foldl_cons]
  by_cases hk:x.k=6
  ·rw [if_pos hk] at h
   by_cases hx:x.n=n∧n<m
   ·rw [if_pos hx] at h
    have hf:fs[n]? =some (fs[n]'(by omega)):=List.getElem?_eq_getElem (by omega)
    have e:addAt fs (cF fs n) x=cF fs (n+1):=by
     rw [q0yy fs n _ hf]
     unfold addAt ofS
     rw [if_pos hk,hx.1]
     have ha:atF fs (n:Int)=some (fs[n]'(by omega)):=by
      unfold atF
      rw [if_pos ⟨by omega,by omega⟩,rd_of hf]
     rw [ha]
    rw [e]
    exact q0fj fs m hm r (i+1) (n+1) (by omega) h
   ·rw [if_neg hx] at h;omega
  ·rw [if_neg hk] at h
   have e:addAt fs (cF fs n) x=cF fs n:=by unfold addAt;rw [if_neg hk]
   rw [e]
   exact q0fj fs m hm r (i+1) n hn h
theorem q066 (c:Int) (fs:List Float) (n:Nat):(figOf c 0 (fs.take n)).length≤(figOf c 0 fs).length:=by
 conv=>rhs;rw [←List.take_append_drop n fs,q0b0,List.length_append]
 omega
def allC (fs:List Float):C3:=⟨(figOf 0 0 fs).length,(figOf 1 0 fs).length,(figOf 2 0 fs).length⟩
theorem cF_le (fs:List Float) (n:Nat):leC (cF fs n) (allC fs):=by
 have a:=q066 0 fs n
 have b:=q066 1 fs n
 have c:=q066 2 fs n
 unfold leC cF allC
 simp only
 omega
theorem q07h {j:Job} (h:refF 6 j.floats.length 0 0 j.items<0) (n:Int):leC (q00v j n) (allC j.floats):=by
 unfold q00v
 have h1:=q0at 6 j.floats.length j.items 0 0 (putN j.items n) h
 have h2:=q06z 6 j.floats.length j.items 0 0 (Nat.zero_le _) h
 have h3:=q07q 6 j.items (putN j.items n)
 rw [Nat.zero_add] at h1
 have:=q0fj j.floats (cnt 6 (j.items.take (putN j.items n))) (by omega) _ 0 0 (Nat.zero_le _) h1
 have e:cF j.floats 0=⟨0,0,0⟩:=rfl
 rw [e] at this
 unfold q00h
 rw [this]
 exact cF_le _ _
theorem q07s (j:Job) (s:Stt):q04o j s=true↔(s.line=0∧s.note=q00i j s.at_)∨
  (1≤s.line∧s.note=q00i j s.at_-1∧0≤s.note∧s.line<(rd j.notes s.note).lines.length∧mayF (rd j.notes s.note).lines (rd j.notes s.note).pens s.line=true):=by
 unfold q04o
 by_cases h:s.line=0
 ·rw [if_pos h,decide_eq_true_eq]
  constructor
  ·intro e;exact .inl ⟨h,e⟩
  ·rintro (e|e)
   ·exact e.2
   ·omega
 ·rw [if_neg h]
  by_cases g:s.note≠q00i j s.at_-1∨s.note<0∨s.line<1
  ·rw [if_pos g]
   constructor
   ·intro e;cases e
   ·rintro (e|e)<;>omega
  ·rw [if_neg g]
   simp only [Bool.and_eq_true,decide_eq_true_eq]
   constructor
   ·rintro ⟨a,b⟩;exact .inr ⟨by omega,by omega,by omega,a,b⟩
   ·rintro (e|⟨_,_,_,a,b⟩)
    ·omega
    ·exact ⟨a,b⟩
structure rightP (j:Job) (s:Stt):Prop where
 at0:0≤s.at_
 at1:s.at_≤j.items.length
 trim:(trimF j.items s.at_:Int)=s.at_
 col0:0≤s.col
 col1:s.col≤j.g.cols
 car:q04o j s=true
 h0:leC zeroC s.h
 h1:leC s.h (q00v j s.at_)
theorem q01g (j:Job) (s:Stt):q01c j s=true↔rightP j s:=by
 unfold q01c
 by_cases g:s.at_<0∨(j.items.length:Int)<s.at_∨(trimF j.items s.at_:Int)≠s.at_∨s.col<0∨j.g.cols<s.col
 ·rw [if_pos g]
  constructor
  ·intro e;cases e
  ·rintro ⟨a,b,c,d,e,-,-,-⟩;omega
 ·rw [if_neg g]
  simp only [Bool.and_eq_true,q06h]
  constructor
  ·rintro ⟨⟨a,b⟩,c⟩;exact ⟨by omega,by omega,by omega,by omega,by omega,a,b,c⟩
  ·intro h;exact ⟨⟨h.car,h.h0⟩,h.h1⟩
structure wfJ (j:Job):Prop where
 w:okW j
 notes: ∀n∈j.notes,1≤n.lines.length
 five:q00u j.items=j.notes.length
 six:refF 6 j.floats.length 0 0 j.items<0
 fl: ∀f∈j.floats,(0≤f.c∧f.c≤2)∧0≤f.h∧f.h≤j.g.first
 hi0:0≤j.g.first
 high:j.g.first≤j.g.high∧j.g.high≤4294967296
 sep:0≤j.g.sep∧j.g.sep≤4294967296
 many:0≤j.g.topMany∧0≤j.g.botMany∧0≤j.g.topMost∧0≤j.g.botMost
 cols:1≤j.g.cols
theorem q09d {j:Job} (w:wfJ j) {s:Stt} (r:rightP j s):0≤s.note∧0≤s.line∧s.note≤j.notes.length∧(s.line≠0→s.note<j.notes.length∧s.line<(rd j.notes s.note).lines.length):=by
 have b:=q0gs j s.at_
 have b2:=q03h w.w s.at_
 rcases (q07s j s).1 r.car with ⟨h1,h2⟩|⟨h1,h2,h3,h4,-⟩
 ·refine ⟨by omega,by omega,by omega,fun h=>absurd h1 h⟩
 ·exact ⟨by omega,by omega,by omega,fun _=>⟨by omega,h4⟩⟩
theorem q0sb {j:Job} (w:wfJ j) {s:Stt} (r:rightP j s) {b:Int} {fr:Bool} {p:List Piece} (hb:q00i j s.at_≤b) (hb2:b≤j.notes.length) (hf:fr=false→b≤q00i j s.at_)
  (hp:p∈q00j j.notes ⟨s.note,s.line,b,fr⟩):
  (((nextF j.notes ⟨s.note,s.line,b,fr⟩ p).2=0∧(nextF j.notes ⟨s.note,s.line,b,fr⟩ p).1=b)∨
    (1≤(nextF j.notes ⟨s.note,s.line,b,fr⟩ p).2∧(nextF j.notes ⟨s.note,s.line,b,fr⟩ p).1=b-1∧0≤(nextF j.notes ⟨s.note,s.line,b,fr⟩ p).1∧
     (nextF j.notes ⟨s.note,s.line,b,fr⟩ p).2<(rd j.notes (nextF j.notes ⟨s.note,s.line,b,fr⟩ p).1).lines.length∧mayF (rd j.notes (nextF j.notes ⟨s.note,s.line,b,fr⟩ p).1).lines (rd j.notes (nextF j.notes ⟨s.note,s.line,b,fr⟩ p).1).pens (nextF j.notes ⟨s.note,s.line,b,fr⟩ p).2=true))∧
  progN j.notes s.note s.line≤progN j.notes (nextF j.notes ⟨s.note,s.line,b,fr⟩ p).1 (nextF j.notes ⟨s.note,s.line,b,fr⟩ p).2∧
  (p≠[]→progN j.notes s.note s.line<progN j.notes (nextF j.notes ⟨s.note,s.line,b,fr⟩ p).1 (nextF j.notes ⟨s.note,s.line,b,fr⟩ p).2):=by
 obtain ⟨n0,l0,n1,n2⟩:=q09d w r
 rcases q0c9 (s:=⟨s.note,s.line,b,fr⟩) hb2 n0 l0 hp with ⟨rfl,h⟩|⟨h,q,t,rfl,ht,ht2,hm⟩
 ·rw [q0ay]
  simp only at h⊢
  refine ⟨?_,Int.le_refl _,fun h=>absurd rfl h⟩
  have hbb:b≤s.note∨b≤q00i j s.at_:=h.imp id hf
  rcases (q07s j s).1 r.car with ⟨h1,h2⟩|⟨h1,h2,h3,h4,h5⟩
  ·exact .inl ⟨h1,by omega⟩
  ·exact .inr ⟨h1,by omega,h3,h4,h5⟩
 ·rw [q0p0]
  simp only at h ht ht2 hm⊢
  have hpr:progN j.notes s.note s.line<lineN (j.notes.take (b-1).toNat)+t:=by
   unfold progN
   by_cases d:s.note+1=b
   ·rw [if_pos d] at ht
    have e:b-1=s.note:=by omega
    rw [e];omega
   ·rw [if_neg d] at ht
    have h1:=q07g j.notes s.note n0 (by omega)
    have h2:=q0vn j.notes (show s.note+1≤b-1 by omega)
    have h3:s.line≤(rd j.notes s.note).lines.length:=by
     by_cases z:s.line=0
     ·omega
     ·have:=(n2 z).2;omega
    omega
  have ht0:0<t:=by
   by_cases d:s.note+1=b
   ·rw [if_pos d] at ht;omega
   ·rw [if_neg d] at ht;exact ht
  unfold nextP
  by_cases c:0≤b-1∧b-1<j.notes.length∧t=(rd j.notes (b-1)).lines.length
  ·rw [if_pos c]
   have e:=q07g j.notes (b-1) c.1 c.2.1
   rw [show b-1+1=b by omega] at e⊢
   have:progN j.notes s.note s.line<progN j.notes b 0:=by
    have hx:progN j.notes b 0=lineN (j.notes.take b.toNat)+0:=rfl
    rw [hx,e];omega
   exact ⟨.inl ⟨rfl,rfl⟩,by simp only;omega,fun _=>this⟩
  ·rw [if_neg c]
   simp only
   exact ⟨.inr ⟨by omega,trivial,by omega,by omega,hm⟩,by unfold progN at*;omega,fun _=>hpr⟩
end Go.EnvOf
