/- The program's functions and the document's, evaluated. -/
import Derived.Test.YtpibjnnbploadaaGreatText6
import Derived.Test.YtpibjnnbploadaaGreatText4
import Derived.Test.YtpibjnnbploadaaGreatText2
set_option linter.unusedSimpArgs false
set_option linter.unusedVariables false
namespace Go.EnvOf
open Go Go.Eng
set_option maxRecDepth 100000
def mustV (l:List Item) (n:Int):Bool:=match q01c l n with|some x=>decide (1≤n)&&q03q x|none=>false
theorem q0ht (l:List Item) (n:Int) (H:Heap):clD EE (.p (.fn 171)) [q004 l,vI n] H=some (vB (mustV l n),none):=by
 rw [q002 _ _ _ _ _ _ (noP _) fn171]
 unfold mustV q01c q03q
 by_cases c1:1≤n
 ·by_cases c2:n<l.length
  ·have hx:=q028 l n (by omega) (by omega)
   have hix:=fun H k=>q02t H q003 (k:=k) (s:=7) (by omega) hx rfl
   simp only [q003] at hix
   rw [if_pos ⟨by omega,c2⟩]
   generalize rd l n=x at*
   by_cases k:x.k=3<;>simp [St.enter,q000,subs,c1,c2,hix,k]
  ·rw [if_neg (fun h=>c2 h.2)]
   simp [St.enter,q000,c1,c2]
 ·have:(match (if 0≤n∧n<l.length then some (rd l n) else none) with|some x=>decide (1≤n)&&(decide (x.k=3)&&decide (x.n≤ -10000))|none=>false)=false:=by
   split<;>simp [c1]
  rw [this]
  simp [St.enter,q000,c1]
theorem q09b (l:List Item) (hl:l.length≤1000000) (n:Int) (H:Heap):clD EE (.p (.fn 170)) [q004 l,vI n] H=some (vB (mayV l n),none):=by
 rw [q002 _ _ _ _ _ _ (noP _) fn170]
 have lo:=fun x H=>q0ek x H
 unfold mayV q01c
 by_cases c1:n<1
 ·simp [St.enter,q000,c1]
 ·by_cases c2:(l.length:Int)<n
  ·simp [St.enter,q000,c1,c2]
  ·by_cases c3:n=l.length
   ·rw [if_neg (by omega),if_neg (by omega)]
    simp only
    have c1': ¬(l.length:Int)<1:=by omega
    subst c3
    simp [St.enter,q000,c1']
   ·have hx:=q028 l n (by omega) (by omega)
    have hix:=fun H k=>q02t H q003 (k:=k) (s:=7) (by omega) hx rfl
    have w:IntKind.i64.wrap (n-1)=n-1:=w64 (by omega) (by omega)
    have hy:=q028 l (n-1) (by omega) (by omega)
    have hiy:=fun H k=>q02t H q003 (k:=k) (s:=7) (by omega) hy rfl
    simp only [q003] at hix hiy
    rw [if_neg (by omega),if_pos ⟨by omega,by omega⟩]
    simp only [forbX]
    generalize rd l n=x at*
    have e:q0cf (rd l (n-1))=q033 (rd l (n-1)):=rfl
    rw [e]
    generalize rd l (n-1)=y at*
    by_cases k2:x.k=2
    ·simp [St.enter,q000,subs,q001,c1,c2,c3,hix,hiy,k2,w,lo]
    ·by_cases k3:x.k=3
     ·simp [St.enter,q000,subs,q001,c1,c2,c3,hix,k3];by_cases z:x.n<10000<;>simp [z]<;>omega
     ·simp [St.enter,q000,subs,q001,c1,c2,c3,hix,k2,k3]
def rahS (b:Int) (at_:Int) (i:Nat) (x:Item):Int:=if (i:Int)<b∧x.k=1 then i else at_
theorem q059 {α τ:Type} (f:τ→Nat→α→τ): ∀(l:List α) (s:τ) (i n:Nat) (x:α),l[n]? =some x→fold f s i (l.take (n+1))=f (fold f s i (l.take n)) (i+n) x
 |[],s,i,n,x,h=>by simp at h
 |y::r,s,i,0,x,h=>by simp at h;subst h;simp [fold]
 |y::r,s,i,n+1,x,h=>by
  simp only [List.take_succ_cons,fold]
  rw [q059 f r _ (i+1) n x (by simpa using h)]
  congr 1;omega
theorem ra_ah (l:List Item) (b:Int):fold (rahS b) (-1) 0 l=ahL l b:=by
 have key: ∀n,n≤l.length→fold (rahS b) (-1) 0 (l.take n)=bwdB l (min (max b 0).toNat n):=by
  intro n
  induction n with
  |zero=>intro _;simp [fold,bwdB]
  |succ n ih=>
   intro hn
   have hx:l[n]? =some l[n]:=List.getElem?_eq_getElem (by omega)
   rw [q059 _ l _ 0 n _ hx,ih (by omega),Nat.zero_add]
   have hr:rd l (n:Int)=l[n]:=by
    have:=q028 l (n:Int) (by omega) (by omega)
    simp at this
    rw [hx] at this;simpa using this.symm
   unfold rahS
   by_cases c:(n:Int)<b
   ·have e1:min (max b 0).toNat (n+1)=n+1:=by omega
    have e2:min (max b 0).toNat n=n:=by omega
    rw [e1,e2,bwdB,hr]
    by_cases k:l[n].k=1
    ·rw [if_pos ⟨c,k⟩,if_pos k]
    ·rw [if_neg (fun h=>k h.2),if_neg k]
   ·have e:min (max b 0).toNat (n+1)=min (max b 0).toNat n:=by omega
    rw [if_neg (fun h=>c h.1),e]
 have h:=key l.length (Nat.le_refl _)
 rw [List.take_length] at h
 rw [h]
 unfold ahL
 by_cases c:b<1
 ·rw [if_pos c]
  have e:min (max b 0).toNat l.length=0:=by omega
  rw [e,bwdB]
 ·rw [if_neg c];congr 1;omega
def rahE (l:List Item) (b:Int) (H:Heap) (a:Int) (i:Nat):St:=⟨[(0,q004 l),(1,vI b),(5,vI a),(6,vI i)],[],H,H.length,[]⟩
def rahX (l:List Item) (b:Int) (H:Heap) (a:Int):Ex×St:=(.exit 0,⟨[(0,q004 l),(1,vI b),(5,vI a),(6,vI l.length),(10,vB false)],[],H,H.length,[]⟩)
theorem q0xg (l:List Item) (hl:l.length≤1000000) (b:Int) (H:Heap):clD EE (.p (.fn 325)) [q004 l,vI b] H=some (vI (ahL l b),none):=by
 rw [q002 _ _ _ _ _ _ (noP _) fn325]
 have k:evD EE q0d3 (rahE l b H (-1) 0)=some (rahX l b H (ahL l b)):=by
  unfold q0d3
  refine Eq.trans (q017 l (fun a i=>rahE l b H a i) (fun _ _=>True) (rahS b) (fun a=>rahX l b H a) (fun _ _=>rfl) ?_ ?_ (-1) 0 trivial (Nat.zero_le _)) (by rw [List.drop_zero,ra_ah])
  ·rintro a i x-hx
   refine ⟨?_,trivial⟩
   have hlt:=(List.getElem?_eq_some_iff.1 hx).1
   have w:IntKind.i64.wrap ((i:Int)+1)=((i+1:Nat):Int):=w64 (by omega) (by omega)
   have hix:=fun H k=>q00o H q003 (k:=k) (s:=7) hx rfl
   simp only [q003] at hix
   unfold rahS
   by_cases c:(i:Int)<b
   ·by_cases k1:x.k=1
    ·simp [rahE,hlt,hix,subs,w,c,k1]
    ·simp [rahE,hlt,hix,subs,w,c,k1]
   ·simp [rahE,hlt,hix,subs,w,c]
  ·rintro a-
   simp [rahE,rahX]
 simp [rahE,rahX] at k
 simp [St.enter,q000,k]
def fwdR (b:Int):List Item→Nat→Int
 |[],_=> -1
 |x::r,i=>if b≤i∧x.k=1 then i else fwdR b r (i+1)
theorem q0or (b:Int): ∀(l:List Item) (i:Nat),fwdR b l i=fwdB (l.drop ((max b 0).toNat-i)) (max i (max b 0).toNat)
 |[],i=>by simp [fwdR,fwdB]
 |x::r,i=>by
  rw [fwdR,q0or b r (i+1)]
  by_cases c:b≤i
  ·have e1:(max b 0).toNat-i=0:=by omega
   have e2:(max b 0).toNat-(i+1)=0:=by omega
   have e3:max i (max b 0).toNat=i:=by omega
   have e4:max (i+1) (max b 0).toNat=i+1:=by omega
   rw [e1,e2,e3,e4,List.drop_zero,List.drop_zero,fwdB]
   by_cases k:x.k=1
   ·rw [if_pos ⟨c,k⟩,if_pos k]
   ·rw [if_neg (fun h=>k h.2),if_neg k]
  ·have e1:(max b 0).toNat-i=((max b 0).toNat-(i+1))+1:=by omega
   have e3:max i (max b 0).toNat=(max b 0).toNat:=by omega
   have e4:max (i+1) (max b 0).toNat=(max b 0).toNat:=by omega
   rw [if_neg (fun h=>c h.1),e1,e3,e4,List.drop_succ_cons]
theorem q0s7 (l:List Item) (b:Int):fwdR b l 0=behL l b:=by
 rw [q0or];unfold behL;simp
def rbhE (l:List Item) (b:Int) (H:Heap) (i:Nat):St:=⟨[(0,q004 l),(1,vI b),(5,vI i)],[],H,H.length,[]⟩
def rbhX (l:List Item) (b:Int) (H:Heap):Ex×St:=(.exit 0,⟨[(0,q004 l),(1,vI b),(5,vI l.length),(9,vB false)],[],H,H.length,[]⟩)
def rbhS (b:Int) (H:Heap) (_:Unit) (i:Nat) (x:Item):Unit⊕(Ex×St):=if b≤i∧x.k=1 then .inr (.ret,⟨[(4,vI i)],[],H,H.length,[]⟩) else .inl ()
theorem q0k8 (b:Int) (H:Heap) (fin:Ex×St): ∀(l:List Item) (i:Nat),rng (rbhS b H) (fun _=>fin) () i l=if fwdR b l i= -1 then fin else (.ret,⟨[(4,vI (fwdR b l i))],[],H,H.length,[]⟩)
 |[],_=>by simp [rng,fwdR]
 |x::r,i=>by
  simp only [rng,rbhS,fwdR]
  by_cases c:b≤(i:Int)∧x.k=1
  ·simp only [if_pos c];rw [if_neg (by omega)]
  ·simp only [if_neg c];exact q0k8 b H fin r (i+1)
theorem q0ve (l:List Item) (hl:l.length≤1000000) (b:Int) (H:Heap):clD EE (.p (.fn 326)) [q004 l,vI b] H=some (vI (behL l b),none):=by
 rw [q002 _ _ _ _ _ _ (noP _) fn326]
 have k:evD EE q0d4 (rbhE l b H 0)=some (rng (rbhS b H) (fun _=>rbhX l b H) () 0 l):=by
  unfold q0d4
  refine q01g l (fun (_:Unit) i=>rbhE l b H i) (fun _ _=>True) (rbhS b H) (fun _=>rbhX l b H) (fun _ _=>rfl) ?_ ?_ () 0 trivial (Nat.zero_le _)
  ·rintro _ i x-hx
   have hlt:=(List.getElem?_eq_some_iff.1 hx).1
   have w:IntKind.i64.wrap ((i:Int)+1)=((i+1:Nat):Int):=w64 (by omega) (by omega)
   have hix:=fun H k=>q00o H q003 (k:=k) (s:=7) hx rfl
   simp only [q003] at hix
   unfold rbhS
   by_cases c:b≤(i:Int)
   ·by_cases k1:x.k=1
    ·simp [rbhE,hlt,hix,subs,w,c,k1]
    ·simp [rbhE,hlt,hix,subs,w,c,k1]
   ·simp [rbhE,hlt,hix,subs,w,c]
  ·rintro _-
   simp [rbhE,rbhX]
 rw [q0k8,q0s7] at k
 by_cases c:behL l b= -1
 ·rw [if_pos c] at k
  simp [rbhE,rbhX] at k
  rw [c]
  simp [St.enter,q000,k]
 ·rw [if_neg c] at k
  simp [rbhE] at k
  simp [St.enter,q000,k]
theorem q0k9 (l:List Item): ∀n:Nat,-1≤bwdB l n∧bwdB l n<n
 |0=>by simp [bwdB]
 |n+1=>by
  have:=q0k9 l n
  rw [bwdB];split<;>omega
theorem q0ka: ∀(l:List Item) (i:Nat),-1≤fwdB l i∧fwdB l i<i+l.length
 |[],i=>by simp [fwdB];omega
 |x::r,i=>by
  have:=q0ka r (i+1)
  rw [fwdB,List.length_cons]
  split<;>push_cast at* <;>omega
theorem q0xh (l:List Item) (b:Int): -1≤ahL l b∧(ahL l b<l.length):=by
 unfold ahL
 split
 ·constructor<;>omega
 ·have:=q0k9 l (min b l.length).toNat
  omega
theorem q0vf (l:List Item) (b:Int): -1≤behL l b∧(behL l b<l.length):=by
 unfold behL
 have:=q0ka (l.drop (max b 0).toNat) (max b 0).toNat
 rw [List.length_drop] at this
 by_cases c:(max b 0).toNat≤l.length
 ·omega
 ·rw [List.drop_eq_nil_of_le (by omega)]
  simp [fwdB];omega
theorem q0s8 (l:List Item) (hl:l.length≤1000000) (b:Int) (H:Heap):clD EE (.p (.fn 172)) [q004 l,vI b] H=some (vB (isAt l 1 (ahL l b)),none):=by
 rw [q002 _ _ _ _ _ _ (noP _) fn172]
 have a:=fun H=>q0xg l hl b H
 have bd:=q0xh l b
 generalize ahL l b=t at*
 unfold isAt q01c
 by_cases c:0≤t
 ·have hx:=q028 l t (by omega) (by omega)
  have hix:=fun H k=>q02t H q003 (k:=k) (s:=7) (by omega) hx rfl
  simp only [q003] at hix
  rw [if_pos ⟨c,bd.2⟩]
  simp [St.enter,q000,subs,a,c,hix]
 ·rw [if_neg (fun h=>c h.1)]
  simp [St.enter,q000,a,c]
theorem q0os (l:List Item) (hl:l.length≤1000000) (b:Int) (H:Heap):clD EE (.p (.fn 173)) [q004 l,vI b] H=some (vB (isAt l 2 (behL l b)),none):=by
 rw [q002 _ _ _ _ _ _ (noP _) fn173]
 have a:=fun H=>q0ve l hl b H
 have bd:=q0vf l b
 generalize behL l b=t at*
 unfold isAt q01c
 by_cases c:0≤t
 ·have hx:=q028 l t (by omega) (by omega)
  have hix:=fun H k=>q02t H q003 (k:=k) (s:=7) (by omega) hx rfl
  simp only [q003] at hix
  rw [if_pos ⟨c,bd.2⟩]
  simp [St.enter,q000,subs,a,c,hix]
 ·rw [if_neg (fun h=>c h.1)]
  simp [St.enter,q000,a,c]
theorem q0s9 (g:Geom) (l:List Item) (hl:l.length≤1000000) (b:Int) (H:Heap):clD EE (.p (.fn 96)) [vGeom g,q004 l,vI b] H=some (vI (paraF g l b),none):=by
 rw [q002 _ _ _ _ _ _ (noP _) fn96]
 have m:=fun H=>q09b l hl b H
 have f:=fun H=>q0ht l b H
 have cl:=fun H=>q0s8 l hl b H
 have wi:=fun H=>q0os l hl b H
 unfold paraF
 generalize isAt l 1 (ahL l b)=C at*
 generalize isAt l 2 (behL l b)=Wd at*
 cases q:mayV l b with
 |false=>
  rw [q] at m
  cases q01c l b<;>simp [St.enter,q000,subs,q001,m]
 |true=>
  rw [q] at m
  have hr:1≤b∧b≤l.length:=by
   unfold mayV at q
   by_cases c:b<1∨(l.length:Int)<b
   ·rw [if_pos c] at q;cases q
   ·omega
  by_cases e:b=l.length
  ·have:q01c l b=none:=by unfold q01c;rw [if_neg (by omega)]
   rw [this]
   subst e
   simp [St.enter,q000,subs,q001,m]
  ·have hx:=q028 l b (by omega) (by omega)
   have hix:=fun H k=>q02t H q003 (k:=k) (s:=7) (by omega) hx rfl
   simp only [q003] at hix
   have hi:q01c l b=some (rd l b):=by unfold q01c;rw [if_pos ⟨by omega,by omega⟩]
   have hm:mustV l b=q03q (rd l b):=by unfold mustV;rw [hi];simp [hr.1]
   rw [hm] at f
   rw [hi]
   generalize rd l b=x at*
   cases u:q03q x with
   |true=>rw [u] at f;simp [St.enter,q000,subs,q001,m,f,e,u]
   |false=>
    rw [u] at f
    have mc:max 0 g.club=max g.club 0:=Int.max_comm _ _
    have mw:max 0 g.widow=max g.widow 0:=Int.max_comm _ _
    by_cases k3:x.k=3
    ·by_cases p:0<x.n
     ·have e1:max x.n 0=x.n:=by omega
      cases C<;>cases Wd<;>simp [St.enter,q000,subs,q001,m,f,e,u,hix,k3,p,cl,wi,e1,mc,mw]
     ·have e1:max x.n 0=0:=by omega
      cases C<;>cases Wd<;>simp [St.enter,q000,subs,q001,m,f,e,u,hix,k3,p,cl,wi,e1,mc,mw]
    ·cases C<;>cases Wd<;>simp [St.enter,q000,subs,q001,m,f,e,u,hix,k3,cl,wi,mc,mw]
theorem q0ot (n:Int) (H:Heap):clD EE (.p (.fn 228)) [vI n] H=some (vI (heldN n),none):=by
 rw [q002 _ _ _ _ _ _ (noP _) fn228]
 unfold heldN
 by_cases a:n<0
 ·have e:min (max n 0) 1125899906842624=0:=by omega
  rw [e];simp [St.enter,q000,a]
 ·by_cases b:1125899906842624<n
  ·have e:min (max n 0) 1125899906842624=1125899906842624:=by omega
   rw [e];simp [St.enter,q000,a,b]
  ·have e:min (max n 0) 1125899906842624=n:=by omega
   rw [e];simp [St.enter,q000,a,b]
theorem q0ai (a b c d:Int) (H:Heap):clD EE (.p (.fn 97)) [vCost a b,vCost c d] H=some (vCost (addM a c) (addM b d),none):=by
 rw [q002 _ _ _ _ _ _ (noP _) fn97]
 have h:=fun n H=>q0ot n H
 have b1:=q03i a
 have b2:=q03i b
 have b3:=q03i c
 have b4:=q03i d
 have w1:IntKind.i64.wrap (heldN a+heldN c)=heldN a+heldN c:=w64 (by omega) (by omega)
 have w2:IntKind.i64.wrap (heldN b+heldN d)=heldN b+heldN d:=w64 (by omega) (by omega)
 unfold addM
 simp [St.enter,q000,subs,q001,h,w1,w2]
def rcE (l:List Int) (H:Heap) (st:Int×Int) (i:Nat):St:=⟨[(1,sli l),(4,.lptr 4 0),(5,.lptr 5 0),(6,vI i)],[(4,[vI 0,vI 0]),(5,[vI st.1,vI st.2])],H,H.length,[]⟩
def rcX (l:List Int) (H:Heap) (st:Int×Int):Ex×St:=(.exit 0,⟨[(1,sli l),(4,.lptr 4 0),(5,.lptr 5 0),(6,vI l.length),(12,vB false)],[(4,[vI 0,vI 0]),(5,[vI st.1,vI st.2])],H,H.length,[]⟩)
theorem q0lp (over:Bool) (l:List Int) (hl:l.length≤1000000) (H:Heap):clD EE (.p (.fn 95)) [vB over,sli l] H=some (vCost (q05z over l).1 (q05z over l).2,none):=by
 rw [q002 _ _ _ _ _ _ (noP _) fn95]
 have k: ∀st0:Int×Int,evD EE q0gk (rcE l H st0 0)=some (rcX l H (fold coS st0 0 l)):=by
  intro st0
  unfold q0gk
  refine q017 l (fun st i=>rcE l H st i) (fun _ _=>True) coS (fun st=>rcX l H st) (fun _ _=>rfl) ?_ ?_ st0 0 trivial (Nat.zero_le _)
  ·rintro st i x-hx
   refine ⟨?_,trivial⟩
   have hlt:=(List.getElem?_eq_some_iff.1 hx).1
   have w:IntKind.i64.wrap ((i:Int)+1)=((i+1:Nat):Int):=w64 (by omega) (by omega)
   have hix:=fun H k=>q00o H encI (k:=k) (s:=1) hx rfl
   simp only [encI] at hix
   have ra:=fun H=>q0ai st.1 st.2 0 x H
   simp [rcE,coS,hlt,hix,encI,subs,q001,w,ra]
  ·rintro st-
   refine ⟨?_,by simp [rcX]⟩
   simp [rcE,rcX]
 unfold q05z
 cases over with
 |true=>
  have k1:=k (1,0)
  simp only [if_true]
  generalize fold coS (1,0) 0 l=q at*
  simp [rcE,rcX] at k1
  simp [St.enter,q000,subs,q001,k1]
 |false=>
  have k1:=k (0,0)
  simp only [Bool.false_eq_true,if_false]
  generalize fold coS (0,0) 0 l=q at*
  simp [rcE,rcX] at k1
  simp [St.enter,q000,subs,q001,k1]
def mustP (l:List Item) (n:Nat):Bool:=match l[n]? with|some x=>q03q x|none=>true
def mayN (l:List Item) (n:Nat):Bool:=mayV l n
def pos (a:Int):Nat:=(max a 0).toNat
def q015 (l:List Item) (a:Int):Int:=seekP (mustP l) (l.length-pos a) (pos a+1)
def q02v (l:List Item) (a:Int):Int:=seekP (mayN l) (l.length-pos a) (pos a+1)
def brkN (l:List Item) (a:Int):List Nat:=(List.range' (pos a+1) (l.length-pos a)).filter fun (m:Nat)=>decide ((m:Int)≤q015 l a)&&mayN l m
def brkF (l:List Item) (a:Int):List Int:=(brkN l a).map Int.ofNat
theorem q0b7 (p:Nat→Bool): ∀(k n:Nat),seekP p k n= -1∨((n:Int)≤seekP p k n∧seekP p k n<n+k∧p (seekP p k n).toNat=true)
 |0,n=> .inl rfl
 |k+1,n=>by
  rw [seekP]
  by_cases h:p n=true
  ·rw [if_pos h];exact .inr ⟨by omega,by omega,by simpa using h⟩
  ·rw [if_neg h]
   rcases q0b7 p k (n+1) with h1|⟨h1,h2,h3⟩
   ·exact .inl h1
   ·exact .inr ⟨by omega,by omega,h3⟩
theorem q0sa (l:List Item) (hl:l.length≤1000000) (n:Nat) (hn:n≤l.length) (H:Heap):clD EE (.fn (.func 344) [q006 l] []) [vI n] H=some (vB (mustP l n),none):=by
 rw [q020,q002 _ _ _ _ _ _ (noP _) fn344]
 have l3:=fun H=>q03f l n H
 have f:=fun x H=>q0ei x H
 rw [q04f] at l3
 unfold mustP
 cases h:l[n]? with
 |none=>rw [h] at l3;simp [St.enter,q000,subs,q001,l3]
 |some x=>rw [h] at l3;simp [St.enter,q000,subs,q001,l3,f]
theorem q0vg (l:List Item) (hl:l.length≤1000000) (n:Nat) (H:Heap):clD EE (.fn (.func 316) [q006 l] []) [vI n] H=some (vB (mayN l n),none):=by
 rw [q020];exact q0k6 l hl n H
theorem q0sb (l:List Item) (hl:l.length≤1000000) (a:Int) (H:Heap):clD EE (.p (.fn 213)) [q006 l,vI a] H=some (vI (q015 l a),none):=by
 rw [q002 _ _ _ _ _ _ (noP _) fn213]
 have l2:=fun H=>q01h l H
 unfold q015 pos
 by_cases c:(l.length:Int)≤a
 ·have e:l.length-(max a 0).toNat=0:=by omega
  rw [e]
  simp [St.enter,q000,l2,c,seekP]
 ·have w:IntKind.i64.wrap (max a 0+1)=(((max a 0).toNat+1:Nat):Int):=by
   have e:(((max a 0).toNat+1:Nat):Int)=max a 0+1:=by omega
   rw [e];exact w64 (by omega) (by omega)
  by_cases d:(max a 0).toNat+1≤l.length+1
  ·have s:=fun H=>q0dh l ((max a 0).toNat+1) (.fn (.func 344) [q006 l] []) (mustP l) hl H (fun n hn=>q0sa l hl n hn H) d rfl rfl
   have e:l.length+1-((max a 0).toNat+1)=l.length-(max a 0).toNat:=by omega
   rw [e] at s
   generalize (max a 0).toNat+1=z at*
   simp only [q006] at l2 s⊢
   simp [St.enter,q000,l2,c,w,s]
  ·omega
theorem q09c (l:List Item) (hl:l.length≤1000000) (a:Int) (H:Heap):clD EE (.p (.fn 214)) [q006 l,vI a] H=some (vI (q02v l a),none):=by
 rw [q002 _ _ _ _ _ _ (noP _) fn214]
 have l2:=fun H=>q01h l H
 unfold q02v pos
 by_cases c:(l.length:Int)≤a
 ·have e:l.length-(max a 0).toNat=0:=by omega
  rw [e]
  simp [St.enter,q000,l2,c,seekP]
 ·have w:IntKind.i64.wrap (max a 0+1)=(((max a 0).toNat+1:Nat):Int):=by
   have e:(((max a 0).toNat+1:Nat):Int)=max a 0+1:=by omega
   rw [e];exact w64 (by omega) (by omega)
  by_cases d:(max a 0).toNat+1≤l.length+1
  ·have s:=fun H=>q0dh l ((max a 0).toNat+1) (.fn (.func 316) [q006 l] []) (mayN l) hl H (fun n hn=>q0vg l hl n H) d rfl rfl
   have e:l.length+1-((max a 0).toNat+1)=l.length-(max a 0).toNat:=by omega
   rw [e] at s
   generalize (max a 0).toNat+1=z at*
   simp only [q006] at l2 s⊢
   simp [St.enter,q000,l2,c,w,s]
  ·omega
def filtB (l:List Item) (F:Int) (k n:Nat):List Nat:=(List.range' n k).filter fun (m:Nat)=>decide ((m:Int)≤F)&&mayN l m
theorem q0lq (l:List Item) (F:Int) (n:Nat):filtB l F 0 n=[]:=rfl
theorem q07q (l:List Item) (F:Int) (k n:Nat):filtB l F (k+1) n=if (n:Int)≤F∧mayN l n=true then n::filtB l F k (n+1) else filtB l F k (n+1):=by
 unfold filtB
 rw [List.range'_succ,List.filter_cons]
 by_cases c:(n:Int)≤F
 ·by_cases m:mayN l n=true<;>simp [c,m]
 ·simp [c]
theorem q0ch (l:List Item) (F:Int): ∀(k n:Nat),F<n→filtB l F k n=[]
 |0,n,h=>rfl
 |k+1,n,h=>by rw [q07q,if_neg (by omega),q0ch l F k (n+1) (by omega)]
theorem q0ci (l:List Item) (F:Int): ∀(k n:Nat),filtB l F k n=if seekP (mayN l) k n= -1 then [] else if seekP (mayN l) k n≤F then (seekP (mayN l) k n).toNat::filtB l F (n+k-((seekP (mayN l) k n).toNat+1)) ((seekP (mayN l) k n).toNat+1) else []
 |0,n=>by simp [seekP,q0lq]
 |k+1,n=>by
  rw [q07q,seekP]
  by_cases m:mayN l n=true
  ·rw [if_pos m,if_neg (show¬(n:Int)= -1 by omega)]
   by_cases c:(n:Int)≤F
   ·rw [if_pos ⟨c,m⟩,if_pos c]
    have e:n+(k+1)-((n:Int).toNat+1)=k:=by omega
    rw [e];rfl
   ·rw [if_neg (fun h=>c h.1),if_neg c,q0ch l F k (n+1) (by omega)]
  ·rw [if_neg (fun h=>m h.2),if_neg m,q0ci l F k (n+1)]
   have e:n+1+k=n+(k+1):=by omega
   rw [e]
def bkE (l:List Item) (F:Int) (H:Heap) (acc:List Int) (b:Int):St:=⟨[(0,q006 l),(5,.row H.length acc.length 0 acc.length),(6,vI F),(7,vI b)],[],H++[.row 1 (upV (acc.map encI))],H.length,[]⟩
def bkX (l:List Item) (F:Int) (H:Heap) (acc:List Int) (b:Int):Ex×St:=(.exit 0,⟨[(0,q006 l),(5,.row H.length acc.length 0 acc.length),(6,vI F),(7,vI b),(20,vB false)],[],H++[.row 1 (upV (acc.map encI))],H.length,[]⟩)
theorem bk_lp (l:List Item) (hl:l.length≤1000000) (F:Int) (H:Heap): ∀(k n:Nat) (acc:List Int),(n+k=l.length+1∨k=0)→acc.length≤n→ ∃b,evD EE q08r (bkE l F H acc (seekP (mayN l) k n))=some (bkX l F H (acc++(filtB l F k n).map Int.ofNat) b):=by
 intro k
 induction k using Nat.strongRecOn with
 |_ k ih=>
  intro n acc hk ha
  have hb:=q0b7 (mayN l) k n
  rw [q0ci]
  generalize hs:seekP (mayN l) k n=b at*
  rcases hb with rfl|⟨h1,h2,h3⟩
  ·refine ⟨-1,?_⟩
   unfold q08r
   rw [q008]
   simp [bkE,bkX]
  ·have hb0:0<b∨b=0:=by omega
   rcases hb0 with hb0|hb0
   ·rw [if_neg (by omega)]
    by_cases c:b≤F
    ·rw [if_pos c]
     have fi:=fun H=>q09c l hl b H
     have e0:(b.toNat:Int)=b:=by omega
     have hp:pos b=b.toNat:=by unfold pos;omega
     have e1:q02v l b=seekP (mayN l) (n+k-(b.toNat+1)) (b.toNat+1):=by
      unfold q02v;rw [hp];congr 1;omega
     obtain ⟨b',h4⟩:=ih (n+k-(b.toNat+1)) (by omega) (b.toNat+1) (acc++[b]) (by omega) (by simp;omega)
     refine ⟨b',?_⟩
     have e2:acc++List.map Int.ofNat (b.toNat::filtB l F (n+k-(b.toNat+1)) (b.toNat+1))=(acc++[b])++(filtB l F (n+k-(b.toNat+1)) (b.toNat+1)).map Int.ofNat:=by
      simp [hb0,e0,show max b 0=b by omega]
     rw [e2,←h4,←e1]
     have hm:acc.length+1<most:=by unfold most;omega
     conv=>lhs;unfold q08r
     rw [q008]
     have w0: ∀z,clD EE (.p (.fn 214)) [q006 l,vI b] z=some (vI (q02v l b),none):=fi
     simp only [bkE]
     simp [hb0,c,hm,w0]
     rfl
    ·rw [if_neg c]
     refine ⟨b,?_⟩
     unfold q08r
     rw [q008]
     simp [bkE,bkX,hb0,c]
   ·exfalso
    subst hb0
    unfold mayN mayV at h3
    simp at h3
theorem q0hu (l:List Item) (a:Int):brkN l a=filtB l (q015 l a) (l.length-pos a) (pos a+1):=rfl
theorem q0el (l:List Item) (hl:l.length≤1000000) (a:Int) (H:Heap):clD EE (.p (.fn 84)) [q006 l,vI a] H=some (sli (brkF l a),none):=by
 rw [q002 _ _ _ _ _ _ (noP _) fn84]
 have f1:=fun H=>q0sb l hl a H
 have f2:=fun H=>q09c l hl a H
 obtain ⟨b,k⟩:=bk_lp l hl (q015 l a) H (l.length-pos a) (pos a+1) [] (by omega) (by simp)
 have e:q02v l a=seekP (mayN l) (l.length-pos a) (pos a+1):=rfl
 rw [←e,←q0hu,List.nil_append] at k
 change _=some (bkX l (q015 l a) H (brkF l a) b) at k
 generalize brkF l a=R at*
 simp [bkE,bkX] at k
 simp [St.enter,q000,f1,f2,k]
def fairN (x:Int):Bool:=decide (0≤x)&&decide (x≤1073741823)
def q0xi (j:Job):List Int:=[j.g.grid,j.g.high,j.g.first,j.g.rule,j.g.sep]++j.items.map (·.h)++j.notes.flatMap (·.lines)++j.floats.map (·.h)
def fairF (j:Job):Bool:= !((q0xi j).any fun x=> !fairN x)
theorem q0vh (l:List Item) (n:Nat) (h0:1≤n) (h:n<l.length):mustV l n=mustP l n:=by
 unfold mustV mustP
 rw [q04f,List.getElem?_eq_getElem h]
 have:(1:Int)≤n:=by omega
 simp [this]
theorem q0em (l:List Item) (hl:l.length≤1000000) (H:Heap) (B:Nat): ∀(k n:Nat),n+k=l.length→1≤n→
  evD EE q06s ⟨[(0,q004 l),(5,vI n)],[],H,B,[]⟩=some (.exit 0,⟨[(0,q004 l),(5,vI (seekP (mustP l) (k+1) n)),(23,vB false)],[],H,B,[]⟩)
 |0,n,hk,h1=>by
  have hm:mustP l n=true:=by unfold mustP;rw [List.getElem?_eq_none (by omega)]
  unfold q06s
  rw [q008]
  have c: ¬n<l.length:=by omega
  simp [seekP,hm,c]
 |k+1,n,hk,h1=>by
  have f:=fun H=>q0ht l n H
  rw [q0vh l n h1 (by omega)] at f
  have c:n<l.length:=by omega
  have w:IntKind.i64.wrap ((n:Int)+1)=((n+1:Nat):Int):=w64 (by omega) (by omega)
  rw [seekP]
  cases q:mustP l n with
  |true=>
   rw [q] at f
   unfold q06s
   rw [q008]
   simp [c,f]
  |false=>
   rw [q] at f
   have ih:=q0em l hl H B k (n+1) (by omega) (by omega)
   rw [if_neg (by decide),←ih]
   conv=>lhs;unfold q06s
   rw [q008]
   simp [c,f,w]
   rfl
theorem q0en (l:List Item) (hl:l.length≤1000000) (a:Int) (H:Heap):clD EE (.p (.fn 223)) [q004 l,vI a] H=some (vI (q015 l a),none):=by
 rw [q002 _ _ _ _ _ _ (noP _) fn223]
 unfold q015 pos
 by_cases c:(l.length:Int)≤max a 0
 ·have e:l.length-(max a 0).toNat=0:=by omega
  rw [e]
  simp [St.enter,q000,c,seekP]
 ·have w:IntKind.i64.wrap (max a 0+1)=(((max a 0).toNat+1:Nat):Int):=by
   have e:(((max a 0).toNat+1:Nat):Int)=max a 0+1:=by omega
   rw [e];exact w64 (by omega) (by omega)
  have k:=q0em l hl H H.length (l.length-((max a 0).toNat+1)) ((max a 0).toNat+1) (by omega) (by omega)
  have e:l.length-((max a 0).toNat+1)+1=l.length-(max a 0).toNat:=by omega
  rw [e] at k
  generalize (max a 0).toNat+1=z at*
  generalize seekP (mustP l) _ z=r at*
  simp [St.enter,q000,c,w,k]
def aftN (l:List Item) (A:Nat) (m:Nat):Bool:=decide (A<m)&&mayN l m
theorem q0cj (l:List Item) (hl:l.length≤1000000) (a:Int) (H:Heap) (B:Nat): ∀(k n:Nat),n+k=l.length+1→
  evD EE q08u ⟨[(0,q004 l),(1,vI a),(5,vI n)],[],H,B,[]⟩=some (if seekP (aftN l (pos a)) k n= -1 then (.exit 0,⟨[(0,q004 l),(1,vI a),(5,vI (l.length+1)),(9,vB false)],[],H,B,[]⟩) else (.ret,⟨[(4,vI (seekP (aftN l (pos a)) k n))],[],H,B,[]⟩))
 |0,n,hk=>by
  have e:n=l.length+1:=by omega
  subst e
  unfold q08u
  rw [q008]
  simp [seekP,show¬(l.length:Int)+1≤l.length by omega]
 |k+1,n,hk=>by
  have m:=fun H=>q09b l hl n H
  have c:n≤l.length:=by omega
  have w:IntKind.i64.wrap ((n:Int)+1)=((n+1:Nat):Int):=w64 (by omega) (by omega)
  have hp:pos a<n↔max a 0<(n:Int):=by unfold pos;omega
  rw [seekP]
  cases q:aftN l (pos a) n with
  |true=>
   unfold aftN mayN at q
   simp only [Bool.and_eq_true,decide_eq_true_eq,hp] at q
   rw [q.2] at m
   rw [if_pos rfl,if_neg (by omega)]
   unfold q08u
   rw [q008]
   simp [c,m,q.1]
  |false=>
   simp only [Bool.false_eq_true,if_false]
   have ih:=q0cj l hl a H B k (n+1) (by omega)
   rw [←ih]
   conv=>lhs;unfold q08u
   rw [q008]
   unfold aftN mayN at q
   by_cases d:max a 0<(n:Int)
   ·rw [decide_eq_true (hp.2 d),Bool.true_and] at q
    rw [q] at m
    simp [c,m,d,w]
    rfl
   ·simp [c,d,w]
    rfl
theorem q0eo (l:List Item) (A:Nat): ∀(j k n:Nat),n+j=A+1→seekP (aftN l A) (j+k) n=seekP (mayN l) k (A+1)
 |0,k,n,h=>by
  have e:n=A+1:=by omega
  subst e
  rw [Nat.zero_add]
  have: ∀(k n:Nat),A<n→seekP (aftN l A) k n=seekP (mayN l) k n:=by
   intro k
   induction k with
   |zero=>intro n _;rfl
   |succ k ih=>
    intro n h
    have e:aftN l A n=mayN l n:=by unfold aftN;rw [decide_eq_true h,Bool.true_and]
    simp only [seekP,e,ih (n+1) (by omega)]
  exact this k _ (by omega)
 |j+1,k,n,h=>by
  have e:aftN l A n=false:=by unfold aftN;rw [decide_eq_false (by omega),Bool.false_and]
  rw [Nat.succ_add,seekP,e,if_neg (by decide)]
  exact q0eo l A j k (n+1) (by omega)
theorem q0ck (l:List Item) (A:Nat): ∀(k n:Nat),n+k≤A+1→seekP (aftN l A) k n= -1
 |0,_,_=>rfl
 |k+1,n,h=>by
  have e:aftN l A n=false:=by unfold aftN;rw [decide_eq_false (by omega),Bool.false_and]
  rw [seekP,e,if_neg (by decide)]
  exact q0ck l A k (n+1) (by omega)
theorem q0lr (l:List Item) (a:Int):seekP (aftN l (pos a)) l.length 1=q02v l a:=by
 unfold q02v
 by_cases c:pos a≤l.length
 ·have e:l.length=pos a+(l.length-pos a):=by omega
  conv=>lhs;rw [e]
  exact q0eo l (pos a) (pos a) _ 1 (by omega)
 ·rw [q0ck l (pos a) _ 1 (by omega),show l.length-pos a=0 by omega];rfl
theorem q0ls (l:List Item) (hl:l.length≤1000000) (a:Int) (H:Heap):clD EE (.p (.fn 94)) [q004 l,vI a] H=some (vI (q02v l a),none):=by
 rw [q002 _ _ _ _ _ _ (noP _) fn94]
 have k:=q0cj l hl a H H.length l.length 1 (by omega)
 rw [q0lr] at k
 by_cases c:q02v l a= -1
 ·rw [if_pos c] at k
  simp at k
  rw [c]
  simp [St.enter,q000,k]
 ·rw [if_neg c] at k
  simp at k
  simp [St.enter,q000,k]
def rbE (l:List Item) (a:Int) (H:Heap) (acc:List Int) (b:Int):St:=⟨[(0,q004 l),(1,vI a),(5,.row H.length acc.length 0 acc.length),(6,vI b)],[],H++[.row 1 (upV (acc.map encI))],H.length,[]⟩
def rbX (l:List Item) (a:Int) (H:Heap) (acc:List Int) (b:Int):Ex×St:=(.exit 0,⟨[(0,q004 l),(1,vI a),(5,.row H.length acc.length 0 acc.length),(6,vI b),(11,vB false)],[],H++[.row 1 (upV (acc.map encI))],H.length,[]⟩)
theorem rb_lp (l:List Item) (hl:l.length≤1000000) (a:Int) (hF:q015 l a≤l.length) (H:Heap): ∀(k n:Nat) (acc:List Int),((n:Int)+k=q015 l a+1∨(k=0∧q015 l a<n))→1≤n→acc.length≤n→
  ∃b,evD EE q08t (rbE l a H acc n)=some (rbX l a H (acc++((List.range' n k).filter (aftN l (pos a))).map Int.ofNat) b)
 |0,n,acc,hk,h1,ha=>by
  have f:=fun H=>q0en l hl a H
  have c: ¬(n:Int)≤q015 l a:=by omega
  refine ⟨n,?_⟩
  unfold q08t
  rw [q008]
  simp [rbE,rbX,f,c]
 |k+1,n,acc,hk,h1,ha=>by
  have f:=fun H=>q0en l hl a H
  have m:=fun H=>q09b l hl n H
  have c:(n:Int)≤q015 l a:=by omega
  have w:IntKind.i64.wrap ((n:Int)+1)=((n+1:Nat):Int):=w64 (by omega) (by omega)
  have hp:pos a<n↔max a 0<(n:Int):=by unfold pos;omega
  have hm:acc.length+1<most:=by unfold most;omega
  rw [List.range'_succ,List.filter_cons]
  cases q:aftN l (pos a) n with
  |true=>
   obtain ⟨b,ih⟩:=rb_lp l hl a hF H k (n+1) (acc++[(n:Int)]) (by left;push_cast;omega) (by omega) (by simp;omega)
   refine ⟨b,?_⟩
   have e:acc++List.map Int.ofNat (n::List.filter (aftN l (pos a)) (List.range' (n+1) k))=(acc++[(n:Int)])++(List.filter (aftN l (pos a)) (List.range' (n+1) k)).map Int.ofNat:=by simp
   rw [if_pos rfl,e,←ih]
   conv=>lhs;unfold q08t
   rw [q008]
   unfold aftN mayN at q
   simp only [Bool.and_eq_true,decide_eq_true_eq,hp] at q
   rw [q.2] at m
   simp [rbE,c,f,m,q.1,w,hm]
   rfl
  |false=>
   obtain ⟨b,ih⟩:=rb_lp l hl a hF H k (n+1) acc (by left;push_cast;omega) (by omega) (by omega)
   refine ⟨b,?_⟩
   rw [if_neg (by decide),←ih]
   conv=>lhs;unfold q08t
   rw [q008]
   unfold aftN mayN at q
   by_cases d:max a 0<(n:Int)
   ·rw [decide_eq_true (hp.2 d),Bool.true_and] at q
    rw [q] at m
    simp [rbE,c,f,m,d,w]
    rfl
   ·simp [rbE,c,f,d,w]
    rfl
theorem q0ou (l:List Item) (a:Int):q015 l a= -1∨((pos a:Int)<q015 l a∧q015 l a≤l.length):=by
 have:=q0b7 (mustP l) (l.length-pos a) (pos a+1)
 unfold q015
 omega
theorem q0sc (l:List Item) (A F N:Nat) (hA:A≤F) (hF:F≤N):(List.range' 1 F).filter (aftN l A)=(List.range' (A+1) (N-A)).filter fun (m:Nat)=>decide ((m:Int)≤(F:Int))&&mayN l m:=by
 have e1:F=A+(F-A):=by omega
 have e2:N-A=(F-A)+(N-F):=by omega
 have s1:List.range' 1 F=List.range' 1 A++List.range' (A+1) (F-A):=by
  conv=>lhs;rw [e1]
  rw [←List.range'_append_1,Nat.add_comm 1 A]
 have s2:List.range' (A+1) (N-A)=List.range' (A+1) (F-A)++List.range' (F+1) (N-F):=by
  rw [e2,←List.range'_append_1];congr 2;omega
 rw [s1,s2,List.filter_append,List.filter_append]
 have z1:(List.range' 1 A).filter (aftN l A)=[]:=by
  rw [List.filter_eq_nil_iff]
  intro x hx
  have:=List.mem_range'_1.1 hx
  unfold aftN;simp;omega
 have z2:(List.range' (F+1) (N-F)).filter (fun (m:Nat)=>decide ((m:Int)≤(F:Int))&&mayN l m)=[]:=by
  rw [List.filter_eq_nil_iff]
  intro x hx
  have:=List.mem_range'_1.1 hx
  simp;omega
 rw [z1,z2,List.nil_append,List.append_nil]
 refine List.filter_congr fun x hx=> ?_
 have:=List.mem_range'_1.1 hx
 have h1:A<x:=by omega
 have h2:(x:Int)≤F:=by omega
 unfold aftN
 rw [decide_eq_true h1,decide_eq_true h2]
theorem q0lt (l:List Item) (hl:l.length≤1000000) (a:Int) (H:Heap):clD EE (.p (.fn 91)) [q004 l,vI a] H=some (sli (brkF l a),none):=by
 rw [q002 _ _ _ _ _ _ (noP _) fn91]
 have fb:=q0ou l a
 obtain ⟨b,k⟩:=rb_lp l hl a (by omega) H (q015 l a).toNat 1 [] (by omega) (by omega) (by simp)
 have e:(List.range' 1 (q015 l a).toNat).filter (aftN l (pos a))=brkN l a:=by
  unfold brkN
  rcases fb with h|⟨h1,h2⟩
  ·rw [h]
   symm
   change List.filter _ _=[]
   rw [List.filter_eq_nil_iff]
   intro x _
   simp;omega
  ·have h3:((q015 l a).toNat:Int)=q015 l a:=by omega
   rw [q0sc l (pos a) (q015 l a).toNat l.length (by omega) (by omega),h3]
 rw [e,List.nil_append] at k
 change _=some (rbX l a H (brkF l a) b) at k
 generalize brkF l a=R at*
 simp [rbE,rbX] at k
 simp [St.enter,q000,k]
abbrev c6 (t:Tot):List V:=[vI t.nat,vI t.s0,vI t.s1,vI t.s2,vI t.s3,vI t.shr]
theorem q0cl (t:Tot) (H:Heap):clD EE (.p (.fn 351)) [vTot t] H=some (.agg (c6 t),none):=by
 rw [q002 _ _ _ _ _ _ (noP _) fn351]
 simp [St.enter,q000,subs,q001,ixaV,q00b]
theorem q0sd (t:Tot) (H:Heap):clD EE (.p (.fn 353)) [.agg (c6 t)] H=some (vTot t,none):=by
 rw [q002 _ _ _ _ _ _ (noP _) fn353]
 simp [St.enter,q000,subs,q001,ixaV,q00b]
theorem q045 (a b:Int) (ha:I64 a) (hb:I64 b) (hc:I64 (a+b)) (H:Heap):clD EE (.p (.fn 352)) [vI a,vI b] H=some (.agg [vI (a+b),vB true],none):=by
 rw [q002 _ _ _ _ _ _ (noP _) fn352]
 obtain ⟨a1,a2⟩:=ha
 obtain ⟨b1,b2⟩:=hb
 obtain ⟨c1,c2⟩:=hc
 have w:IntKind.i64.wrap (a+b)=a+b:=w64 (by omega) (by omega)
 by_cases p:0<b
 ·have w2:IntKind.i64.wrap (9223372036854775807-b)=9223372036854775807-b:=w64 (by omega) (by omega)
  have q: ¬9223372036854775807-b<a:=by omega
  have q2: ¬b<0:=by omega
  simp [St.enter,q000,subs,q001,p,w2,q,q2,w]
 ·by_cases n:b<0
  ·have w2:IntKind.i64.wrap (-9223372036854775808-b)= -9223372036854775808-b:=w64 (by omega) (by omega)
   have q: ¬a< -9223372036854775808-b:=by omega
   simp [St.enter,q000,subs,q001,p,n,w2,q,w]
  ·simp [St.enter,q000,subs,q001,p,n,w]
theorem q0lu (a b:Tot) (ha:inT64 a) (hb:inT64 b) (hc:inT64 (addT a b)) (H:Heap):clD EE (.p (.fn 226)) [vTot a,vTot b] H=some (.agg (c6 (addT a b)++[vB true]),none):=by
 rw [q002 _ _ _ _ _ _ (noP _) fn226]
 have na:=fun H=>q0cl a H
 have nb:=fun H=>q0cl b H
 have k0:=fun H=>q045 _ _ ha.nat hb.nat hc.nat H
 have k1:=fun H=>q045 _ _ ha.s0 hb.s0 hc.s0 H
 have k2:=fun H=>q045 _ _ ha.s1 hb.s1 hc.s1 H
 have k3:=fun H=>q045 _ _ ha.s2 hb.s2 hc.s2 H
 have k4:=fun H=>q045 _ _ ha.s3 hb.s3 hc.s3 H
 have k5:=fun H=>q045 _ _ ha.shr hb.shr hc.shr H
 have o:=fun H=>q0sd (addT a b) H
 unfold addT at o⊢
 simp only [c6] at na nb o⊢
 have w1:IntKind.i64.wrap 1=1:=by decide
 have w2:IntKind.i64.wrap 2=2:=by decide
 have w3:IntKind.i64.wrap 3=3:=by decide
 have w4:IntKind.i64.wrap 4=4:=by decide
 have w5:IntKind.i64.wrap 5=5:=by decide
 have w6:IntKind.i64.wrap 6=6:=by decide
 simp [St.enter,q000,subs,q001,ixaV,q00b,q0jr,q008,na,nb,k0,k1,k2,k3,k4,k5,o,w1,w2,w3,w4,w5,w6]
theorem q0ov (h:Int) (H:Heap):clD EE (.p (.fn 354)) [vI h] H=some (vTot ⟨h,0,0,0,0,0⟩,none):=by
 rw [q002 _ _ _ _ _ _ (noP _) fn354]
 simp [St.enter,q000,subs,q001]
theorem q0lv (h str ord shr:Int) (H:Heap):clD EE (.p (.fn 355)) [vI h,vI str,vI ord,vI shr] H=some (vTot (glueT h str ord shr),none):=by
 rw [q002 _ _ _ _ _ _ (noP _) fn355]
 unfold glueT
 by_cases c0:ord=0
 ·simp [St.enter,q000,subs,q001,c0,ixaV,q00b]
 ·by_cases c1:ord=1
  ·simp [St.enter,q000,subs,q001,c1,ixaV,q00b]
  ·by_cases c2:ord=2
   ·simp [St.enter,q000,subs,q001,c2,ixaV,q00b]
   ·by_cases c3:ord=3
    ·simp [St.enter,q000,subs,q001,c3,ixaV,q00b]
    ·by_cases c4:ord<0
     ·simp [St.enter,q000,subs,q001,c0,c1,c2,c3,show¬0≤ord by omega]
     ·simp [St.enter,q000,subs,q001,c0,c1,c2,c3,show 0≤ord by omega,show¬ord≤3 by omega]
theorem q0j1 (x:Item) (H:Heap):clD EE (.p (.fn 227)) [vItem x] H=some (vTot (totI x),none):=by
 rw [q002 _ _ _ _ _ _ (noP _) fn227]
 have b:=fun H=>q0ov x.h H
 have g:=fun H=>q0lv x.h x.str x.ord x.shr H
 unfold totI
 by_cases k1:x.k=1
 ·simp [St.enter,q000,subs,q001,k1,b]
 ·by_cases k2:x.k=2
  ·simp only [k2,if_neg (show¬(2:Int)=1 by decide),if_true]
   generalize glueT x.h x.str x.ord x.shr=t at*
   simp [St.enter,q000,subs,q001,k2,g]
  ·simp [St.enter,q000,subs,q001,k1,k2,zeroT]
def rsS (a b:Int) (t:Tot) (i:Nat) (x:Item):Tot:=if a≤i∧(i:Int)<b then addT t (totI x) else t
theorem q0ep {α τ:Type} (f:τ→Nat→α→τ): ∀(l:List α) (s:τ) (i n:Nat) (x:α),l[n]? =some x→fold f s i (l.take (n+1))=f (fold f s i (l.take n)) (i+n) x
 |[],s,i,n,x,h=>by simp at h
 |y::r,s,i,0,x,h=>by simp at h;subst h;simp [fold]
 |y::r,s,i,n+1,x,h=>by
  simp only [List.take_succ_cons,fold]
  rw [q0ep f r _ (i+1) n x (by simpa using h)]
  congr 1;omega
theorem q0se (p q x:Tot):addT (subT p q) x=subT (addT p x) q:=by
 unfold addT subT;congr 1<;>simp only<;>omega
theorem q0ow (x:Tot):addT zeroT x=x:=by unfold addT zeroT;simp
theorem q0sf (p x:Tot):subT (addT p x) p=x:=by
 obtain ⟨a,b,c,d,e,f⟩:=x
 unfold addT subT;congr 1<;>simp<;>omega
theorem q0ox (l:List Item) (n:Nat) (x:Item) (h:l[n]? =some x):totP (l.take (n+1))=addT (totP (l.take n)) (totI x):=by
 have hlt:=(List.getElem?_eq_some_iff.1 h).1
 have e:l.take (n+1)=l.take n++[x]:=by
  rw [List.take_add_one,h];rfl
 rw [e,q0ef]
theorem q0sg (l:List Item) (a b:Int):fold (rsS a b) zeroT 0 l=sumT l a b:=by
 have key: ∀n,n≤l.length→fold (rsS a b) zeroT 0 (l.take n)=if (max a 0).toNat<min (max b 0).toNat n then subT (totP (l.take (min (max b 0).toNat n))) (totP (l.take (max a 0).toNat)) else zeroT:=by
  intro n
  induction n with
  |zero=>intro _;simp [fold]
  |succ n ih=>
   intro hn
   have hx:l[n]? =some l[n]:=List.getElem?_eq_getElem (by omega)
   rw [q0ep _ l _ 0 n _ hx,ih (by omega),Nat.zero_add]
   have ht:=q0ox l n _ hx
   generalize l[n]=x at*
   unfold rsS
   by_cases c:a≤(n:Int)∧(n:Int)<b
   ·rw [if_pos c]
    have e1:min (max b 0).toNat (n+1)=n+1:=by omega
    have e2:min (max b 0).toNat n=n:=by omega
    rw [e1,e2,if_pos (show (max a 0).toNat<n+1 by omega),ht]
    by_cases d:(max a 0).toNat<n
    ·rw [if_pos d,q0se]
    ·have e3:(max a 0).toNat=n:=by omega
     rw [if_neg d,e3,q0sf,q0ow]
   ·rw [if_neg c]
    by_cases d:(n:Int)<a
    ·rw [if_neg (by omega),if_neg (by omega)]
    ·have e1:min (max b 0).toNat (n+1)=(max b 0).toNat:=by omega
     have e2:min (max b 0).toNat n=(max b 0).toNat:=by omega
     rw [e1,e2]
 have h:=key l.length (Nat.le_refl _)
 rw [List.take_length] at h
 rw [h]
 unfold sumT
 by_cases c:max a 0<min b l.length
 ·have e:min (max b 0).toNat l.length=(min b l.length).toNat:=by omega
  rw [if_pos c,e,if_pos (by omega)]
 ·rw [if_neg c,if_neg (by omega)]
def rtE (l:List Item) (a b:Int) (H:Heap) (t:Tot) (i:Nat):St:=⟨[(0,q004 l),(1,vI a),(2,vI b),(6,.lptr 6 0),(7,.lptr 7 0),(8,vI i)],[(6,c6 zeroT),(7,c6 t)],H,H.length,[]⟩
def rtX (l:List Item) (a b:Int) (H:Heap) (t:Tot):Ex×St:=(.exit 0,⟨[(0,q004 l),(1,vI a),(2,vI b),(6,.lptr 6 0),(7,.lptr 7 0),(8,vI l.length),(12,vB false)],[(6,c6 zeroT),(7,c6 t)],H,H.length,[]⟩)
theorem q0oy (l:List Item) (hl:l.length≤1000000) (hf: ∀x∈l,fairI x) (a b:Int) (H:Heap):clD EE (.p (.fn 93)) [q004 l,vI a,vI b] H=some (vTot (sumT l a b),none):=by
 rw [q002 _ _ _ _ _ _ (noP _) fn93]
 have k:evD EE q0gj (rtE l a b H zeroT 0)=some (rtX l a b H (sumT l a b)):=by
  unfold q0gj
  refine Eq.trans (q017 l (fun t i=>rtE l a b H t i) (fun t i=>inT (4294967296*i) t∧i≤l.length) (rsS a b) (fun t=>rtX l a b H t) (fun _ _=>rfl) ?_ ?_ zeroT 0 ⟨by simpa using q0hm,Nat.zero_le _⟩ (Nat.zero_le _)) (by rw [List.drop_zero,q0sg])
  ·rintro t i x ⟨ht,hi⟩ hx
   have hlt:=(List.getElem?_eq_some_iff.1 hx).1
   have w:IntKind.i64.wrap ((i:Int)+1)=((i+1:Nat):Int):=w64 (by omega) (by omega)
   have hix:=fun H k=>q00o H q003 (k:=k) (s:=7) hx rfl
   simp only [q003] at hix
   have hxt:=q09t (hf x (List.mem_of_getElem? hx))
   have hs:=q0k2 ht hxt
   have ra:=fun H=>q0lu t (totI x) (q03h ht (by omega)) (q03h hxt (by omega)) (q03h hs (by omega)) H
   have rt:=fun H=>q0j1 x H
   have mono: ∀ {m k:Int} {t:Tot},inT m t→m≤k→inT k t:=by
    intro m k t h hm
    obtain ⟨⟨a1,a2⟩,⟨a3,a4⟩,⟨a5,a6⟩,⟨a7,a8⟩,⟨a9,b1⟩,⟨b2,b3⟩⟩:=h
    constructor<;>constructor<;>omega
   refine ⟨?_,?_,hlt⟩
   ·unfold rsS
    by_cases c1:a≤i
    ·by_cases c2:(i:Int)<b
     ·rw [if_pos ⟨c1,c2⟩]
      generalize addT t (totI x)=u at*
      generalize totI x=v at*
      simp [rtE,c6,zeroT,hlt,hix,subs,q001,fldvV,w,c1,c2,rt,ra]
     ·rw [if_neg (fun h=>c2 h.2)]
      simp [rtE,c6,zeroT,hlt,hix,subs,q001,w,c1,c2]
    ·rw [if_neg (fun h=>c1 h.1)]
     simp [rtE,c6,zeroT,hlt,hix,subs,q001,w,c1]
   ·unfold rsS
    split
    ·exact mono hs (by omega)
    ·exact mono ht (by omega)
  ·rintro t-
   refine ⟨?_,by simp [rtX]⟩
   simp [rtE,rtX]
 generalize sumT l a b=t at*
 simp [rtE,rtX,c6,zeroT] at k
 simp [St.enter,q000,subs,q001,k]
theorem q0oz (t:Tot) (H:Heap):clD EE (.p (.fn 225)) [vTot t] H=some (vI (ordT t),none):=by
 rw [q002 _ _ _ _ _ _ (noP _) fn225]
 have w1:IntKind.i64.wrap 1=1:=by decide
 have w2:IntKind.i64.wrap 2=2:=by decide
 have w3:IntKind.i64.wrap 3=3:=by decide
 have w4:IntKind.i64.wrap 4=4:=by decide
 unfold ordT
 by_cases a0:t.s0=0<;>by_cases a1:t.s1=0<;>by_cases a2:t.s2=0<;>by_cases a3:t.s3=0<;>
  simp [St.enter,q000,subs,q001,ixaV,q00b,q0jq,q008,w1,w2,w3,w4,a0,a1,a2,a3]
theorem q0lw (t:Tot) (H:Heap):clD EE (.p (.fn 362)) [vTot t] H=some (.agg (c6 t),none):=by
 rw [q002 _ _ _ _ _ _ (noP _) fn362]
 simp [St.enter,q000,subs,q001,ixaV,q00b]
def offN (n:Int):Bool:=decide (n<0)||decide (1125899906842624<n)
theorem q0p0 (n:Int):fairL n= !offN n:=by
 unfold fairL offN
 by_cases a:0≤n<;>by_cases b:n≤1125899906842624<;>simp [a,b]<;>omega
theorem q0p1 (t:Tot) (H:Heap):clD EE (.p (.fn 245)) [vTot t] H=some (vB (q02u t),none):=by
 rw [q002 _ _ _ _ _ _ (noP _) fn245]
 have n:=fun H=>q0lw t H
 have e:q02u t= !([t.nat,t.s0,t.s1,t.s2,t.s3,t.shr].any offN):=by
  unfold q02u
  simp only [q0p0,List.any_cons,List.any_nil,Bool.or_false,Bool.not_or]
  cases offN t.nat<;>cases offN t.s0<;>cases offN t.s1<;>cases offN t.s2<;>cases offN t.s3<;>simp
 rw [e]
 have k:evD EE q0d2 ⟨[(3,.lptr 3 0),(4,vI 0)],[(3,c6 t)],H,H.length,[]⟩=some (if [t.nat,t.s0,t.s1,t.s2,t.s3,t.shr].any offN=true then (.ret,⟨[(2,vB false)],[],H,H.length,[]⟩) else (.exit 0,⟨[(3,.lptr 3 0),(4,vI 6),(8,vB false)],[(3,c6 t)],H,H.length,[]⟩)):=by
  unfold q0d2
  refine Eq.trans (q01g [t.nat,t.s0,t.s1,t.s2,t.s3,t.shr] (fun (_:Unit) i=>⟨[(3,.lptr 3 0),(4,vI i)],[(3,c6 t)],H,H.length,[]⟩) (fun _ _=>True) (stepB offN (.ret,⟨[(2,vB false)],[],H,H.length,[]⟩)) (fun _=>(.exit 0,⟨[(3,.lptr 3 0),(4,vI 6),(8,vB false)],[(3,c6 t)],H,H.length,[]⟩)) (fun _ _=>rfl) ?_ ?_ () 0 trivial (Nat.zero_le _)) (by rw [List.drop_zero,q05h])
  ·rintro _ i x-hx
   have hlt:i<6:=by have:=(List.getElem?_eq_some_iff.1 hx).1;simpa using this
   have hi:(i:Int)<6:=by omega
   have w:IntKind.i64.wrap ((i:Int)+1)=((i+1:Nat):Int):=w64 (by omega) (by omega)
   have ex:subs (c6 t) i 1=some [vI x]:=by
    have e:i=0∨i=1∨i=2∨i=3∨i=4∨i=5:=by omega
    rcases e with rfl|rfl|rfl|rfl|rfl|rfl<;>simp at hx<;>subst hx<;>rfl
   have hne: ¬c6 t=[]:=by simp
   generalize c6 t=A at*
   by_cases c:x<0
   ·simp [stepB,offN,hi,ixaV,q00b,ex,hne,c]
   ·by_cases d:1125899906842624<x
    ·simp [stepB,offN,hi,ixaV,q00b,ex,hne,c,d]
    ·simp [stepB,offN,hi,ixaV,q00b,ex,hne,c,d,w]
  ·rintro _-
   simp
 simp only [c6] at n k
 cases q:[t.nat,t.s0,t.s1,t.s2,t.s3,t.shr].any offN with
 |true=>
  rw [q,if_pos rfl] at k
  simp [St.enter,q000,subs,q001,n,k]
 |false=>
  rw [q,if_neg (by decide)] at k
  simp [St.enter,q000,subs,q001,n,k]
theorem q0j2 (t:Tot) (h:Int) (H:Heap):clD EE (.p (.fn 224)) [vTot t,vI h] H=some (vB (q03s t h),none):=by
 rw [q002 _ _ _ _ _ _ (noP _) fn224]
 have f:=fun H=>q0p1 t H
 unfold q03s
 cases c:q02u t with
 |false=>simp [St.enter,q000,subs,q001,f,c]
 |true=>by_cases d: -1125899906842624≤h<;>simp [St.enter,q000,subs,q001,f,c,d]
theorem q0lx (t:Tot) (h:Int) (last:Bool) (H:Heap):clD EE (.p (.fn 92)) [vTot t,vI h,vB last] H=some (vSet (q04h t h last),none):=by
 rw [q002 _ _ _ _ _ _ (noP _) fn92]
 have r:=fun H=>q0j2 t h H
 have o:=fun H=>q0oz t H
 unfold q04h
 cases c:q03s t h with
 |false=>simp [St.enter,q000,subs,q001,r,c,zeroG]
 |true=>
  have bd:=q0ej c
  have hfl:q02u t=true:=by unfold q03s at c;simp at c;exact c.1.1
  have fb:0≤t.s1∧0≤t.s2∧0≤t.s3:=by unfold q02u fairL at hfl;simp at hfl;omega
  obtain ⟨need,hneed⟩: ∃n,h-t.nat=n:=⟨_,rfl⟩
  have w1:IntKind.i64.wrap (h-t.nat)=need:=by rw [hneed];exact w64 (by omega) (by omega)
  have w2:IntKind.i64.wrap (need+t.shr)=t.shr+need:=by rw [Int.add_comm];exact w64 (by omega) (by omega)
  have w3:IntKind.i64.wrap (-need)= -need:=w64 (by omega) (by omega)
  have ho:(ordT t=0∧strT t (ordT t)=t.s0)∨(ordT t=1∧strT t (ordT t)=t.s1∧0<t.s1)∨(ordT t=2∧strT t (ordT t)=t.s2∧0<t.s2)∨(ordT t=3∧strT t (ordT t)=t.s3∧0<t.s3):=by
   unfold ordT
   (repeat' split)<;>simp [strT]<;>omega
  have hq:(0≤t.shr+need)↔(-need≤t.shr):=by omega
  simp only [hneed]
  clear hneed bd
  generalize strT t (ordT t)=str at*
  generalize ordT t=od at*
  simp only [if_true]
  by_cases n0:need=0
  ·subst n0
   simp [St.enter,q000,subs,q001,r,c,o,w1,zeroG]
  ·by_cases n1:0<need
   ·rcases ho with ⟨rfl,rfl⟩|⟨rfl,rfl,s⟩|⟨rfl,rfl,s⟩|⟨rfl,rfl,s⟩
    ·by_cases s:0<t.s0
     ·cases last<;>simp [St.enter,q000,subs,q001,ixaV,q00b,r,c,o,w1,w2,n0,n1,s]
     ·simp [St.enter,q000,subs,q001,ixaV,q00b,r,c,o,w1,w2,n0,n1,s]
    ·simp [St.enter,q000,subs,q001,ixaV,q00b,r,c,o,w1,w2,n0,n1,s]
    ·simp [St.enter,q000,subs,q001,ixaV,q00b,r,c,o,w1,w2,n0,n1,s]
    ·simp [St.enter,q000,subs,q001,ixaV,q00b,r,c,o,w1,w2,n0,n1,s]
   ·have ho': ∃x:Int,od=x:=⟨_,rfl⟩
    by_cases n2: -need≤t.shr
    ·rcases ho with ⟨rfl,rfl⟩|⟨rfl,rfl,s⟩|⟨rfl,rfl,s⟩|⟨rfl,rfl,s⟩<;>simp [St.enter,q000,subs,q001,r,c,o,w1,w2,w3,n0,n1,n2,hq]
    ·rcases ho with ⟨rfl,rfl⟩|⟨rfl,rfl,s⟩|⟨rfl,rfl,s⟩|⟨rfl,rfl,s⟩<;>simp [St.enter,q000,subs,q001,r,c,o,w1,w2,w3,n0,n1,n2,hq]
def sumL {α:Type} (f:List Item→α) (z:α) (l:List Item) (i:Nat):List α:=(List.range (l.length+1)).map fun k=>if k≤i then f (l.take k) else z
theorem q04s {α:Type} (f:List Item→α) (z:α) (l:List Item) (i:Nat):(sumL f z l i).length=l.length+1:=by simp [sumL]
theorem q0hv {α:Type} (f:List Item→α) (z:α) (l:List Item) (i k:Nat) (h:k≤i) (hk:k≤l.length):(sumL f z l i)[k]? =some (f (l.take k)):=by simp [sumL,h,show k<l.length+1 by omega]
theorem q0hw {α:Type} (f:List Item→α) (z:α) (l:List Item) (i:Nat) (h:i<l.length):(sumL f z l i)[i+1]? =some z:=by simp [sumL,h];omega
theorem q0hx {α:Type} (f:List Item→α) (z:α) (l:List Item) (i:Nat):(sumL f z l i).set (i+1) (f (l.take (i+1)))=sumL f z l (i+1):=by
 apply List.ext_getElem?
 intro k
 rw [List.getElem?_set]
 by_cases hk:k<l.length+1
 ·by_cases e:i+1=k
  ·subst e;simp [sumL,hk]
  ·rw [if_neg e]
   simp only [sumL,List.getElem?_map,List.getElem?_range hk,Option.map_some]
   by_cases h:k≤i
   ·rw [if_pos h,if_pos (by omega)]
   ·rw [if_neg h,if_neg (by omega)]
 ·have e1:(sumL f z l (i+1))[k]? =none:=List.getElem?_eq_none (by rw [q04s];omega)
  have e2:(sumL f z l i)[k]? =none:=List.getElem?_eq_none (by rw [q04s];omega)
  rw [e1,e2]
  by_cases e:i+1=k
  ·subst e;rw [if_pos rfl,if_neg (by rw [q04s];omega)]
  ·rw [if_neg e]
theorem q0sh {α:Type} (f:List Item→α) (z:α) (l:List Item):sumL f z l l.length=preL f l (l.length+1):=by
 unfold sumL preL
 apply List.map_congr_left
 intro k hk
 have:=List.mem_range.1 hk
 rw [if_pos (by omega)]
theorem q0eq {α:Type} (f:List Item→α) (z:α) (l:List Item) (h:f []=z):sumL f z l 0=List.replicate (l.length+1) z:=by
 apply List.ext_getElem?
 intro k
 by_cases hk:k<l.length+1
 ·simp only [sumL,List.getElem?_map,List.getElem?_range hk,Option.map_some,List.getElem?_replicate,if_pos hk]
  by_cases e:k≤0
  ·have:k=0:=by omega
   subst this;simp [h]
  ·rw [if_neg e]
 ·rw [List.getElem?_eq_none (by rw [q04s];omega),List.getElem?_eq_none (by simp;omega)]
def suH (l:List Item) (i:Nat):Heap:=[DObj.row 6 (upV ((sumL totP zeroT l i).map q01p)),DObj.row 1 (upV ((sumL boxP 0 l i).map encI))]
def suE (l:List Item) (i:Nat):St:=
 ⟨[(0,q004 l),(4,.lptr 21 0),(23,vI l.length),(24,vI i)],[(21,[q004 l,.row 0 (l.length+1) 0 (l.length+1),.row 1 (l.length+1) 0 (l.length+1)])],suH l i,0,[]⟩
def suX (l:List Item):Ex×St:=
 (.exit 0,⟨[(0,q004 l),(4,.lptr 21 0),(23,vI l.length),(24,vI l.length),(25,vB false)],[(21,[q004 l,.row 0 (l.length+1) 0 (l.length+1),.row 1 (l.length+1) 0 (l.length+1)])],suH l l.length,0,[]⟩)
set_option maxHeartbeats 1000000 in
theorem q0xj (l:List Item) (hl:l.length≤4096) (hf: ∀x∈l,fairI x) (i:Nat) (x:Item) (hx:l[i]? =some x): ∃c,q08p= .loop [0,4,23,24] [21] c∧evD EE c (suE l i)=some (.normal,suE l (i+1)):=by
 refine ⟨_,rfl,?_⟩
 have hlt:=(List.getElem?_eq_some_iff.1 hx).1
 have w:IntKind.i64.wrap ((i:Int)+1)=((i+1:Nat):Int):=w64 (by omega) (by omega)
 have hix:=fun H k=>q00o H q003 (k:=k) (s:=7) hx rfl
 have ts:=q099 hx
 have fx:=hf x (List.mem_of_getElem? hx)
 have ft: ∀y∈l.take i,fairI y:=fun y hy=>hf y (List.mem_of_mem_take hy)
 have ft1: ∀y∈l.take (i+1),fairI y:=fun y hy=>hf y (List.mem_of_mem_take hy)
 have hlen:(l.take i).length=i:=by rw [List.length_take];omega
 have hlen1:(l.take (i+1)).length=i+1:=by rw [List.length_take];omega
 have t1:=q0ef (l.take i) x
 have b1:=q0od (l.take i) x
 rw [←ts] at t1 b1
 have q1:=q0dg _ ft
 have q2:=q0dg _ ft1
 have q3:=q0k3 _ ft
 have q4:=q0k3 _ ft1
 rw [hlen] at q1 q3
 rw [hlen1] at q2 q4
 have it:=fun H=>q0ho x H
 have sf:=fun H=>q0rw (totI x) (q09t fx) H
 have ta:=fun H=>q0oj (totP (l.take i)) (totI x) (q03h q1 (by omega)) (q03h (q09t fx) (by omega)) (by rw [←t1];exact q03h q2 (by omega)) H
 rw [←t1] at ta
 have g1:(upV ((sumL totP zeroT l i).map q01p))[i]? =some ((q01p (totP (l.take i))).map V.p):=by simp [q04n,q0hv totP zeroT l i i (Nat.le_refl _) (by omega)]
 have g2:(upV ((sumL totP zeroT l i).map q01p))[i+1]? =some ((q01p zeroT).map V.p):=by simp [q04n,q0hw totP zeroT l i hlt]
 have g3:(upV ((sumL boxP 0 l i).map encI))[i]? =some [vI (boxP (l.take i))]:=by simp [q04n,q0hv boxP 0 l i i (Nat.le_refl _) (by omega),encI]
 have g4:(upV ((sumL boxP 0 l i).map encI))[i+1]? =some [vI 0]:=by simp [q04n,q0hw boxP 0 l i hlt,encI]
 have s1:(upV ((sumL totP zeroT l i).map q01p)).set (i+1) ((q01p (totP (l.take (i+1)))).map V.p)=upV ((sumL totP zeroT l (i+1)).map q01p):=by rw [q05e,q0hx]
 have s2:(upV ((sumL boxP 0 l i).map encI)).set (i+1) [vI (boxP (l.take (i+1)))]=upV ((sumL boxP 0 l (i+1)).map encI):=by
  have:=q05e encI (sumL boxP 0 l i) (i+1) (boxP (l.take (i+1)))
  rw [q0hx] at this
  exact this
 have n1:(upV ((sumL totP zeroT l i).map q01p)).length=l.length+1:=by simp [q04s]
 have n2:(upV ((sumL boxP 0 l i).map encI)).length=l.length+1:=by simp [q04s]
 have hlt1:i<l.length+1:=by omega
 have hlt2:i+1<l.length+1:=by omega
 have x0: ∀a b:V,[a,b][0]? =some a:=fun _ _=>rfl
 have x1: ∀a b:V,[a,b][1]? =some b:=fun _ _=>rfl
 have wb:IntKind.i64.wrap (boxP (l.take i)+x.h)=boxP (l.take i)+x.h:=w64 (by have:=fx.h;omega) (by have:=fx.h;omega)
 unfold suE suH
 generalize totP (l.take (i+1))=T1 at*
 generalize totP (l.take i)=T0 at*
 generalize totI x=TI at*
 generalize hB1:boxP (l.take (i+1))=P1 at*
 generalize boxP (l.take i)=P0 at*
 generalize upV ((sumL totP zeroT l i).map q01p)=A1 at*
 generalize upV ((sumL totP zeroT l (i+1)).map q01p)=A2 at*
 generalize upV ((sumL boxP 0 l i).map encI)=B1 at*
 generalize upV ((sumL boxP 0 l (i+1)).map encI)=B2 at*
 simp only [q01p,zeroT,List.map_cons,List.map_nil] at g1 g2 s1
 have g5: ∀v:List V,(B1.set (i+1) v)[i+1]? =some v:=fun v=>by rw [List.getElem?_set_self (by omega)]
 unfold boxI1 at b1
 have ir:=fun H id tot off len s=>q013 H id tot off len s .i64 (i+1)
 simp only [Int.natCast_add,Int.natCast_one] at ir
 by_cases k1:x.k=1
 ·rw [if_pos k1] at b1
  subst b1
  simp only [vItem,k1] at it
  simp [-getElem?_pos,hlt,hix,q003,subs,q001,w,it,sf,ta,g1,g2,g3,g4,g5,s1,s2,n1,n2,hlt1,hlt2,x0,x1,q013,ir,k1,wb]
 ·rw [if_neg k1,Int.add_zero] at b1
  subst b1
  simp [-getElem?_pos,hlt,hix,q003,subs,q001,w,it,sf,ta,g1,g2,g3,g4,s1,s2,n1,n2,hlt1,hlt2,x0,x1,q013,ir,k1]
theorem q0xk (l:List Item) (hl:l.length≤4096) (hf: ∀x∈l,fairI x):evD EE q08p (suE l 0)=some (suX l):=by
 unfold q08p
 refine Eq.trans (q017 l (fun (_:Unit) i=>suE l i) (fun _ _=>True) (fun _ _ _=>()) (fun _=>suX l) (fun _ _=>rfl) ?_ ?_ () 0 trivial (Nat.zero_le _)) rfl
 ·rintro _ i x-hx
  obtain ⟨c',h1,h2⟩:=q0xj l hl hf i x hx
  simp only [q08p,IC.loop.injEq] at h1
  obtain ⟨-,-,rfl⟩:=h1
  exact ⟨h2,trivial⟩
 ·rintro _-
  simp [suE,suX]
theorem q0p2 (l:List Item) (hl:l.length≤4096) (hf: ∀x∈l,fairI x):zR (clD EE (.p (.fn 74)) [q004 l] [])=some (.tup [q00k l,vB true]):=by
 rw [q002 _ _ _ _ _ _ (noP _) fn74]
 have c:=q04g l (by omega)
 have k:=q0xk l hl hf
 have w:IntKind.i64.wrap ((l.length:Int)+1)=((l.length+1:Nat):Int):=w64 (by omega) (by omega)
 have hm:l.length+1<most:=by unfold most;omega
 have h9: ¬(4096:Int)<l.length:=by omega
 have e1:List.replicate (l.length+1) [vI 0,vI 0,vI 0,vI 0,vI 0,vI 0]=upV ((sumL totP zeroT l 0).map q01p):=by rw [q0eq totP zeroT l rfl];simp [upV,q01p,zeroT]
 have e2:List.replicate (l.length+1) [vI 0]=upV ((sumL boxP 0 l 0).map encI):=by rw [q0eq boxP 0 l rfl];simp [upV,encI]
 have p0:0<(l.length:Int)+1:=by omega
 have pt:((l.length:Int)+1).toNat=l.length+1:=by omega
 simp only [suE,suX,suH,q0sh] at k
 have f1:=fun T=>q03g (H:=DObj.row 6 (upV ((preL totP l (l.length+1)).map q01p))::T) (id:=0) (n:=l.length+1) rfl (by simp [q03e])
 have f2:=fun R T=>q03g (H:=R::DObj.row 1 (upV ((preL boxP l (l.length+1)).map encI))::T) (id:=1) (n:=l.length+1) rfl (by simp [q03e])
 generalize upV ((sumL totP zeroT l 0).map q01p)=A at*
 generalize upV ((sumL boxP 0 l 0).map encI)=B at*
 simp at k
 simp [St.enter,q000,subs,q001,solN,sd,c,h9,w,hm,p0,pt,e1,e2,k,allO,q00k,f1,f2,q05m]
def anH (l:List Item) (fs:List Float) (n:Nat):Heap:=[DObj.row 1 (upV ((preL q01b l n).map encI)),DObj.row 3 (upV ((preL (q00q fs) l n).map encC3)),DObj.row 3 (upV ((preL (dueP fs) l n).map encC3))]
def anE (l:List Item) (fs:List Float) (i:Nat):St:=
 ⟨[(1,q00g fs),(5,.lptr 21 0),(22,q004 l),(23,vI l.length),(24,vI i)],[(21,[q004 l,.row 0 (i+1) 0 (i+1),.row 1 (i+1) 0 (i+1),.row 2 (i+1) 0 (i+1)])],anH l fs (i+1),0,[]⟩
def anX (l:List Item) (fs:List Float):Ex×St:=
 (.exit 0,⟨[(1,q00g fs),(5,.lptr 21 0),(22,q004 l),(23,vI l.length),(24,vI l.length),(25,vB false)],[(21,[q004 l,.row 0 (l.length+1) 0 (l.length+1),.row 1 (l.length+1) 0 (l.length+1),.row 2 (l.length+1) 0 (l.length+1)])],anH l fs (l.length+1),0,[]⟩)
theorem q0di {α:Type} (enc:α→List PV) (f:List Item→α) (l:List Item) (n:Nat):upV ((preL f l n).map enc)++upV [enc (f (l.take n))]=upV ((preL f l (n+1)).map enc):=by
 rw [q0oc];simp [upV]
theorem q0si (l:List Item) (fs:List Float) (hl:l.length≤1000000) (i:Nat) (x:Item) (hx:l[i]? =some x): ∃c,q08q= .loop [1,5,22,23,24] [21] c∧evD EE c (anE l fs i)=some (.normal,anE l fs (i+1)):=by
 refine ⟨_,rfl,?_⟩
 have hlt:=(List.getElem?_eq_some_iff.1 hx).1
 have w:IntKind.i64.wrap ((i:Int)+1)=((i+1:Nat):Int):=w64 (by omega) (by omega)
 have hix:=fun H k=>q00o H q003 (k:=k) (s:=7) hx rfl
 have ts:=q099 hx
 have b1:=q0iy (l.take i) x
 have a1:=q0iz fs (l.take i) x
 have d1:=q0o9 fs (l.take i) x
 rw [←ts] at b1 a1 d1
 have g1:(upV ((preL q01b l (i+1)).map encI))[i]? =some [vI (q01b (l.take i))]:=by simp [q04n,q04p q01b l (i+1) i (by omega),encI]
 have g2:(upV ((preL (q00q fs) l (i+1)).map encC3))[i]? =some [vI (q00q fs (l.take i)).a,vI (q00q fs (l.take i)).b,vI (q00q fs (l.take i)).c]:=by simp [q04n,q04p (q00q fs) l (i+1) i (by omega),encC3]
 have g3:(upV ((preL (dueP fs) l (i+1)).map encC3))[i]? =some [vI (dueP fs (l.take i)).a,vI (dueP fs (l.take i)).b,vI (dueP fs (l.take i)).c]:=by simp [q04n,q04p (dueP fs) l (i+1) i (by omega),encC3]
 have p1:=q0di encI q01b l (i+1)
 have p2:=q0di encC3 (q00q fs) l (i+1)
 have p3:=q0di encC3 (dueP fs) l (i+1)
 have n1:(upV ((preL q01b l (i+1)).map encI)).length=i+1:=by simp [q03e]
 have n2:(upV ((preL (q00q fs) l (i+1)).map encC3)).length=i+1:=by simp [q03e]
 have n3:(upV ((preL (dueP fs) l (i+1)).map encC3)).length=i+1:=by simp [q03e]
 have bb:=q0oa (l.take i)
 have ab:=q0ob fs (l.take i)
 have hlen:(l.take i).length=i:=by rw [List.length_take];omega
 rw [hlen] at bb ab
 have wb:IntKind.i64.wrap (q01b (l.take i)+1)=q01b (l.take i)+1:=w64 (by omega) (by omega)
 have wa:IntKind.i64.wrap ((q00q fs (l.take i)).a+1)=(q00q fs (l.take i)).a+1:=w64 (by omega) (by omega)
 have wb2:IntKind.i64.wrap ((q00q fs (l.take i)).b+1)=(q00q fs (l.take i)).b+1:=w64 (by omega) (by omega)
 have wc:IntKind.i64.wrap ((q00q fs (l.take i)).c+1)=(q00q fs (l.take i)).c+1:=w64 (by omega) (by omega)
 have hm:i+1+1<most:=by unfold most;omega
 have hat:=fun H=>at_ev fs x.n H
 have x0: ∀a b:V,[a,b][0]? =some a:=fun _ _=>rfl
 have x1: ∀a b:V,[a,b][1]? =some b:=fun _ _=>rfl
 simp only [encI,encC3,b1,a1,d1] at p1 p2 p3
 unfold anE anH
 generalize q01b (l.take i)=b at*
 generalize hA:q00q fs (l.take i)=A at*
 generalize hD:dueP fs (l.take i)=D at*
 generalize upV ((preL q01b l (i+1)).map encI)=B1 at*
 generalize upV ((preL (q00q fs) l (i+1)).map encC3)=A1 at*
 generalize upV ((preL (dueP fs) l (i+1)).map encC3)=D1 at*
 generalize upV ((preL q01b l (i+1+1)).map encI)=B2 at*
 generalize upV ((preL (q00q fs) l (i+1+1)).map encC3)=A2 at*
 generalize upV ((preL (dueP fs) l (i+1+1)).map encC3)=D2 at*
 unfold addAt at p2
 by_cases k5:x.k=5
 ·simp only [k5,if_true,show¬(5:Int)=6 by decide,show¬(5:Int)=7 by decide,if_false] at p1 p2 p3
  simp [-getElem?_pos,hlt,hix,q003,subs,q001,g1,g2,g3,n1,n2,n3,w,hm,p1,p2,p3,apoB,okEl,q013,x0,x1,k5,wb]
 ·by_cases k6:x.k=6
  ·simp only [k6,if_true,show¬(6:Int)=5 by decide,show¬(6:Int)=7 by decide,if_false,Int.add_zero] at p1 p2 p3
   unfold ofS at p2
   cases hf:atF fs x.n with
   |none=>
    simp only [hf] at p2 hat
    simp [-getElem?_pos,hlt,hix,q003,subs,q001,g1,g2,g3,n1,n2,n3,w,hm,p1,p2,p3,apoB,okEl,q013,x0,x1,k6,hat]
   |some f=>
    simp only [hf] at p2 hat
    unfold bump at p2
    by_cases d0:f.c=0
    ·simp only [d0,if_true] at p2
     simp [-getElem?_pos,hlt,hix,q003,subs,q001,g1,g2,g3,n1,n2,n3,w,hm,p1,p2,p3,apoB,okEl,q013,x0,x1,k6,hat,d0,ixaV,q00b,wa]
    ·by_cases d1:f.c=1
     ·simp only [d1,if_true,show¬(1:Int)=0 by decide,if_false] at p2
      simp [-getElem?_pos,hlt,hix,q003,subs,q001,g1,g2,g3,n1,n2,n3,w,hm,p1,p2,p3,apoB,okEl,q013,x0,x1,k6,hat,d1,ixaV,q00b,wb2]
     ·by_cases d2:f.c=2
      ·simp only [d2,if_true,show¬(2:Int)=0 by decide,show¬(2:Int)=1 by decide,if_false] at p2
       simp [-getElem?_pos,hlt,hix,q003,subs,q001,g1,g2,g3,n1,n2,n3,w,hm,p1,p2,p3,apoB,okEl,q013,x0,x1,k6,hat,d2,ixaV,q00b,wc]
      ·simp only [d0,d1,d2,if_false] at p2
       by_cases d3:f.c<0
       ·simp [-getElem?_pos,hlt,hix,q003,subs,q001,g1,g2,g3,n1,n2,n3,w,hm,p1,p2,p3,apoB,okEl,q013,x0,x1,k6,hat,show¬0≤f.c by omega]
       ·simp [-getElem?_pos,hlt,hix,q003,subs,q001,g1,g2,g3,n1,n2,n3,w,hm,p1,p2,p3,apoB,okEl,q013,x0,x1,k6,hat,show 0≤f.c by omega,show¬f.c<3 by omega]
  ·by_cases k7:x.k=7
   ·simp only [k7,if_true,show¬(7:Int)=5 by decide,show¬(7:Int)=6 by decide,if_false,Int.add_zero] at p1 p2 p3
    by_cases q1:D.a=A.a
    ·by_cases q2:D.b=A.b
     ·by_cases q3:D.c=A.c
      ·simp [-getElem?_pos,hlt,hix,q003,subs,q001,g1,g2,g3,n1,n2,n3,w,hm,p1,p2,p3,apoB,okEl,q013,x0,x1,k7,q1,q2,q3]
      ·simp [-getElem?_pos,hlt,hix,q003,subs,q001,g1,g2,g3,n1,n2,n3,w,hm,p1,p2,p3,apoB,okEl,q013,x0,x1,k7,q1,q2,q3]
     ·simp [-getElem?_pos,hlt,hix,q003,subs,q001,g1,g2,g3,n1,n2,n3,w,hm,p1,p2,p3,apoB,okEl,q013,x0,x1,k7,q1,q2]
    ·simp [-getElem?_pos,hlt,hix,q003,subs,q001,g1,g2,g3,n1,n2,n3,w,hm,p1,p2,p3,apoB,okEl,q013,x0,x1,k7,q1]
   ·simp only [k5,k6,k7,if_false,Int.add_zero] at p1 p2 p3
    simp [-getElem?_pos,hlt,hix,q003,subs,q001,g1,g2,g3,n1,n2,n3,w,hm,p1,p2,p3,apoB,okEl,q013,x0,x1,k5,k6,k7]
theorem q0sj (l:List Item) (fs:List Float) (hl:l.length≤1000000):evD EE q08q (anE l fs 0)=some (anX l fs):=by
 unfold q08q
 refine Eq.trans (q017 l (fun (_:Unit) i=>anE l fs i) (fun _ _=>True) (fun _ _ _=>()) (fun _=>anX l fs) (fun _ _=>rfl) ?_ ?_ () 0 trivial (Nat.zero_le _)) rfl
 ·rintro _ i x-hx
  obtain ⟨c',h1,h2⟩:=q0si l fs hl i x hx
  simp only [q08q,IC.loop.injEq] at h1
  obtain ⟨-,-,rfl⟩:=h1
  exact ⟨h2,trivial⟩
 ·rintro _-
  simp [anE,anX]
theorem q0p3 (l:List Item) (fs:List Float) (hl:l.length≤1000000):zR (clD EE (.p (.fn 76)) [q004 l,q00g fs] [])=some (vMapW l fs):=by
 rw [q002 _ _ _ _ _ _ (noP _) fn76]
 have c:=q04g l hl
 have k:=q0sj l fs hl
 have e1:upV ((preL q01b l 1).map encI)=[[vI 0]]:=by simp [preL,upV,encI,q01b,cnt]
 have e2:upV ((preL (q00q fs) l 1).map encC3)=[[vI 0,vI 0,vI 0]]:=by simp [preL,upV,encC3,q00q]
 have e3:upV ((preL (dueP fs) l 1).map encC3)=[[vI 0,vI 0,vI 0]]:=by simp [preL,upV,encC3,dueP]
 simp only [anE,anX,anH,Nat.zero_add,e1,e2,e3] at k
 simp at k
 have f1:=fun T=>q03g (H:=DObj.row 1 (upV ((preL q01b l (l.length+1)).map encI))::T) (id:=0) (n:=l.length+1) rfl (by simp [q03e])
 have f2:=fun R T=>q03g (H:=R::DObj.row 3 (upV ((preL (q00q fs) l (l.length+1)).map encC3))::T) (id:=1) (n:=l.length+1) rfl (by simp [q03e])
 have f3:=fun R R' T=>q03g (H:=R::R'::DObj.row 3 (upV ((preL (dueP fs) l (l.length+1)).map encC3))::T) (id:=2) (n:=l.length+1) rfl (by simp [q03e])
 simp [St.enter,q000,subs,q001,solN,sd,c,k,allO,vMapW,f1,f2,f3,rowI,okEl]
theorem q0sk (env:List (Nat×V)) (loc:List (Nat×List V)) (H:Heap) (l:List Note) (x:Note) (hm:l.length+1<most):
  appV ⟨env,loc,H++rowsG 2 q00h l,H.length,[]⟩ (q00e H.length l) (.p (.sl [q00h x])) 2=some (q00e H.length (l++[x]),⟨env,loc,H++rowsG 2 q00h (l++[x]),H.length,[]⟩):=
 q070 env loc H H.length [] 2 q00h l x rfl hm (Nat.le_refl _)
def q0hy:List V:=[vI 0,vI 0,vI 0,vI 0,vI 0,vI 0,vI 0,vI 0,vI 0,vI 0,vI 0,vI 0,vI 0,vI 0,vI 0,vI 0,vI 0,vI 0,vB false,.nils,.nils,.nils]
def cpE (j:Job) (H:Heap) (M:List Note) (i:Nat):St:=
 ⟨[(2,.lptr 2 0),(3,.lptr 3 0),(16,q00j j.notes),(17,vI j.notes.length),(18,vI i)],[(2,q0hy),(3,cGeom j.g++[q004 j.items,q00e H.length M,q00g j.floats])],H++rowsG 2 q00h M,H.length,[]⟩
def cpX (j:Job) (H:Heap):Ex×St:=
 (.exit 0,⟨[(2,.lptr 2 0),(3,.lptr 3 0),(16,q00j j.notes),(17,vI j.notes.length),(18,vI j.notes.length),(19,vB false)],[(2,q0hy),(3,cGeom j.g++[q004 j.items,q00e H.length j.notes,q00g j.floats])],H++rowsG 2 q00h j.notes,H.length,[]⟩)
theorem cp_lp (j:Job) (n2:j.notes.length≤1000000) (hn: ∀n∈j.notes,n.lines.length≤1000000∧n.pens.length≤1000000) (H:Heap):evD EE q0gb (cpE j H [] 0)=some (cpX j H):=by
 unfold q0gb
 refine Eq.trans (q017 j.notes (fun (_:Unit) i=>cpE j H (j.notes.take i) i) (fun _ _=>True) (fun _ _ _=>()) (fun _=>cpX j H) (fun _ _=>rfl) ?_ ?_ () 0 trivial (Nat.zero_le _)) rfl
 ·rintro _ i x-hx
  refine ⟨?_,trivial⟩
  have hlt:=(List.getElem?_eq_some_iff.1 hx).1
  have w:IntKind.i64.wrap ((i:Int)+1)=((i+1:Nat):Int):=w64 (by omega) (by omega)
  have hix:=fun H k=>q00o H q00h (k:=k) (s:=2) hx rfl
  obtain ⟨l1,l2⟩:=hn x (List.mem_of_getElem? hx)
  have c1:=q0li x.lines l1
  have c2:=q0j0 x.pens l2
  have hlen:(j.notes.take i).length=i:=by rw [List.length_take];omega
  have ha:=fun env loc=>q0sk env loc H (j.notes.take i) x (by rw [hlen];unfold most;omega)
  rw [q099 hx]
  generalize j.notes.take i=M at*
  simp only [q00h] at hix ha
  simp only [cpE,cGeom,List.cons_append,List.nil_append]
  simp [-q06u,hlt,hix,subs,q001,solN,sd,w,c1,c2,ha]
 ·rintro _-
  simp only [cpE,cpX,List.take_length]
  simp [subs]
theorem q0p4 (j:Job) (n1:j.items.length≤1000000) (n2:j.notes.length≤1000000) (n3:j.floats.length≤1000000) (hn: ∀n∈j.notes,n.lines.length≤1000000∧n.pens.length≤1000000) (H:Heap):clD EE (.p (.fn 72)) [vJob j] H=some (vJob j,none):=by
 rw [q002 _ _ _ _ _ _ (noP _) fn72]
 have c1:=q04g j.items n1
 have c2:=q0f8 j.floats n3
 have k:=cp_lp j n2 hn H
 have f2:=fun env loc=>q05y env loc (H++rowsG 2 q00h j.notes) H.length [] H.length 2 q00h j.notes (by
  have:=q07m 2 q00h H [] j.notes
  simpa using this) (Nat.le_refl _)
 simp only [cpE,cpX,q0hy,cGeom,List.cons_append,List.nil_append] at k
 simp only [vJob,cGeom,List.cons_append,List.nil_append]
 generalize hu:q00e H.length j.notes=u at*
 have o:u.oneB=true:=by rw [←hu];simp
 have p:u.cells=[u]:=by rw [←hu];simp
 clear hu
 generalize H++rowsG 2 q00h j.notes=G at*
 simp at k
 simp [St.enter,q000,subs,q001,solN,sd,c1,c2,k,f2,o,p]
def encNp (n:Note):List Int×List Int:=(n.lines,n.pens)
theorem q0hz (l:List Note):q02k (l.map encNp)=lineN l:=by
 induction l with
 |nil=>rfl
 |cons n r ih=>simp only [List.map_cons,q02k,List.foldr_cons,lineN,List.sum_cons] at ih⊢;rw [ih];rfl
theorem q0i0 (l:List Note) (H:Heap) (hl:l.length≤1000000) (hs:lineN l≤9223372036854775807):clD EE (.p (.fn 78)) [q00j l] H=some (vI (lineN l),none):=by
 have h:=q0re (l.map encNp) H (by simpa using hl) (by rw [q0hz];exact hs)
 rw [q0hz] at h
 unfold notes at h
 rw [List.map_map] at h
 exact h
theorem q0sl (l:List Note) (h: ∀n∈l,n.lines.length≤1000000):0≤lineN l∧lineN l≤1000000*l.length:=by
 induction l with
 |nil=>simp [lineN]
 |cons n r ih=>
  have h1:=h n List.mem_cons_self
  have h2:=ih fun m hm=>h m (List.mem_cons_of_mem _ hm)
  simp only [lineN,List.map_cons,List.sum_cons,List.length_cons] at h2⊢
  omega
def cutV {α:Type} (enc:α→List PV) (l:List α) (p:Nat):V:=if p=0 then .nils else .p (.sl ((l.take p).map enc))
section
variable {α:Type} (enc:α→List PV) (l:List α) (p:Nat)
@[simp] theorem q0Jt:(cutV enc l p).oneB=true:=by unfold cutV;split<;>rfl
@[simp] theorem q0Gi:(cutV enc l p).cells=[cutV enc l p] :=by unfold cutV;split<;>rfl
@[simp] theorem q0Ju:(cutV enc l p).notL=true:=by unfold cutV;split<;>rfl
@[simp] theorem q0Gj:normC (cutV enc l p)= .p (.sl ((l.take p).map enc)):=by
  unfold cutV;split
  ·rename_i h0;subst h0;rfl
  ·rfl
theorem q0sm (s:Nat) (hs: ∀x,(enc x).length=s) (H:Heap) (k:IntKind) (h:p≤l.length):slcI H s (.p (.sl (l.map enc))) none (some (.p (.int k (p:Int))))=some (.p (.sl ((l.take p).map enc))):=by
 have hh:q06h s (l.map enc)=true:=by
  cases l with
  |nil=>rfl
  |cons x r=>simp [q06h,hs]
 have h2:(p:Int)≤l.length:=by omega
 simp [slcI,slcV,hh,h2]
end
end Go.EnvOf
