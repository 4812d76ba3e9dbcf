/- The program's functions and the document's, evaluated. -/
import Derived.Test.YtjjdmlpdgcdehaaGreatText7
import Derived.Test.YtjjdmlpdgcdehaaGreatText2
import Derived.Test.YtjjdmlpdgcdehaaGreatText5
import Derived.Test.YtjjdmlpdgcdehaaGreatText3
set_option linter.unusedSimpArgs false
set_option linter.unusedVariables false
namespace Go.EnvOf
open Go Go.Eng
set_option maxRecDepth 100000
theorem q0j6 (x:Item) (H:Heap):clD EE (.p (.fn 17)) [vItem x] H=some (vB (q04c x),none):=by
 rw [q002 _ _ _ _ _ _ (noP _) fn17]
 unfold q04c
 by_cases h:x.k=2<;>simp [zEc,h]
theorem q0z4 (l:List Item) (hl:l.length<=1000000) (H:Heap) (B:Nat): ∀(k a:Nat),a<=l.length->l.length-a=k->
  evD EE q0ey ⟨[(0,q006 l),(5,vI a)],[],H,B,[]⟩=some (.exit 0,⟨[(0,q006 l),(5,vI (trimN l a)),(21,vB false)],[],H,B,[]⟩):=by
 intro k
 induction k with
 |zero=>
  intro a h1 h2
  have e:a=l.length:=by omega
  subst e
  have ht:trimN l l.length=l.length:=q09t (by unfold stayB;rw [ZF (Zm _)])
  unfold q0ey
  rw [q003]
  simp [ht]
 |succ k ih=>
  intro a h1 h2
  have hlt:a<l.length:=by omega
  have hx:l[a]? =some l[a]:=Zl hlt
  have hix:=fun H k=>q00c H q004 (k:=k) (s:=7) hx rfl
  have w:IntKind.i64.wrap ((a:Int)+1)=((a+1:Nat):Int):=w64 (by omega) (by omega)
  have lo:=fun H=>q0j6 l[a] H
  generalize l[a]=x at*
  by_cases hb:q04c x=true
  ·have ht:=q0da hx hb
   have key:=ih (a+1) (by omega) (by omega)
   rw [ht,<-key]
   conv=>lhs;unfold q0ey
   rw [q003]
   simp [hlt,hix,q004,subs,lo,hb,w]
   rfl
  ·have ht:trimN l a=a:=q09t (by unfold stayB;rw [hx];simpa using hb)
   have hb':q04c x=false:=by simpa using hb
   rw [ht]
   unfold q0ey
   rw [q003]
   simp [hlt,hix,q004,subs,lo,hb']
theorem q0z5 (l:List Item) (n:Int) (hl:l.length<=1000000) (H:Heap):clD EE (.p (.fn 78)) [q006 l,vI n] H=some (vI (trimF l n),none):=by
 rw [q002 _ _ _ _ _ _ (noP _) fn78]
 have hk:max 0 (min n (l.length:Int))=(putN l n:Int):=by unfold putN;omega
 have k:=q0z4 l hl H H.length _ (putN l n) (q08v l n) rfl
 unfold trimF
 simp [zEa,hk,k]
def numsL (k a b:Int):Nat->List Item->List Int
 |_,[]=>[]
 |i,x::r=>(if a<=i/\(i:Int)<b/\x.k=k then [x.n] else [])++numsL k a b (i+1) r
theorem q0j7 (k:Int) (b:Int): ∀(l:List Item) (i:Nat),(numsL k 0 b i l).length=cnt k (l.take (b.toNat-i))
 |[],i=>by simp [numsL,cnt]
 |x::r,i=>by
  have ih:=q0j7 k b r (i+1)
  simp only [numsL,Zt,ih]
  by_cases h:(i:Int)<b
  ·have e:b.toNat-i=(b.toNat-(i+1))+1:=by omega
   rw [e,ZZ,q0dz]
   by_cases hk:x.k=k
   ·rw [if_pos ⟨by omega,h,hk⟩,if_pos hk];simp
   ·rw [if_neg (fun hh=>hk hh.2.2),if_neg hk];simp
  ·have e:b.toNat-i=0:=by omega
   have e2:b.toNat-(i+1)=0:=by omega
   rw [if_neg (fun hh=>h hh.2.1),e,e2];simp [cnt]
theorem q0fm (k a b:Int): ∀(l:List Item) (i:Nat) (x:Item),numsL k a b i (l++[x])=numsL k a b i l++(if a<=((i+l.length:Nat):Int)/\((i+l.length:Nat):Int)<b/\x.k=k then [x.n] else [])
 |[],i,x=>by simp [numsL]
 |y::r,i,x=>by
  simp only [Zd,numsL,q0fm k a b r (i+1) x,Zx,Zg]
  rw [show i+1+r.length=i+(r.length+1) by omega]
def nuE (l:List Item) (k a b:Int) (H:Heap) (M:List Int) (i:Nat):St:=⟨[(0,q006 l),(1,vI k),(2,vI a),(3,vI b),(9,.row H.length M.length 0 M.length),(10,vI i)],[],H++[DObj.row 1 (upV (M.map encI))],H.length,[]⟩
def nuX (l:List Item) (k a b:Int) (H:Heap) (M:List Int):Ex×St:=(.exit 0,⟨[(0,q006 l),(1,vI k),(2,vI a),(3,vI b),(9,.row H.length M.length 0 M.length),(10,vI l.length),(14,vB false)],[],H++[DObj.row 1 (upV (M.map encI))],H.length,[]⟩)
theorem q0Cp (l:List Item) (k a b:Int) (hl:l.length<=1000000) (H:Heap):evD EE q0X2 (nuE l k a b H [] 0)=some (nuX l k a b H (numsL k a b 0 l)):=by
 unfold q0X2
 refine Eq.trans (q00u l (fun (_:Unit) i=>nuE l k a b H (numsL k a b 0 (l.take i)) i) (fun _ _=>True) (fun _ _ _=>()) (fun _=>nuX l k a b H (numsL k a b 0 l)) (fun _ _=>rfl) ?_ ?_ () 0 trivial (Zj _)) rfl
 ·rintro _ i x-hx
  refine ⟨?_,trivial⟩
  have hlt:=(Za.1 hx).1
  have w:IntKind.i64.wrap ((i:Int)+1)=((i+1:Nat):Int):=w64 (by omega) (by omega)
  have hix:=fun H k=>q00c H q004 (k:=k) (s:=7) hx rfl
  have e:=q0fm k a b (l.take i) 0 x
  have hlen:(l.take i).length=i:=by rw [ZC];omega
  rw [hlen,Zs] at e
  have hM:(numsL k a b 0 (l.take i)).length<=1000000:=by
   have: ∀(l:List Item) (i:Nat),(numsL k a b i l).length<=l.length:=by
    intro l
    induction l with
    |nil=>intro i;simp [numsL]
    |cons y r ih=>intro i;simp only [numsL,Zt,Zg];have:=ih (i+1);split<;>simp<;>omega
   have:=this (l.take i) 0
   omega
  rw [q03n hx]
  simp only [e]
  generalize numsL k a b 0 (l.take i)=M at*
  have hm:M.length+1<most:=by unfold most;omega
  have e3:upV (M.map encI)++[[V.p (.int .i64 x.n)]]=upV ((M++[x.n]).map encI):=by simp [upV,encI]
  by_cases c1:a<=(i:Int)
  ·by_cases c2:(i:Int)<b
   ·by_cases c3:x.k=k
    ·simp [nuE,hlt,hix,q004,subs,q001,w,c1,c2,c3,hm,e3,encI,upV,okEl]
    ·simp [nuE,hlt,hix,q004,subs,q001,w,c1,c2,c3]
   ·simp [nuE,hlt,hix,q004,subs,q001,w,c1,c2]
  ·simp [nuE,hlt,hix,q004,subs,q001,w,c1]
 ·rintro _-
  simp [nuE,nuX]
theorem q0Cq (l:List Item) (k a b:Int) (hl:l.length<=1000000) (H:Heap):clD EE (.p (.fn 247)) [q006 l,vI k,vI a,vI b] H=some (sli (numsL k a b 0 l),none):=by
 rw [q002 _ _ _ _ _ _ (noP _) fn247]
 have key:=q0Cp l k a b hl H
 generalize numsL k a b 0 l=M at*
 simp [nuE,nuX] at key
 simp [zEa,key]
theorem q0br (j:Job) (n:Int) (hl:j.items.length<=1000000) (H:Heap):clD EE (.p (.fn 147)) [vJob j,vI n] H=some (vI (q00z j n),none):=by
 rw [q002 _ _ _ _ _ _ (noP _) fn147]
 have h:=fun H=>q0Cq j.items 5 0 n hl H
 have e:((numsL 5 0 n 0 j.items).length:Int)=q00z j n:=by
  rw [q0j7]
  unfold q00z q01a putN
  have e2:j.items.take (n.toNat-0)=j.items.take (min (max n 0) j.items.length).toNat:=by
   rcases Nat.le_total n.toNat j.items.length with h|h
   ·congr 1;omega
   ·rw [Zy (by omega),Zy (by omega)]
  rw [e2]
 simp only [vJob,cGeom,Zd,Zf]
 simp [zEc,h,e]
def rwS (fs:List Float) (n:Int) (c:C3) (i:Nat) (x:Item):C3:=if (i:Int)<n then addAt fs c x else c
def rwE (l:List Item) (fs:List Float) (n:Int) (H:Heap) (c:C3) (i:Nat):St:=⟨[(0,q006 l),(1,q005 fs),(2,vI n),(6,.lptr 6 0),(7,.lptr 7 0),(8,vI i)],[(6,[vI 0,vI 0,vI 0]),(7,[vI c.a,vI c.b,vI c.c])],H,H.length,[]⟩
def rwX (l:List Item) (fs:List Float) (n:Int) (H:Heap) (c:C3):Ex×St:=(.exit 0,⟨[(0,q006 l),(1,q005 fs),(2,vI n),(6,.lptr 6 0),(7,.lptr 7 0),(8,vI l.length),(13,vB false)],[(6,[vI 0,vI 0,vI 0]),(7,[vI c.a,vI c.b,vI c.c])],H,H.length,[]⟩)
theorem q0ps (fs:List Float) (n:Int): ∀(l:List Item) (c:C3) (i:Nat),fold (rwS fs n) c i l=(l.take (n.toNat-i)).foldl (addAt fs) c
 |[],c,i=>by simp [fold]
 |x::r,c,i=>by
  simp only [fold,q0ps fs n r]
  unfold rwS
  by_cases h:(i:Int)<n
  ·rw [if_pos h,show n.toNat-i=(n.toNat-(i+1))+1 by omega,ZZ,ZT]
  ·rw [if_neg h,show n.toNat-i=0 by omega,show n.toNat-(i+1)=0 by omega];simp
theorem q0vg (l:List Item) (fs:List Float) (n:Int) (hl:l.length<=1000000) (H:Heap):evD EE q0Wt (rwE l fs n H ⟨0,0,0⟩ 0)=some (rwX l fs n H (fold (rwS fs n) ⟨0,0,0⟩ 0 l)):=by
 unfold q0Wt
 refine Eq.trans (q00u l (rwE l fs n H) (fun c i=>0<=c.a/\0<=c.b/\0<=c.c/\c.a<=i/\c.b<=i/\c.c<=i) (rwS fs n) (rwX l fs n H) (fun _ _=>rfl) ?_ ?_ ⟨0,0,0⟩ 0 (by simp) (Zj _)) (by rw [ZG])
 ·intro c i x hc hx
  have hlt:=(Za.1 hx).1
  refine ⟨?_,?_⟩
  ·have w:IntKind.i64.wrap ((i:Int)+1)=((i+1:Nat):Int):=w64 (by omega) (by omega)
   have wa:IntKind.i64.wrap (c.a+1)=c.a+1:=w64 (by omega) (by omega)
   have wb:IntKind.i64.wrap (c.b+1)=c.b+1:=w64 (by omega) (by omega)
   have wc:IntKind.i64.wrap (c.c+1)=c.c+1:=w64 (by omega) (by omega)
   have hix:=fun H k=>q00c H q004 (k:=k) (s:=7) hx rfl
   unfold rwS addAt ofS atF bump
   by_cases c1:(i:Int)<n
   ·by_cases c2:x.k=6
    ·by_cases c3:0<=x.n
     ·by_cases c4:x.n<(fs.length:Int)
      ·have hf:=q026 fs x.n (by omega) (by omega)
       have hif:=fun H k=>q024 H q009 (k:=k) (s:=3) (by omega) hf rfl
       generalize rd fs x.n=f at*
       by_cases d0:f.c=0
       ·simp [rwE,hlt,hix,q004,subs,q001,w,c1,c2,c3,c4,hif,q009,d0,ixaV,q007,wa]
       ·by_cases d1:f.c=1
        ·simp [rwE,hlt,hix,q004,subs,q001,w,c1,c2,c3,c4,hif,q009,d1,ixaV,q007,wb]
        ·by_cases d2:f.c=2
         ·simp [rwE,hlt,hix,q004,subs,q001,w,c1,c2,c3,c4,hif,q009,d2,ixaV,q007,wc]
         ·by_cases d3:f.c<0
          ·simp [rwE,hlt,hix,q004,subs,q001,w,c1,c2,c3,c4,hif,q009,d0,d1,d2,show¬0<=f.c by omega]
          ·simp [rwE,hlt,hix,q004,subs,q001,w,c1,c2,c3,c4,hif,q009,d0,d1,d2,show 0<=f.c by omega,show¬f.c<3 by omega]
      ·simp [rwE,hlt,hix,q004,subs,q001,w,c1,c2,c3,c4]
     ·simp [rwE,hlt,hix,q004,subs,q001,w,c1,c2,c3]
    ·simp [rwE,hlt,hix,q004,subs,q001,w,c1,c2]
   ·simp [rwE,hlt,hix,q004,subs,q001,w,c1]
  ·unfold rwS
   split
   ·have:=q0e2 fs c x i (by omega)
    simpa using this
   ·simp only [Int.natCast_add,Int.natCast_one];omega
 ·intro c _
  simp [rwE,rwX]
theorem q07u (l:List Item) (fs:List Float) (n:Int) (hl:l.length<=1000000) (H:Heap):clD EE (.p (.fn 149)) [q006 l,q005 fs,vI n] H=some (vC (q00n fs (l.take (putN l n))),none):=by
 rw [q002 _ _ _ _ _ _ (noP _) fn149]
 have key:=q0vg l fs n hl H
 have e:fold (rwS fs n) ⟨0,0,0⟩ 0 l=q00n fs (l.take (putN l n)):=by
  rw [q0ps]
  unfold q00n putN
  congr 1
  rcases Nat.le_total n.toNat l.length with h|h
  ·congr 1;omega
  ·rw [Zy (by omega),Zy (by omega)]
 rw [e] at key
 simp [rwE,rwX] at key
 simp [zEc,key]
def rzqE (fs:List Float) (xs:List Int) (H:Heap) (c:C3) (i:Nat):St:=⟨[(0,q005 fs),(1,sli xs),(4,.lptr 4 0),(5,.lptr 5 0),(6,vI i)],[(4,[vI 0,vI 0,vI 0]),(5,[vI c.a,vI c.b,vI c.c])],H,H.length,[]⟩
def rzqX (fs:List Float) (xs:List Int) (H:Heap) (c:C3):Ex×St:=(.exit 0,⟨[(0,q005 fs),(1,sli xs),(4,.lptr 4 0),(5,.lptr 5 0),(6,vI xs.length),(11,vB false)],[(4,[vI 0,vI 0,vI 0]),(5,[vI c.a,vI c.b,vI c.c])],H,H.length,[]⟩)
theorem q0Et (fs:List Float) (xs:List Int) (hl:xs.length<=1000000) (H:Heap):evD EE q0l8 (rzqE fs xs H ⟨0,0,0⟩ 0)=some (rzqX fs xs H (ofL fs xs)):=by
 have hf: ∀(xs:List Int) (s:C3) (i:Nat),fold (fun s _ x=>ofS fs s x) s i xs=xs.foldl (ofS fs) s:=by
  intro xs
  induction xs with
  |nil=>intro s i;rfl
  |cons x r ih=>intro s i;simp only [fold,ZT,ih]
 unfold ofL
 rw [<-hf xs ⟨0,0,0⟩ 0]
 unfold q0l8
 refine Eq.trans (q00u xs (rzqE fs xs H) (fun c i=>0<=c.a/\0<=c.b/\0<=c.c/\c.a<=i/\c.b<=i/\c.c<=i) (fun s _ x=>ofS fs s x) (rzqX fs xs H) (fun _ _=>rfl) ?_ ?_ ⟨0,0,0⟩ 0 (by simp) (Zj _)) (by rw [ZG])
 ·intro c i x hc hx
  have hlt:=(Za.1 hx).1
  refine ⟨?_,?_⟩
  ·have w:IntKind.i64.wrap ((i:Int)+1)=((i+1:Nat):Int):=w64 (by omega) (by omega)
   have wa:IntKind.i64.wrap (c.a+1)=c.a+1:=w64 (by omega) (by omega)
   have wb:IntKind.i64.wrap (c.b+1)=c.b+1:=w64 (by omega) (by omega)
   have wc:IntKind.i64.wrap (c.c+1)=c.c+1:=w64 (by omega) (by omega)
   have hix:=fun H k=>q00c H encI (k:=k) (s:=1) hx rfl
   unfold ofS atF bump
   by_cases c3:0<=x
   ·by_cases c4:x<(fs.length:Int)
    ·have hf:=q026 fs x (by omega) (by omega)
     have hif:=fun H k=>q024 H q009 (k:=k) (s:=3) (by omega) hf rfl
     generalize rd fs x=f at*
     by_cases d0:f.c=0
     ·simp [rzqE,hlt,hix,encI,subs,q001,w,c3,c4,hif,q009,d0,ixaV,q007,wa]
     ·by_cases d1:f.c=1
      ·simp [rzqE,hlt,hix,encI,subs,q001,w,c3,c4,hif,q009,d1,ixaV,q007,wb]
      ·by_cases d2:f.c=2
       ·simp [rzqE,hlt,hix,encI,subs,q001,w,c3,c4,hif,q009,d2,ixaV,q007,wc]
       ·by_cases d3:f.c<0
        ·simp [rzqE,hlt,hix,encI,subs,q001,w,c3,c4,hif,q009,d0,d1,d2,show¬0<=f.c by omega]
        ·simp [rzqE,hlt,hix,encI,subs,q001,w,c3,c4,hif,q009,d0,d1,d2,show 0<=f.c by omega,show¬f.c<3 by omega]
    ·simp [rzqE,hlt,hix,encI,subs,q001,w,c3,c4]
   ·simp [rzqE,hlt,hix,encI,subs,q001,w,c3]
  ·have:=q0e2 fs c ⟨6,0,0,0,0,0,x⟩ i (by omega)
   simpa [addAt] using this
 ·intro c _
  simp [rzqE,rzqX]
theorem q0n0 (fs:List Float) (xs:List Int) (hl:xs.length<=1000000) (H:Heap):clD EE (.p (.fn 80)) [q005 fs,sli xs] H=some (vC (ofL fs xs),none):=by
 rw [q002 _ _ _ _ _ _ (noP _) fn80]
 have key:=q0Et fs xs hl H
 simp [rzqE,rzqX] at key
 simp [zEc,key]
theorem q0n1 (j:Job) (s:Stt) (hr:q00z j s.at_<=j.notes.length):
  ((decide (s.note=q00z j s.at_)&&decide (s.line=0))||(decide (s.note=q00z j s.at_-1)&&decide (0<=s.note)&&decide (1<=s.line)&&(decide (s.line<(rd j.notes s.note).lines.length)&&mayF (rd j.notes s.note).lines (rd j.notes s.note).pens s.line)))=q03q j s:=by
 unfold q03q
 by_cases h0:s.line=0
 ·simp [h0]
 ·rw [if_neg h0]
  by_cases h1:s.note≠q00z j s.at_-1\/s.note<0\/s.line<1
  ·rw [if_pos h1]
   rcases h1 with h1|h1|h1
   ·simp [h0,h1]
   ·simp [h0,show¬0<=s.note by omega]
   ·simp [h0,show¬1<=s.line by omega]
  ·rw [if_neg h1]
   have q1:s.note=q00z j s.at_-1:=by omega
   have q2:0<=s.note:=by omega
   have q3:1<=s.line:=by omega
   simp [h0,q1,show 0<=q00z j s.at_-1 by omega,show 1<=q00z j s.at_ by omega,q3]
section
variable (j:Job) (w:okW j)
include w in
theorem q025 (s:Stt) (H:Heap):clD EE (.p (.fn 68)) [vJob j,vStt s] H=some (vB (q01g j s),none):=by
 rw [q002 _ _ _ _ _ _ (noP _) fn68]
 have ht:=fun H=>q0z5 j.items s.at_ w.n1 H
 have hb:=fun H=>q0br j s.at_ w.n1 H
 have ha:=fun H=>q07u j.items j.floats s.at_ w.n1 H
 change∀H,clD EE _ _ H=some (vC (q01i j s.at_),none) at ha
 have i1:=fun H=>q0f7 zeroC s.h H
 have i2:=fun H=>q0f7 s.h (q01i j s.at_) H
 have hle:=q03o w s.at_
 have hge:=q0bq j s.at_
 have hoc:=q0n1 j s hle
 have w1:IntKind.i64.wrap (q00z j s.at_-1)=q00z j s.at_-1:=w64 (by have:=w.n2;omega) (by have:=w.n2;omega)
 unfold q01g
 simp only [vJob,cGeom,Zd,Zf,zeroC] at hb i1⊢
 by_cases h1:s.at_<0
 ·simp [zEc,h1]
 ·by_cases h2:(j.items.length:Int)<s.at_
  ·simp [zEc,h1,h2]
  ·by_cases h3:(trimF j.items s.at_:Int)=s.at_
   ·by_cases h4:s.col<0
    ·simp [zEc,h1,h2,ht,h3,h4]
    ·by_cases h5:j.g.cols<s.col
     ·simp [zEc,h1,h2,ht,h3,h4,h5]
     ·simp only [h1,h2,h3,h4,h5,not_true_eq_false,or_false,if_false,ne_eq]
      rw [<-hoc]
      generalize q00z j s.at_=b at*
      by_cases n0:s.note=b-1/\0<=s.note/\1<=s.line
      ·obtain ⟨n1,n2,n3⟩:=n0
       have hx:=q026 j.notes s.note (by omega) (by omega)
       have hix:=fun H k=>q024 H q00e (k:=k) (s:=2) (by omega) hx rfl
       have hl:=w.lines _ (Zp hx)
       have hm:=fun H=>q0pk (rd j.notes s.note).lines (rd j.notes s.note).pens s.line H (by omega)
       simp only [q00e] at hix
       simp only [note,sli] at hm
       have n4: ¬s.note=b:=by omega
       have n5:decide (s.note=b-1)=true:=by simpa using n1
       generalize rd j.notes s.note=nt at*
       by_cases h6:s.line<(nt.lines.length:Int)
       ·cases c1:mayF nt.lines nt.pens s.line with
        |false=>simp [zEc,h1,h2,ht,h3,h4,h5,hb,w1,n4,n5,n2,n3,hix,h6,hm,c1,ha]
        |true=>
         cases c2:inC ⟨0,0,0⟩ s.h with
         |false=>simp [zEc,h1,h2,ht,h3,h4,h5,hb,w1,n4,n5,n2,n3,hix,h6,hm,c1,ha,i1,c2]
         |true=>simp [zEc,h1,h2,ht,h3,h4,h5,hb,w1,n4,n5,n2,n3,hix,h6,hm,c1,ha,i1,c2,i2]
       ·simp [zEc,h1,h2,ht,h3,h4,h5,hb,w1,n4,n5,n2,n3,hix,h6,ha]
      ·by_cases a1:s.note=b-1
       ·have a4:decide (s.note=b-1)=true:=by simpa using a1
        have a5: ¬s.note=b:=by omega
        by_cases a2:0<=s.note
        ·have a3: ¬1<=s.line:=by omega
         simp [zEc,h1,h2,ht,h3,h4,h5,hb,w1,a4,a5,a2,a3,ha]
        ·simp [zEc,h1,h2,ht,h3,h4,h5,hb,w1,a4,a5,a2,ha]
       ·by_cases m1:s.note=b
        ·have m3:decide (s.note=b)=true:=by simpa using m1
         by_cases m2:s.line=0
         ·have m4:decide (s.line=0)=true:=by simpa using m2
          cases c2:inC ⟨0,0,0⟩ s.h with
          |false=>simp [zEc,h1,h2,ht,h3,h4,h5,hb,w1,a1,m3,m4,ha,i1,c2]
          |true=>simp [zEc,h1,h2,ht,h3,h4,h5,hb,w1,a1,m3,m4,ha,i1,c2,i2]
         ·simp [zEc,h1,h2,ht,h3,h4,h5,hb,w1,a1,m3,m2,ha]
        ·simp [zEc,h1,h2,ht,h3,h4,h5,hb,w1,a1,m1,ha]
   ·simp [zEc,h1,h2,ht,h3]
end
theorem q0j8 (l:List Item) (hl:l.length<=1000000) (n:Int) (H:Heap):clD EE (.p (.fn 106)) [q006 l,vI n] H=some (vB (mayV l n),none):=by
 rw [q002 _ _ _ _ _ _ (noP _) fn106]
 have lo:=fun x H=>q0j6 x H
 unfold mayV q02g
 by_cases c1:n<1
 ·simp [zEa,c1]
 ·by_cases c2:(l.length:Int)<n
  ·simp [zEa,c1,c2]
  ·by_cases c3:n=l.length
   ·rw [if_neg (by omega),if_neg (by omega)]
    simp only
    have c1': ¬(l.length:Int)<1:=by omega
    subst c3
    simp [zEa,c1']
   ·have hx:=q026 l n (by omega) (by omega)
    have hix:=fun H k=>q024 H q004 (k:=k) (s:=7) (by omega) hx rfl
    have w:IntKind.i64.wrap (n-1)=n-1:=w64 (by omega) (by omega)
    have hy:=q026 l (n-1) (by omega) (by omega)
    have hiy:=fun H k=>q024 H q004 (k:=k) (s:=7) (by omega) hy rfl
    simp only [q004] at hix hiy
    rw [if_neg (by omega),if_pos ⟨by omega,by omega⟩]
    simp only [forbX]
    generalize rd l n=x at*
    have e:q0fl (rd l (n-1))=q04c (rd l (n-1)):=rfl
    rw [e]
    generalize rd l (n-1)=y at*
    by_cases k2:x.k=2
    ·simp [zEc,c1,c2,c3,hix,hiy,k2,w,lo]
    ·by_cases k3:x.k=3
     ·simp [zEc,c1,c2,c3,hix,k3];by_cases z:x.n<10000<;>simp [z]<;>omega
     ·simp [zEc,c1,c2,c3,hix,k2,k3]
theorem q0fn {α τ:Type} (f:τ->Nat->α->τ): ∀(l:List α) (s:τ) (i n:Nat) (x:α),l[n]? =some x->fold f s i (l.take (n+1))=f (fold f s i (l.take n)) (i+n) x
 |[],s,i,n,x,h=>by simp at h
 |y::r,s,i,0,x,h=>by simp at h;subst h;simp [fold]
 |y::r,s,i,n+1,x,h=>by
  simp only [ZZ,fold]
  rw [q0fn f r _ (i+1) n x (by simpa using h)]
  congr 1;omega
def mustP (l:List Item) (n:Nat):Bool:=match l[n]? with|some x=>q05z x|none=>true
def mayN (l:List Item) (n:Nat):Bool:=mayV l n
def pos (a:Int):Nat:=(max a 0).toNat
def q010 (l:List Item) (a:Int):Int:=seekP (mustP l) (l.length-pos a) (pos a+1)
def q015 (l:List Item) (a:Int):Int:=seekP (mayN l) (l.length-pos a) (pos a+1)
def brkN (l:List Item) (a:Int):List Nat:=(List.range' (pos a+1) (l.length-pos a)).filter fun (m:Nat)=>decide ((m:Int)<=q010 l a)&&mayN l m
def brkF (l:List Item) (a:Int):List Int:=(brkN l a).map Int.ofNat
theorem q07g (p:Nat->Bool): ∀(k n:Nat),seekP p k n= -1\/((n:Int)<=seekP p k n/\seekP p k n<n+k/\p (seekP p k n).toNat=true)
 |0,n=> .inl rfl
 |k+1,n=>by
  rw [seekP]
  by_cases h:p n=true
  ·rw [if_pos h];exact .inr ⟨by omega,by omega,by simpa using h⟩
  ·rw [if_neg h]
   rcases q07g p k (n+1) with h1|⟨h1,h2,h3⟩
   ·exact .inl h1
   ·exact .inr ⟨by omega,by omega,h3⟩
theorem q0Cr (l:List Item) (hl:l.length<=1000000) (n:Nat) (H:Heap):clD EE (.fn (.func 219) [q00d l] []) [vI n] H=some (vB (mayN l n),none):=by
 rw [q02m];exact q0Co l hl n H
theorem q0bs (l:List Item) (hl:l.length<=1000000) (a:Int) (H:Heap):clD EE (.p (.fn 259)) [q00d l,vI a] H=some (vI (q015 l a),none):=by
 rw [q002 _ _ _ _ _ _ (noP _) fn259]
 have l2:=fun H=>q021 l H
 unfold q015 pos
 by_cases c:(l.length:Int)<=a
 ·have e:l.length-(max a 0).toNat=0:=by omega
  rw [e]
  simp [zEa,l2,c,seekP]
 ·have w:IntKind.i64.wrap (max a 0+1)=(((max a 0).toNat+1:Nat):Int):=by
   have e:(((max a 0).toNat+1:Nat):Int)=max a 0+1:=by omega
   rw [e];exact w64 (by omega) (by omega)
  by_cases d:(max a 0).toNat+1<=l.length+1
  ·have s:=fun H=>q0hc l ((max a 0).toNat+1) (.fn (.func 219) [q00d l] []) (mayN l) hl H (fun n hn=>q0Cr l hl n H) d rfl rfl
   have e:l.length+1-((max a 0).toNat+1)=l.length-(max a 0).toNat:=by omega
   rw [e] at s
   generalize (max a 0).toNat+1=z at*
   simp only [q00d] at l2 s⊢
   simp [zEa,l2,c,w,s]
  ·omega
end Go.EnvOf
namespace Go.EnvOf
open Go Go.Eng
set_option maxRecDepth 100000
def sumL {α:Type} (f:List Item->α) (z:α) (l:List Item) (i:Nat):List α:=(List.range (l.length+1)).map fun k=>if k<=i then f (l.take k) else z
theorem q060 {α:Type} (f:List Item->α) (z:α) (l:List Item) (i:Nat):(sumL f z l i).length=l.length+1:=by simp [sumL]
theorem q0n3 {α:Type} (f:List Item->α) (z:α) (l:List Item) (i k:Nat) (h:k<=i) (hk:k<=l.length):(sumL f z l i)[k]? =some (f (l.take k)):=by simp [sumL,h,show k<l.length+1 by omega]
theorem q0n4 {α:Type} (f:List Item->α) (z:α) (l:List Item) (i:Nat) (h:i<l.length):(sumL f z l i)[i+1]? =some z:=by simp [sumL,h];omega
theorem q0n5 {α:Type} (f:List Item->α) (z:α) (l:List Item) (i:Nat):(sumL f z l i).set (i+1) (f (l.take (i+1)))=sumL f z l (i+1):=by
 apply List.ext_getElem?
 intro k
 rw [List.getElem?_set]
 by_cases hk:k<l.length+1
 ·by_cases e:i+1=k
  ·subst e;simp [sumL,hk]
  ·rw [if_neg e]
   simp only [sumL,List.getElem?_map,List.getElem?_range hk,ZH]
   by_cases h:k<=i
   ·rw [if_pos h,if_pos (by omega)]
   ·rw [if_neg h,if_neg (by omega)]
 ·have e1:(sumL f z l (i+1))[k]? =none:=ZF (by rw [q060];omega)
  have e2:(sumL f z l i)[k]? =none:=ZF (by rw [q060];omega)
  rw [e1,e2]
  by_cases e:i+1=k
  ·subst e;rw [if_pos rfl,if_neg (by rw [q060];omega)]
  ·rw [if_neg e]
theorem q0z9 {α:Type} (f:List Item->α) (z:α) (l:List Item):sumL f z l l.length=preL f l (l.length+1):=by
 unfold sumL preL
 apply List.map_congr_left
 intro k hk
 have:=List.mem_range.1 hk
 rw [if_pos (by omega)]
theorem q0j9 {α:Type} (f:List Item->α) (z:α) (l:List Item) (h:f []=z):sumL f z l 0=List.replicate (l.length+1) z:=by
 apply List.ext_getElem?
 intro k
 by_cases hk:k<l.length+1
 ·simp only [sumL,List.getElem?_map,List.getElem?_range hk,ZH,List.getElem?_replicate,if_pos hk]
  by_cases e:k<=0
  ·have:k=0:=by omega
   subst this;simp [h]
  ·rw [if_neg e]
 ·rw [ZF (by rw [q060];omega),ZF (by simp;omega)]
def suH (l:List Item) (i:Nat):Heap:=[DObj.row 6 (upV ((sumL totP zeroT l i).map q020)),DObj.row 1 (upV ((sumL boxP 0 l i).map encI))]
def suE (l:List Item) (i:Nat):St:=
 ⟨[(0,q006 l),(4,.lptr 21 0),(23,vI l.length),(24,vI i)],[(21,[q006 l,.row 0 (l.length+1) 0 (l.length+1),.row 1 (l.length+1) 0 (l.length+1)])],suH l i,0,[]⟩
def suX (l:List Item):Ex×St:=
 (.exit 0,⟨[(0,q006 l),(4,.lptr 21 0),(23,vI l.length),(24,vI l.length),(25,vB false)],[(21,[q006 l,.row 0 (l.length+1) 0 (l.length+1),.row 1 (l.length+1) 0 (l.length+1)])],suH l l.length,0,[]⟩)
set_option maxHeartbeats 1000000 in
theorem q0Eu (l:List Item) (hl:l.length<=4096) (hf: ∀x∈l,fairI x) (i:Nat) (x:Item) (hx:l[i]? =some x): ∃c,q0Wd= .loop [0,4,23,24] [21] c/\evD EE c (suE l i)=some (.normal,suE l (i+1)):=by
 refine ⟨_,rfl,?_⟩
 have hlt:=(Za.1 hx).1
 have w:IntKind.i64.wrap ((i:Int)+1)=((i+1:Nat):Int):=w64 (by omega) (by omega)
 have hix:=fun H k=>q00c H q004 (k:=k) (s:=7) hx rfl
 have ts:=q03n hx
 have fx:=hf x (Zp hx)
 have ft: ∀y∈l.take i,fairI y:=fun y hy=>hf y (Z6 hy)
 have ft1: ∀y∈l.take (i+1),fairI y:=fun y hy=>hf y (Z6 hy)
 have hlen:(l.take i).length=i:=by rw [ZC];omega
 have hlen1:(l.take (i+1)).length=i+1:=by rw [ZC];omega
 have t1:=q0iy (l.take i) x
 have b1:=q0v2 (l.take i) x
 rw [<-ts] at t1 b1
 have q1:=q0hb _ ft
 have q2:=q0hb _ ft1
 have q3:=q0pp _ ft
 have q4:=q0pp _ ft1
 rw [hlen] at q1 q3
 rw [hlen1] at q2 q4
 have it:=fun H=>q0mx x H
 have sf:=fun H=>q0yy (totI x) (q0ch fx) H
 have ta:=fun H=>q0va (totP (l.take i)) (totI x) (q04g q1 (by omega)) (q04g (q0ch fx) (by omega)) (by rw [<-t1];exact q04g q2 (by omega)) H
 rw [<-t1] at ta
 have g1:(upV ((sumL totP zeroT l i).map q020))[i]? =some ((q020 (totP (l.take i))).map V.p):=by simp [q05v,q0n3 totP zeroT l i i (Zm _) (by omega)]
 have g2:(upV ((sumL totP zeroT l i).map q020))[i+1]? =some ((q020 zeroT).map V.p):=by simp [q05v,q0n4 totP zeroT l i hlt]
 have g3:(upV ((sumL boxP 0 l i).map encI))[i]? =some [vI (boxP (l.take i))]:=by simp [q05v,q0n3 boxP 0 l i i (Zm _) (by omega),encI]
 have g4:(upV ((sumL boxP 0 l i).map encI))[i+1]? =some [vI 0]:=by simp [q05v,q0n4 boxP 0 l i hlt,encI]
 have s1:(upV ((sumL totP zeroT l i).map q020)).set (i+1) ((q020 (totP (l.take (i+1)))).map V.p)=upV ((sumL totP zeroT l (i+1)).map q020):=by rw [q06r,q0n5]
 have s2:(upV ((sumL boxP 0 l i).map encI)).set (i+1) [vI (boxP (l.take (i+1)))]=upV ((sumL boxP 0 l (i+1)).map encI):=by
  have:=q06r encI (sumL boxP 0 l i) (i+1) (boxP (l.take (i+1)))
  rw [q0n5] at this
  exact this
 have n1:(upV ((sumL totP zeroT l i).map q020)).length=l.length+1:=by simp [q060]
 have n2:(upV ((sumL boxP 0 l i).map encI)).length=l.length+1:=by simp [q060]
 have hlt1:i<l.length+1:=by omega
 have hlt2:i+1<l.length+1:=by omega
 have x0: ∀a b:V,[a,b][0]? =some a:=fun _ _=>rfl
 have x1: ∀a b:V,[a,b][1]? =some b:=fun _ _=>rfl
 have wb:IntKind.i64.wrap (boxP (l.take i)+x.h)=boxP (l.take i)+x.h:=w64 (by have:=fx.h;omega) (by have:=fx.h;omega)
 unfold suE suH
 generalize totP (l.take (i+1))=T1 at*
 generalize totP (l.take i)=T0 at*
 generalize totI x=TI at*
 generalize hB1:boxP (l.take (i+1))=P1 at*
 generalize boxP (l.take i)=P0 at*
 generalize upV ((sumL totP zeroT l i).map q020)=A1 at*
 generalize upV ((sumL totP zeroT l (i+1)).map q020)=A2 at*
 generalize upV ((sumL boxP 0 l i).map encI)=B1 at*
 generalize upV ((sumL boxP 0 l (i+1)).map encI)=B2 at*
 simp only [q020,zeroT,Zo,ZL] at g1 g2 s1
 have g5: ∀v:List V,(B1.set (i+1) v)[i+1]? =some v:=fun v=>by rw [ZX (by omega)]
 unfold boxI1 at b1
 have ir:=fun H id tot off len s=>q01f H id tot off len s .i64 (i+1)
 simp only [Int.natCast_add,Int.natCast_one] at ir
 by_cases k1:x.k=1
 ·rw [if_pos k1] at b1
  subst b1
  simp only [vItem,k1] at it
  simp [-getElem?_pos,hlt,hix,q004,subs,q001,w,it,sf,ta,g1,g2,g3,g4,g5,s1,s2,n1,n2,hlt1,hlt2,x0,x1,q01f,ir,k1,wb]
 ·rw [if_neg k1,Int.add_zero] at b1
  subst b1
  simp [-getElem?_pos,hlt,hix,q004,subs,q001,w,it,sf,ta,g1,g2,g3,g4,s1,s2,n1,n2,hlt1,hlt2,x0,x1,q01f,ir,k1]
theorem q0Ev (l:List Item) (hl:l.length<=4096) (hf: ∀x∈l,fairI x):evD EE q0Wd (suE l 0)=some (suX l):=by
 unfold q0Wd
 refine Eq.trans (q00u l (fun (_:Unit) i=>suE l i) (fun _ _=>True) (fun _ _ _=>()) (fun _=>suX l) (fun _ _=>rfl) ?_ ?_ () 0 trivial (Zj _)) rfl
 ·rintro _ i x-hx
  obtain ⟨c',h1,h2⟩:=q0Eu l hl hf i x hx
  simp only [q0Wd,IC.loop.injEq] at h1
  obtain ⟨-,-,rfl⟩:=h1
  exact ⟨h2,trivial⟩
 ·rintro _-
  simp [suE,suX]
theorem q0vi (l:List Item) (hl:l.length<=4096) (hf: ∀x∈l,fairI x):zR (clD EE (.p (.fn 55)) [q006 l] [])=some (.tup [q00r l,vB true]):=by
 rw [q002 _ _ _ _ _ _ (noP _) fn55]
 have c:=q05o l (by omega)
 have k:=q0Ev l hl hf
 have w:IntKind.i64.wrap ((l.length:Int)+1)=((l.length+1:Nat):Int):=w64 (by omega) (by omega)
 have hm:l.length+1<most:=by unfold most;omega
 have h9: ¬(4096:Int)<l.length:=by omega
 have e1:List.replicate (l.length+1) [vI 0,vI 0,vI 0,vI 0,vI 0,vI 0]=upV ((sumL totP zeroT l 0).map q020):=by rw [q0j9 totP zeroT l rfl];simp [upV,q020,zeroT]
 have e2:List.replicate (l.length+1) [vI 0]=upV ((sumL boxP 0 l 0).map encI):=by rw [q0j9 boxP 0 l rfl];simp [upV,encI]
 have p0:0<(l.length:Int)+1:=by omega
 have pt:((l.length:Int)+1).toNat=l.length+1:=by omega
 simp only [suE,suX,suH,q0z9] at k
 have f1:=fun T=>q04f (H:=DObj.row 6 (upV ((preL totP l (l.length+1)).map q020))::T) (id:=0) (n:=l.length+1) rfl (by simp [q04d])
 have f2:=fun R T=>q04f (H:=R::DObj.row 1 (upV ((preL boxP l (l.length+1)).map encI))::T) (id:=1) (n:=l.length+1) rfl (by simp [q04d])
 generalize upV ((sumL totP zeroT l 0).map q020)=A at*
 generalize upV ((sumL boxP 0 l 0).map encI)=B at*
 simp at k
 simp [zEc,solN,sd,c,h9,w,hm,p0,pt,e1,e2,k,allO,q00r,f1,f2,q06z]
def anH (l:List Item) (fs:List Float) (n:Nat):Heap:=[DObj.row 1 (upV ((preL q01a l n).map encI)),DObj.row 3 (upV ((preL (q00n fs) l n).map encC3)),DObj.row 3 (upV ((preL (dueP fs) l n).map encC3))]
def anE (l:List Item) (fs:List Float) (i:Nat):St:=
 ⟨[(1,q005 fs),(5,.lptr 21 0),(22,q006 l),(23,vI l.length),(24,vI i)],[(21,[q006 l,.row 0 (i+1) 0 (i+1),.row 1 (i+1) 0 (i+1),.row 2 (i+1) 0 (i+1)])],anH l fs (i+1),0,[]⟩
def anX (l:List Item) (fs:List Float):Ex×St:=
 (.exit 0,⟨[(1,q005 fs),(5,.lptr 21 0),(22,q006 l),(23,vI l.length),(24,vI l.length),(25,vB false)],[(21,[q006 l,.row 0 (l.length+1) 0 (l.length+1),.row 1 (l.length+1) 0 (l.length+1),.row 2 (l.length+1) 0 (l.length+1)])],anH l fs (l.length+1),0,[]⟩)
theorem q0hd {α:Type} (enc:α->List PV) (f:List Item->α) (l:List Item) (n:Nat):upV ((preL f l n).map enc)++upV [enc (f (l.take n))]=upV ((preL f l (n+1)).map enc):=by
 rw [q0v1];simp [upV]
theorem q0za (l:List Item) (fs:List Float) (hl:l.length<=1000000) (i:Nat) (x:Item) (hx:l[i]? =some x): ∃c,q0We= .loop [1,5,22,23,24] [21] c/\evD EE c (anE l fs i)=some (.normal,anE l fs (i+1)):=by
 refine ⟨_,rfl,?_⟩
 have hlt:=(Za.1 hx).1
 have w:IntKind.i64.wrap ((i:Int)+1)=((i+1:Nat):Int):=w64 (by omega) (by omega)
 have hix:=fun H k=>q00c H q004 (k:=k) (s:=7) hx rfl
 have ts:=q03n hx
 have b1:=q0oa (l.take i) x
 have a1:=q0db fs (l.take i) x
 have d1:=q0bo fs (l.take i) x
 rw [<-ts] at b1 a1 d1
 have g1:(upV ((preL q01a l (i+1)).map encI))[i]? =some [vI (q01a (l.take i))]:=by simp [q05v,q04e q01a l (i+1) i (by omega),encI]
 have g2:(upV ((preL (q00n fs) l (i+1)).map encC3))[i]? =some [vI (q00n fs (l.take i)).a,vI (q00n fs (l.take i)).b,vI (q00n fs (l.take i)).c]:=by simp [q05v,q04e (q00n fs) l (i+1) i (by omega),encC3]
 have g3:(upV ((preL (dueP fs) l (i+1)).map encC3))[i]? =some [vI (dueP fs (l.take i)).a,vI (dueP fs (l.take i)).b,vI (dueP fs (l.take i)).c]:=by simp [q05v,q04e (dueP fs) l (i+1) i (by omega),encC3]
 have p1:=q0hd encI q01a l (i+1)
 have p2:=q0hd encC3 (q00n fs) l (i+1)
 have p3:=q0hd encC3 (dueP fs) l (i+1)
 have n1:(upV ((preL q01a l (i+1)).map encI)).length=i+1:=by simp [q04d]
 have n2:(upV ((preL (q00n fs) l (i+1)).map encC3)).length=i+1:=by simp [q04d]
 have n3:(upV ((preL (dueP fs) l (i+1)).map encC3)).length=i+1:=by simp [q04d]
 have bb:=q0iw (l.take i)
 have ab:=q0ix fs (l.take i)
 have hlen:(l.take i).length=i:=by rw [ZC];omega
 rw [hlen] at bb ab
 have wb:IntKind.i64.wrap (q01a (l.take i)+1)=q01a (l.take i)+1:=w64 (by omega) (by omega)
 have wa:IntKind.i64.wrap ((q00n fs (l.take i)).a+1)=(q00n fs (l.take i)).a+1:=w64 (by omega) (by omega)
 have wb2:IntKind.i64.wrap ((q00n fs (l.take i)).b+1)=(q00n fs (l.take i)).b+1:=w64 (by omega) (by omega)
 have wc:IntKind.i64.wrap ((q00n fs (l.take i)).c+1)=(q00n fs (l.take i)).c+1:=w64 (by omega) (by omega)
 have hm:i+1+1<most:=by unfold most;omega
 have hat:=fun H=>at_ev fs x.n H
 have x0: ∀a b:V,[a,b][0]? =some a:=fun _ _=>rfl
 have x1: ∀a b:V,[a,b][1]? =some b:=fun _ _=>rfl
 simp only [encI,encC3,b1,a1,d1] at p1 p2 p3
 unfold anE anH
 generalize q01a (l.take i)=b at*
 generalize hA:q00n fs (l.take i)=A at*
 generalize hD:dueP fs (l.take i)=D at*
 generalize upV ((preL q01a l (i+1)).map encI)=B1 at*
 generalize upV ((preL (q00n fs) l (i+1)).map encC3)=A1 at*
 generalize upV ((preL (dueP fs) l (i+1)).map encC3)=D1 at*
 generalize upV ((preL q01a l (i+1+1)).map encI)=B2 at*
 generalize upV ((preL (q00n fs) l (i+1+1)).map encC3)=A2 at*
 generalize upV ((preL (dueP fs) l (i+1+1)).map encC3)=D2 at*
 unfold addAt at p2
 by_cases k5:x.k=5
 ·simp only [k5,if_true,show¬(5:Int)=6 by decide,show¬(5:Int)=7 by decide,if_false] at p1 p2 p3
  simp [-getElem?_pos,hlt,hix,q004,subs,q001,g1,g2,g3,n1,n2,n3,w,hm,p1,p2,p3,apoB,okEl,q01f,x0,x1,k5,wb]
 ·by_cases k6:x.k=6
  ·simp only [k6,if_true,show¬(6:Int)=5 by decide,show¬(6:Int)=7 by decide,if_false,Int.add_zero] at p1 p2 p3
   unfold ofS at p2
   cases hf:atF fs x.n with
   |none=>
    simp only [hf] at p2 hat
    simp [-getElem?_pos,hlt,hix,q004,subs,q001,g1,g2,g3,n1,n2,n3,w,hm,p1,p2,p3,apoB,okEl,q01f,x0,x1,k6,hat]
   |some f=>
    simp only [hf] at p2 hat
    unfold bump at p2
    by_cases d0:f.c=0
    ·simp only [d0,if_true] at p2
     simp [-getElem?_pos,hlt,hix,q004,subs,q001,g1,g2,g3,n1,n2,n3,w,hm,p1,p2,p3,apoB,okEl,q01f,x0,x1,k6,hat,d0,ixaV,q007,wa]
    ·by_cases d1:f.c=1
     ·simp only [d1,if_true,show¬(1:Int)=0 by decide,if_false] at p2
      simp [-getElem?_pos,hlt,hix,q004,subs,q001,g1,g2,g3,n1,n2,n3,w,hm,p1,p2,p3,apoB,okEl,q01f,x0,x1,k6,hat,d1,ixaV,q007,wb2]
     ·by_cases d2:f.c=2
      ·simp only [d2,if_true,show¬(2:Int)=0 by decide,show¬(2:Int)=1 by decide,if_false] at p2
       simp [-getElem?_pos,hlt,hix,q004,subs,q001,g1,g2,g3,n1,n2,n3,w,hm,p1,p2,p3,apoB,okEl,q01f,x0,x1,k6,hat,d2,ixaV,q007,wc]
      ·simp only [d0,d1,d2,if_false] at p2
       by_cases d3:f.c<0
       ·simp [-getElem?_pos,hlt,hix,q004,subs,q001,g1,g2,g3,n1,n2,n3,w,hm,p1,p2,p3,apoB,okEl,q01f,x0,x1,k6,hat,show¬0<=f.c by omega]
       ·simp [-getElem?_pos,hlt,hix,q004,subs,q001,g1,g2,g3,n1,n2,n3,w,hm,p1,p2,p3,apoB,okEl,q01f,x0,x1,k6,hat,show 0<=f.c by omega,show¬f.c<3 by omega]
  ·by_cases k7:x.k=7
   ·simp only [k7,if_true,show¬(7:Int)=5 by decide,show¬(7:Int)=6 by decide,if_false,Int.add_zero] at p1 p2 p3
    by_cases q1:D.a=A.a
    ·by_cases q2:D.b=A.b
     ·by_cases q3:D.c=A.c
      ·simp [-getElem?_pos,hlt,hix,q004,subs,q001,g1,g2,g3,n1,n2,n3,w,hm,p1,p2,p3,apoB,okEl,q01f,x0,x1,k7,q1,q2,q3]
      ·simp [-getElem?_pos,hlt,hix,q004,subs,q001,g1,g2,g3,n1,n2,n3,w,hm,p1,p2,p3,apoB,okEl,q01f,x0,x1,k7,q1,q2,q3]
     ·simp [-getElem?_pos,hlt,hix,q004,subs,q001,g1,g2,g3,n1,n2,n3,w,hm,p1,p2,p3,apoB,okEl,q01f,x0,x1,k7,q1,q2]
    ·simp [-getElem?_pos,hlt,hix,q004,subs,q001,g1,g2,g3,n1,n2,n3,w,hm,p1,p2,p3,apoB,okEl,q01f,x0,x1,k7,q1]
   ·simp only [k5,k6,k7,if_false,Int.add_zero] at p1 p2 p3
    simp [-getElem?_pos,hlt,hix,q004,subs,q001,g1,g2,g3,n1,n2,n3,w,hm,p1,p2,p3,apoB,okEl,q01f,x0,x1,k5,k6,k7]
theorem q0zb (l:List Item) (fs:List Float) (hl:l.length<=1000000):evD EE q0We (anE l fs 0)=some (anX l fs):=by
 unfold q0We
 refine Eq.trans (q00u l (fun (_:Unit) i=>anE l fs i) (fun _ _=>True) (fun _ _ _=>()) (fun _=>anX l fs) (fun _ _=>rfl) ?_ ?_ () 0 trivial (Zj _)) rfl
 ·rintro _ i x-hx
  obtain ⟨c',h1,h2⟩:=q0za l fs hl i x hx
  simp only [q0We,IC.loop.injEq] at h1
  obtain ⟨-,-,rfl⟩:=h1
  exact ⟨h2,trivial⟩
 ·rintro _-
  simp [anE,anX]
theorem q0vj (l:List Item) (fs:List Float) (hl:l.length<=1000000):zR (clD EE (.p (.fn 57)) [q006 l,q005 fs] [])=some (vMapW l fs):=by
 rw [q002 _ _ _ _ _ _ (noP _) fn57]
 have c:=q05o l hl
 have k:=q0zb l fs hl
 have e1:upV ((preL q01a l 1).map encI)=[[vI 0]]:=by simp [preL,upV,encI,q01a,cnt]
 have e2:upV ((preL (q00n fs) l 1).map encC3)=[[vI 0,vI 0,vI 0]]:=by simp [preL,upV,encC3,q00n]
 have e3:upV ((preL (dueP fs) l 1).map encC3)=[[vI 0,vI 0,vI 0]]:=by simp [preL,upV,encC3,dueP]
 simp only [anE,anX,anH,Zs,e1,e2,e3] at k
 simp at k
 have f1:=fun T=>q04f (H:=DObj.row 1 (upV ((preL q01a l (l.length+1)).map encI))::T) (id:=0) (n:=l.length+1) rfl (by simp [q04d])
 have f2:=fun R T=>q04f (H:=R::DObj.row 3 (upV ((preL (q00n fs) l (l.length+1)).map encC3))::T) (id:=1) (n:=l.length+1) rfl (by simp [q04d])
 have f3:=fun R R' T=>q04f (H:=R::R'::DObj.row 3 (upV ((preL (dueP fs) l (l.length+1)).map encC3))::T) (id:=2) (n:=l.length+1) rfl (by simp [q04d])
 simp [zEc,solN,sd,c,k,allO,vMapW,f1,f2,f3,rowI,okEl]
theorem q0zc (env:List (Nat×V)) (loc:List (Nat×List V)) (H:Heap) (l:List Note) (x:Note) (hm:l.length+1<most):
  appV ⟨env,loc,H++rowsG 2 q00e l,H.length,[]⟩ (q00k H.length l) (.p (.sl [q00e x])) 2=some (q00k H.length (l++[x]),⟨env,loc,H++rowsG 2 q00e (l++[x]),H.length,[]⟩):=
 q08t env loc H H.length [] 2 q00e l x rfl hm (Zm _)
def q0n6:List V:=[vI 0,vI 0,vI 0,vI 0,vI 0,vI 0,vI 0,vI 0,vI 0,vI 0,vI 0,vI 0,vI 0,vI 0,vI 0,vI 0,vI 0,vI 0,vB false,.nils,.nils,.nils]
def cpE (j:Job) (H:Heap) (M:List Note) (i:Nat):St:=
 ⟨[(2,.lptr 2 0),(3,.lptr 3 0),(16,q00b j.notes),(17,vI j.notes.length),(18,vI i)],[(2,q0n6),(3,cGeom j.g++[q006 j.items,q00k H.length M,q005 j.floats])],H++rowsG 2 q00e M,H.length,[]⟩
def cpX (j:Job) (H:Heap):Ex×St:=
 (.exit 0,⟨[(2,.lptr 2 0),(3,.lptr 3 0),(16,q00b j.notes),(17,vI j.notes.length),(18,vI j.notes.length),(19,vB false)],[(2,q0n6),(3,cGeom j.g++[q006 j.items,q00k H.length j.notes,q005 j.floats])],H++rowsG 2 q00e j.notes,H.length,[]⟩)
theorem cp_lp (j:Job) (n2:j.notes.length<=1000000) (hn: ∀n∈j.notes,n.lines.length<=1000000/\n.pens.length<=1000000) (H:Heap):evD EE q0Xe (cpE j H [] 0)=some (cpX j H):=by
 unfold q0Xe
 refine Eq.trans (q00u j.notes (fun (_:Unit) i=>cpE j H (j.notes.take i) i) (fun _ _=>True) (fun _ _ _=>()) (fun _=>cpX j H) (fun _ _=>rfl) ?_ ?_ () 0 trivial (Zj _)) rfl
 ·rintro _ i x-hx
  refine ⟨?_,trivial⟩
  have hlt:=(Za.1 hx).1
  have w:IntKind.i64.wrap ((i:Int)+1)=((i+1:Nat):Int):=w64 (by omega) (by omega)
  have hix:=fun H k=>q00c H q00e (k:=k) (s:=2) hx rfl
  obtain ⟨l1,l2⟩:=hn x (Zp hx)
  have c1:=q0rj x.lines l1
  have c2:=q0ob x.pens l2
  have hlen:(j.notes.take i).length=i:=by rw [ZC];omega
  have ha:=fun env loc=>q0zc env loc H (j.notes.take i) x (by rw [hlen];unfold most;omega)
  rw [q03n hx]
  generalize j.notes.take i=M at*
  simp only [q00e] at hix ha
  simp only [cpE,cGeom,Zd,Zf]
  simp [-q08l,hlt,hix,subs,q001,solN,sd,w,c1,c2,ha]
 ·rintro _-
  simp only [cpE,cpX,List.take_length]
  simp [subs]
theorem q0vk (j:Job) (n1:j.items.length<=1000000) (n2:j.notes.length<=1000000) (n3:j.floats.length<=1000000) (hn: ∀n∈j.notes,n.lines.length<=1000000/\n.pens.length<=1000000) (H:Heap):clD EE (.p (.fn 53)) [vJob j] H=some (vJob j,none):=by
 rw [q002 _ _ _ _ _ _ (noP _) fn53]
 have c1:=q05o j.items n1
 have c2:=q0jx j.floats n3
 have k:=cp_lp j n2 hn H
 have f2:=fun env loc=>q07b env loc (H++rowsG 2 q00e j.notes) H.length [] H.length 2 q00e j.notes (by
  have:=q09q 2 q00e H [] j.notes
  simpa using this) (Zm _)
 simp only [cpE,cpX,q0n6,cGeom,Zd,Zf] at k
 simp only [vJob,cGeom,Zd,Zf]
 generalize hu:q00k H.length j.notes=u at*
 have o:u.oneB=true:=by rw [<-hu];simp
 have p:u.cells=[u]:=by rw [<-hu];simp
 clear hu
 generalize H++rowsG 2 q00e j.notes=G at*
 simp at k
 simp [zEc,solN,sd,c1,c2,k,f2,o,p]
def encNp (n:Note):List Int×List Int:=(n.lines,n.pens)
theorem q0n7 (l:List Note):q037 (l.map encNp)=lineN l:=by
 induction l with
 |nil=>rfl
 |cons n r ih=>simp only [Zo,q037,List.foldr_cons,lineN,List.sum_cons] at ih⊢;rw [ih];rfl
theorem q0n8 (l:List Note) (H:Heap) (hl:l.length<=1000000) (hs:lineN l<=9223372036854775807):clD EE (.p (.fn 59)) [q00b l] H=some (vI (lineN l),none):=by
 have h:=q0yl (l.map encNp) H (by simpa using hl) (by rw [q0n7];exact hs)
 rw [q0n7] at h
 unfold notes at h
 rw [List.map_map] at h
 exact h
theorem q0zd (l:List Note) (h: ∀n∈l,n.lines.length<=1000000):0<=lineN l/\lineN l<=1000000*l.length:=by
 induction l with
 |nil=>simp [lineN]
 |cons n r ih=>
  have h1:=h n ZE
  have h2:=ih fun m hm=>h m (Zv _ hm)
  simp only [lineN,Zo,List.sum_cons,Zg] at h2⊢
  omega
def cutV {α:Type} (enc:α->List PV) (l:List α) (p:Nat):V:=if p=0 then .nils else .p (.sl ((l.take p).map enc))
section
variable {α:Type} (enc:α->List PV) (l:List α) (p:Nat)
@[simp] theorem q0R9:(cutV enc l p).oneB=true:=by unfold cutV;split<;>rfl
@[simp] theorem q0Nu:(cutV enc l p).cells=[cutV enc l p] :=by unfold cutV;split<;>rfl
@[simp] theorem q0Ra:(cutV enc l p).notL=true:=by unfold cutV;split<;>rfl
@[simp] theorem q0Nv:normC (cutV enc l p)= .p (.sl ((l.take p).map enc)):=by
  unfold cutV;split
  ·rename_i h0;subst h0;rfl
  ·rfl
theorem q0ze (s:Nat) (hs: ∀x,(enc x).length=s) (H:Heap) (k:IntKind) (h:p<=l.length):slcI H s (.p (.sl (l.map enc))) none (some (.p (.int k (p:Int))))=some (.p (.sl ((l.take p).map enc))):=by
 have hh:q066 s (l.map enc)=true:=by
  cases l with
  |nil=>rfl
  |cons x r=>simp [q066,hs]
 have h2:(p:Int)<=l.length:=by omega
 simp [slcI,slcV,hh,h2]
end
abbrev textH (j:Job):Heap:=[DObj.box [q00d j.items,q00r j.items,vMapW j.items j.floats]]
def nwS (j:Job) (i:Nat):St:=
 ⟨[(1,.lptr 1 0),(6,.lptr 35 0),(53,vI (j.notes.length+1)),(54,vI i)],[(1,cJobW j),(35,.ptr 0 0::(cJobW j++[q00k 1 ((List.range i).map fun k=>lineN (j.notes.take k)),vI (allS j).a,vI (allS j).b,vI (allS j).c]))],
   textH j++rowsG 1 encI ((List.range i).map fun k=>lineN (j.notes.take k)),0,[]⟩
def nwX (j:Job):Ex×St:=
 (.exit 0,⟨[(1,.lptr 1 0),(6,.lptr 35 0),(53,vI (j.notes.length+1)),(54,vI (j.notes.length+1)),(55,vB false)],[(1,cJobW j),(35,.ptr 0 0::(cJobW j++[q00k 1 (preN j.notes),vI (allS j).a,vI (allS j).b,vI (allS j).c]))],
  textH j++rowsG 1 encI (preN j.notes),0,[]⟩)
theorem nw_lp (j:Job) (n2:j.notes.length<=1000000) (hn: ∀n∈j.notes,n.lines.length<=1000000):evD EE q0U8 (nwS j 0)=some (nwX j):=by
 unfold q0U8
 refine Eq.trans (q00u (List.range (j.notes.length+1)) (fun (_:Unit) i=>nwS j i) (fun _ _=>True) (fun _ _ _=>()) (fun _=>nwX j) (fun _ _=>rfl) ?_ ?_ () 0 trivial (Zj _)) rfl
 ·rintro _ i x-hx
  refine ⟨?_,trivial⟩
  have hlt:i<j.notes.length+1:=by have:=(Za.1 hx).1;simpa using this
  have w:IntKind.i64.wrap ((i:Int)+1)=((i+1:Nat):Int):=w64 (by omega) (by omega)
  have hl2:(i:Int)<(j.notes.length:Int)+1:=by omega
  have sc:=fun H k=>q0ze q00e j.notes i 2 (fun _=>rfl) H k (by omega)
  have lb:=q0zd (j.notes.take i) (fun n h=>hn n (Z6 h))
  have ll:(j.notes.take i).length<=1000000:=by rw [ZC];omega
  have nl:=fun H=>q0n8 (j.notes.take i) H ll (by omega)
  have ha:=fun env loc=>q08t env loc (textH j) 0 [] 1 encI ((List.range i).map fun k=>lineN (j.notes.take k)) (lineN (j.notes.take i)) rfl (by simp;unfold most;omega) (Zj _)
  have er:(List.range (i+1)).map (fun k=>lineN (j.notes.take k))=(List.range i).map (fun k=>lineN (j.notes.take k))++[lineN (j.notes.take i)]:=by simp [List.range_succ]
  unfold nwS
  rw [er]
  generalize (List.range i).map (fun k=>lineN (j.notes.take k))=M at*
  generalize lineN (j.notes.take i)=y at*
  simp only [textH,Zg,Zq,Zs,encI] at ha
  simp only [q00b,List.map_take] at nl sc
  simp only [textH,cJobW,cGeom,Zd,Zf,encI] at ha⊢
  simp [-q08l,hl2,subs,q001,w,sc,nl,ha]
 ·rintro _-
  simp only [nwS,nwX,List.length_range,preN,cJobW,cGeom,Zd,Zf]
  simp
theorem q0Cs (j:Job) (ok:okJob j) (okS:okJob (snapG j)) (hp: ∀n∈(snapG j).notes,n.lines.length<=1000000/\n.pens.length<=1000000):
  zR (clD EE (.p (.fn 14)) [vJob j] [])=some (if (q02q j).1=0 then .tup [vW (snapG j),vB true] else .tup [.p .nilp,vB false]):=by
 rw [q002 _ _ _ _ _ _ (noP _) fn14]
 have hr:=fun H=>q0ju j ok (q0d7 ok.n3) H
 have hs:=fun H=>q0pi j ok H
 have hc:=fun H=>q0vk (snapG j) okS.n1 okS.n2 okS.n3 hp H
 by_cases h:(q02q j).1=0
 ·rw [if_pos h]
  have r:=(q0it j).1 h
  have hs2:=q0vi (snapG j).items (by rw [q0v4];have:=r.n1;omega) (q0iz r)
  have hv:=q0rk (snapG j).items okS.n1
  have ha:=q0vj (snapG j).items (snapG j).floats okS.n1
  have hal:=fun H=>q09v (snapG j).items (snapG j).floats (snapG j).items.length H
  have e:q00n (snapG j).floats ((snapG j).items.take (putN (snapG j).items (snapG j).items.length))=allS (snapG j):=by
   rw [q0Ce (Zm _),List.take_length];rfl
  simp only [e] at hal
  have k:=nw_lp (snapG j) okS.n2 (fun n hn=>(hp n hn).1)
  have w:IntKind.i64.wrap (((snapG j).notes.length:Int)+1)=((snapG j).notes.length:Int)+1:=w64 (by have:=okS.n2;omega) (by have:=okS.n2;omega)
  simp only [h,decide_true] at hr
  have hne:preN (snapG j).notes≠[]:=by simp [preN]
  have hlen:(preN (snapG j).notes).length=(snapG j).notes.length+1:=by simp [preN]
  generalize snapG j=J at*
  have f1:=fun R T=>q04f (H:=R::DObj.row 1 (upV ((preN J.notes).map encI))::T) (id:=1) (n:=(preN J.notes).length) rfl (by simp)
  simp only [nwS,nwX,textH,cJobW,cGeom,Zd,Zf,q00k,rowsG,if_neg hne,List.range_zero,ZL,if_true] at k
  simp only [vJob,cGeom,Zd,Zf] at hr hs hc⊢
  simp at k
  simp [zEc,solN,sd,hr,hs,hc,hs2,hv,ha,hal,w,k,allO,f1,vW,q00o]
 ·rw [if_neg h]
  have hb:decide ((q02q j).1=0)=false:=by simpa using h
  rw [hb] at hr
  simp only [vJob,cGeom,Zd,Zf] at hr⊢
  simp [zEc,hr,allO]
section
variable (j:Job) (w:okW j)
include w in
theorem q06o (s:Stt) (to:Int) (H:Heap):clD EE (.p (.fn 77)) [vJob j,vStt s,vI to] H=some (vSpot (spotS j s to),none):=by
 rw [q002 _ _ _ _ _ _ (noP _) fn77]
 have hr:=fun H=>q025 j w s H
 have b1:=fun H=>q0br j to w.n1 H
 have b2:=fun H=>q0br j s.at_ w.n1 H
 unfold spotS
 simp only [vJob,cGeom,Zd,Zf] at hr b1 b2⊢
 cases c:q01g j s with
 |false=>
  rw [c] at hr
  simp [zEc,hr]
 |true=>
  rw [c] at hr
  simp [zEc,hr,b1,b2]
include w in
theorem q101 (s:Stt) (c:Colm) (c1:c.notes.length<=1000000) (c2:c.top.length<=1000000) (c3:c.bot.length<=1000000) (H:Heap):clD EE (.p (.fn 22)) [vJob j,vStt s,vColm c] H=some (vStt (nextS j s c),none):=by
 rw [q002 _ _ _ _ _ _ (noP _) fn22]
 have hr:=fun H=>q025 j w s H
 have hs:=fun H=>q06o j w s c.to H
 have ht:=fun H=>q0z5 j.items c.to w.n1 H
 have hn:=fun H=>q10u j.notes (spotS j s c.to) c.notes w.n2 c1 H
 have o1:=fun H=>q0n0 j.floats c.top c2 H
 have o2:=fun H=>q0n0 j.floats c.bot c3 H
 have a1:=fun x y H=>q0xq x y H
 unfold nextS
 cases cr:q01g j s with
 |false=>
  rw [cr] at hr
  simp only [vJob,cGeom,Zd,Zf] at hr⊢
  simp [zEc,hr,zeroS]
 |true=>
  rw [cr] at hr
  have hcol:0<=s.col/\s.col<=j.g.cols:=by
   unfold q01g at cr
   split at cr
   ·cases cr
   ·rename_i h;omega
  have hw:=w.cols
  have w1:IntKind.i64.wrap (s.col+1)=s.col+1:=w64 (by omega) (by omega)
  generalize spotS j s c.to=sp at*
  generalize nextF j.notes sp c.notes=nx at*
  simp only [vJob,cGeom,Zd,Zf] at hr hs⊢
  by_cases h1:c.k=1
  ·simp [zEc,hr,hs,ht,hn,w1,h1,o1,o2,a1,ixvV,ixaV,q007]
  ·simp [zEc,hr,hs,ht,hn,w1,h1,o1,o2,a1,ixvV,ixaV,q007]
end
abbrev zJobC:List V:=[vI 0,vI 0,vI 0,vI 0,vI 0,vI 0,vI 0,vI 0,vI 0,vI 0,vI 0,vI 0,vI 0,vI 0,vI 0,vI 0,vI 0,vI 0,vB false,.p (.sl []),.p (.sl []),.p (.sl [])]
theorem q0vl (j:Job) (ok:okJob j) (H:Heap):clD EE (.p (.fn 19)) [vJob j] H=some (if (q02q j).1=0 then .agg (cJobW (snapG j)++[vB true]) else .agg (zJobC++[vB false]),none):=by
 rw [q002 _ _ _ _ _ _ (noP _) fn19]
 have hc:=fun H=>q0ha j ok (q0d7 ok.n3) H
 have hs:=fun H=>q0mn j ok H
 simp only [vJob,cGeom,Zd,Zf] at hc hs⊢
 by_cases h:(q02q j).1=0
 ·simp [zEc,fldvV,hc,hs,h]
 ·simp [zEc,fldvV,hc,h]
def fairN (x:Int):Bool:=decide (0<=x)&&decide (x<=1073741823)
def q0Ew (j:Job):List Int:=[j.g.grid,j.g.high,j.g.first,j.g.rule,j.g.sep]++j.items.map (·.h)++j.notes.flatMap (·.lines)++j.floats.map (·.h)
def fairF (j:Job):Bool:= !((q0Ew j).any fun x=> !fairN x)
theorem q0Ct {x:Item} (s:Int) (h:q079 x):q079 (itemG s x):=by
 have z:I64 0:=⟨by omega,by omega⟩
 unfold itemG
 split
 ·exact ⟨h.1,q06u h.2.1,h.2.2⟩
 ·split
  ·exact ⟨h.1,q0uc h.2.1,h.2.2.1,z,z,z,h.2.2.2.2.2.2⟩
  ·exact h
theorem q0vm {j:Job} (h:jobI j):jobI (snapG j):=by
 unfold snapG
 split
 ·exact h
 ·have hg:=h.g
  simp only [q0bg] at hg
  refine ⟨⟨hg.1,hg.2.1,hg.2.2.1,q0ba hg.2.2.2.1,q0ba hg.2.2.2.2.1,hg.2.2.2.2.2.1,q06u hg.2.2.2.2.2.2.1,q06u hg.2.2.2.2.2.2.2.1,hg.2.2.2.2.2.2.2.2⟩,?_,?_,?_⟩
  ·intro x hx
   obtain ⟨y,hy,rfl⟩:=ZJ.1 hx
   exact q0Ct _ (h.items y hy)
  ·intro n hn x hx
   obtain ⟨m,hm,rfl⟩:=ZJ.1 hn
   obtain ⟨y,hy,rfl⟩:=ZJ.1 hx
   exact q06u (h.notes m hm y hy)
  ·intro x hx
   obtain ⟨y,hy,rfl⟩:=ZJ.1 hx
   exact ⟨(h.floats y hy).1,q06u (h.floats y hy).2.1,(h.floats y hy).2.2⟩
section
variable {j:Job} (hf:fairF j=true)
include hf
end
theorem q0Ex {j:Job} (r:Right j) (sm:small (snapG j)):okW (snapG j):=by
 obtain ⟨f,hf,hk⟩:=q0fj j
 have hg:=q0bp r.g
 have hn:=q07c 5 j.notes.length j.items 0 0 (Zj _) r.r5
 have h5:cnt 5 (snapG j).items=cnt 5 j.items:=by rw [hf];exact q0pq 5 f (fun x=>(hk x).1) _
 refine ⟨by have:=sm.items;omega,by have:=sm.notes;omega,by have:=sm.floats;omega,fun n hn=>by have:=sm.each n hn;omega,?_,?_⟩
 ·rw [q0j1];exact ⟨⟨by omega,by omega⟩,by omega⟩
 ·rw [q0j0];unfold q01a;omega
end Go.EnvOf
namespace Go.EnvOf
open Go Go.Eng
set_option maxRecDepth 100000
def r22E (a b:List Piece) (H:Heap) (i:Nat):St:=⟨[(0,q00v a),(1,q00v b),(5,vI i)],[],H,H.length,[]⟩
def r22X (a b:List Piece) (H:Heap):Ex×St:=(.exit 0,⟨[(0,q00v a),(1,q00v b),(5,vI a.length),(14,vB false)],[],H,H.length,[]⟩)
theorem q0rq (a b:List Piece) (H:Heap) (hl:a.length=b.length) (ha:a.length<=1000000):evD EE q0Wx (r22E a b H 0)=some (rng (step2 (fun x y=>decide (x=y)) b (qB H)) (fun _=>r22X a b H) () 0 a):=by
 unfold q0Wx
 refine q013 a (fun (_:Unit) i=>r22E a b H i) (fun _ _=>True) _ (fun _=>r22X a b H) (fun _ _=>rfl) ?_ ?_ () 0 trivial (Zj _)
 ·rintro _ i x-hx
  have hlt:=(Za.1 hx).1
  have hy:b[i]? =some (b[i]'(by omega)):=Zl (by omega)
  generalize (b[i]'(by omega))=y at hy
  have w:IntKind.i64.wrap ((i:Int)+1)=((i+1:Nat):Int):=w64 (by omega) (by omega)
  have hix:=fun H k=>q00c H q00g (k:=k) (s:=3) hx rfl
  have hiy:=fun H k=>q00c H q00g (k:=k) (s:=3) hy rfl
  have hc:=q083 x y
  rw [q04n hy]
  simp only [q00g,Zo,ZL] at hix hiy hc
  by_cases hxy:x=y
  ·subst hxy
   simp [r22E,hlt,hix,hiy,w,subs]
  ·simp [hxy,-q00p] at hc
   simp [-q00p,r22E,qB,hlt,hix,hiy,hxy,subs,hc]
 ·rintro _-
  simp [r22E,r22X]
theorem q0fr (a b:List Piece) (H:Heap) (ha:a.length<=1000000):clD EE (.p (.fn 170)) [q00v a,q00v b] H=some (vB (decide (a=b)),none):=by
 rw [q002 _ _ _ _ _ _ (noP _) fn170]
 by_cases hl:a.length=b.length
 ·have key:=q0rq a b H hl ha
  rw [q05w (fun x y=>decide (x=y)) b (qB H) (r22X a b H) a 0 (by omega),ZG,q06s a b hl] at key
  have hl':(a.length:Int)=b.length:=by omega
  by_cases h:a=b
  ·rw [if_pos (by simpa using h)] at key
   subst h
   simp [r22E,r22X] at key
   simp [zEa,key]
  ·rw [if_neg (by simpa using h)] at key
   simp [r22E,qB,hl] at key
   simp [zEa,hl',key,h]
 ·have hl': ¬(a.length:Int)=b.length:=by omega
  have h:a≠b:=by rintro rfl;exact hl rfl
  simp [zEa,hl',h]
def sameC (a b:Colm):Bool:=decide (a.k=b.k)&&decide (a.frm=b.frm)&&decide (a.to=b.to)&&decide (a.notes=b.notes)&&decide (a.top=b.top)&&decide (a.bot=b.bot)
theorem q10j (a b:Colm):sameC a b=true↔a=b:=by
 obtain ⟨a1,a2,a3,a4,a5,a6⟩:=a
 obtain ⟨b1,b2,b3,b4,b5,b6⟩:=b
 simp [sameC,and_assoc]
theorem q0rr (a b:Colm) (h1:a.notes.length<=1000000) (h2:a.top.length<=1000000) (h3:a.bot.length<=1000000) (H:Heap):clD EE (.p (.fn 85)) [vColm a,vColm b] H=some (vB (sameC a b),none):=by
 rw [q002 _ _ _ _ _ _ (noP _) fn85]
 have s:=fun H=>q0fr a.notes b.notes H h1
 have t:=fun H=>q0pm a.top b.top H (by omega)
 have u:=fun H=>q0pm a.bot b.bot H (by omega)
 unfold sameC
 by_cases c1:a.k=b.k
 ·by_cases c2:a.frm=b.frm
  ·by_cases c3:a.to=b.to
   ·by_cases c4:a.notes=b.notes
    ·by_cases c5:a.top=b.top
     ·simp only [c4,c5] at s t;simp [zEc,s,t,u,c1,c2,c3,c4,c5]
     ·simp only [c4] at s;simp [zEc,s,t,c1,c2,c3,c4,c5]
    ·simp [zEc,s,c1,c2,c3,c4]
   ·simp [zEc,c1,c2,c3]
  ·simp [zEc,c1,c2]
 ·simp [zEc,c1]
def q148 (c:Colm):List PV:=[.int .i64 c.k,.int .i64 c.frm,.int .i64 c.to,.sl (c.notes.map q00g),.sl (c.top.map encI),.sl (c.bot.map encI)]
@[simp] theorem q16e (c:Colm):(q148 c).length=6:=rfl
abbrev vCos (l:List Colm):V:= .p (.sl (l.map q148))
end Go.EnvOf
namespace Go.EnvOf
open Go Go.Eng
set_option maxRecDepth 100000
abbrev cStt (s:Stt):List V:=[vI s.at_,vI s.col,vI s.note,vI s.line,vI s.h.a,vI s.h.b,vI s.h.c]
section
variable (j:Job) (H:Heap)
end
def Keep (A:List Nat) (H H':Heap):Prop:=H.length<=H'.length/\ ∀k,k<H.length->k∉A->H'[k]? =H[k]?
def Stay (A:List Nat) (H H':Heap):Prop:=H.length<=H'.length/\ ∀k∈A,H'[k]? =H[k]?
theorem Keep.refl (A:List Nat) (H:Heap):Keep A H H:=⟨Zm _,fun _ _ _=>rfl⟩
theorem Keep.app (A:List Nat) (H T:Heap):Keep A H (H++T):=⟨by simp,fun _ h _=>Zw h⟩
theorem Stay.app (A:List Nat) (H T:Heap) (h: ∀k∈A,k<H.length):Stay A H (H++T):=⟨by simp,fun k hk=>Zw (h k hk)⟩
theorem Keep.set (A:List Nat) (H:Heap) (i:Nat) (o:DObj) (h:i∈A\/H.length<=i):Keep A H (H.set i o):=by
 refine ⟨by simp,fun k hk hA=>Zr ?_⟩
 rintro rfl
 rcases h with h|h
 ·exact hA h
 ·omega
theorem Stay.set (A:List Nat) (H:Heap) (i:Nat) (o:DObj) (h:i∉A):Stay A H (H.set i o):=⟨by simp,fun k hk=>Zr (by rintro rfl;exact h hk)⟩
theorem Stay.trans {A:List Nat} {H K L:Heap} (h:Stay A H K) (g:Stay A K L):Stay A H L:=⟨Nat.le_trans h.1 g.1,fun k hk=>(g.2 k hk).trans (h.2 k hk)⟩
theorem Keep.trans {A B:List Nat} {H K L:Heap} (h:Keep A H K) (g:Keep B K L) (hB: ∀k∈B,k∈A\/H.length<=k):Keep A H L:=by
 refine ⟨Nat.le_trans h.1 g.1,fun k hk hA=> ?_⟩
 rw [g.2 k (by have:=h.1;omega) ?_,h.2 k hk hA]
 intro hb
 rcases hB k hb with h|h
 ·exact hA h
 ·omega
theorem Keep.row {A:List Nat} {H K:Heap} (h:Keep A H K) {id s:Nat} {es:List (List V)} (hr:Eng.rowAt H id=some (s,es)) (hA:id∉A):Eng.rowAt K id=some (s,es):=by
 unfold Eng.rowAt at*
 rw [h.2 id (q09d (H:=H) (by unfold Eng.rowAt;exact hr)) hA];exact hr
theorem Keep.box {A:List Nat} {H K:Heap} (h:Keep A H K) {id:Nat} {cs:List V} (hr:Eng.boxAt H id=some cs) (hA:id∉A):Eng.boxAt K id=some cs:=by
 have hl:=q02y hr
 unfold Eng.boxAt at*
 rw [h.2 id hl hA];exact hr
theorem Stay.row {A:List Nat} {H K:Heap} (h:Stay A H K) {id s:Nat} {es:List (List V)} (hr:Eng.rowAt H id=some (s,es)) (hA:id∈A):Eng.rowAt K id=some (s,es):=by
 unfold Eng.rowAt at*
 rw [h.2 id hA];exact hr
theorem Stay.box {A:List Nat} {H K:Heap} (h:Stay A H K) {id:Nat} {cs:List V} (hr:Eng.boxAt H id=some cs) (hA:id∈A):Eng.boxAt K id=some cs:=by
 unfold Eng.boxAt at*
 rw [h.2 id hA];exact hr
structure Eats {α:Type} (rep:α->V->Heap->List Nat->Prop) (q:Nat) (L:List α) (R:Nat->List Nat->Heap->Prop) (F:List Nat->Heap->Prop):Prop where
 stay: ∀i A H H',R i A H->Stay A H H'->R i A H'
 bel: ∀i A H,R i A H-> ∀k∈A,k<H.length
 step: ∀i A H x v B,L[i]? =some x->R i A H->rep x v H B->(∀k∈B,k∉A/\q<k)->
  ∃b H' ds A',clD EE (.yld q) [v] H=some (vB b,some (H',ds))/\q∈ds/\Keep A H H'/\(∀k∈ds,k∈A\/H.length<=k)/\(∀k∈A',k∈A\/k∈B\/H.length<=k)/\
   (b=true->R (i+1) A' H')/\(b=false->F A' H')
def Gave {α:Type} (L:List α) (R:Nat->List Nat->Heap->Prop) (F:List Nat->Heap->Prop) (A:List Nat) (H:Heap) (r:Option (Heap×List Nat)):Prop:=
 ∃A',Keep A H (hpOf H r)/\(∀k∈dsOf r,k∈A\/H.length<=k)/\(∀k∈A',k∈A\/H.length<=k)/\(R L.length A' (hpOf H r)\/F A' (hpOf H r))
theorem q0vo {α:Type} {E:Env} {ks kl:List Nat} {c:IC} (L:List α) (R:Nat->St->Prop) (F:Ex×St->Prop)
  (hk: ∀i S,R i S->S.keep ks kl=S)
  (hstep: ∀i x S,R i S->L[i]? =some x->(∃S',evD E c S=some (.normal,S')/\R (i+1) S')\/ ∃r,evD E c S=some r/\r.1≠ .normal/\F r)
  (hend: ∀S,R L.length S-> ∃r,evD E c S=some r/\r.1≠ .normal/\F r):
  ∀(n i:Nat) S,L.length-i=n->R i S->i<=L.length-> ∃r,evD E (.loop ks kl c) S=some r/\F r:=by
 have stop: ∀S i,R i S->(∃r,evD E c S=some r/\r.1≠ .normal/\F r)-> ∃r,evD E (.loop ks kl c) S=some r/\F r:=by
  rintro S i hR ⟨⟨x,S'⟩,h1,h2,h3⟩
  refine ⟨(x,S'),?_,h3⟩
  rw [q003,hk _ _ hR,h1]
  cases x with
  |normal=>exact absurd rfl h2
  |_=>rfl
 intro n
 induction n with
 |zero=>
  intro i S hn hR hi
  have e:i=L.length:=by omega
  subst e
  exact stop S _ hR (hend S hR)
 |succ n ih=>
  intro i S hn hR hi
  have hlt:i<L.length:=by omega
  rcases hstep i _ S hR (Zl hlt) with ⟨S',h1,h2⟩|h
  ·rw [q003,hk _ _ hR,h1,q061]
   exact ih (i+1) S' (by omega) h2 hlt
  ·exact stop S _ hR h
def exSt:LSt->Ex
 | .done x=>x
 |_=> .normal
theorem q0n9 {env:List (Nat×V)} {loc:List (Nat×List V)} {hp:Heap} {base:Nat} {dirty:List Nat} {x:Arg} {ps:List Nat} {a b:IC} {it:V} (hv:(∃f,it= .p (.fn f))\/ ∃f u v,it= .fn (.func f) u v)
  (hx:St.arg ⟨env,loc,hp,base,dirty⟩ x=it) {r:Option (Heap×List Nat)} (h:clD EE it [.yld hp.length] (hp++[DObj.loop .ready (outE env) ps a b])=some (.tup [],r))
  {st:LSt} {e:List (Nat×V)} {ps':List Nat} {a' b':IC} (hq:(hpOf (hp++[DObj.loop .ready (outE env) ps a b]) r)[hp.length]? =some (.loop st e ps' a' b')) (hst:st≠ .busy):
  evD EE (.rangeFunc x ps a b) ⟨env,loc,hp,base,dirty⟩=some (exSt st,⟨env,loc,(hpOf (hp++[DObj.loop .ready (outE env) ps a b]) r).set hp.length .dead,base,(dsOf r).foldr (addD base) dirty⟩):=by
 have key:q03a ⟨env,loc,hp,base,dirty⟩ (some (.tup [],r))=some (exSt st,⟨env,loc,(hpOf (hp++[DObj.loop .ready (outE env) ps a b]) r).set hp.length .dead,base,(dsOf r).foldr (addD base) dirty⟩):=by
  cases r with
  |none=>
   simp only [hpOf,dsOf] at hq⊢
   simp at hq
   obtain ⟨rfl,-⟩:=hq
   simp [exSt]
  |some r=>
   obtain ⟨H,ds⟩:=r
   simp only [hpOf,dsOf] at hq⊢
   rw [q0k4,hq]
   cases st with
   |ready=>rfl
   |busy=>exact absurd rfl hst
   |done x=>rfl
 rw [q0k3,hx]
 rcases hv with ⟨f,rfl⟩|⟨f,u,v,rfl⟩
 ·rw [q0q8,h];exact key
 ·rw [q0s4,h];exact key
theorem q0e5 {q:Nat} {H:Heap} {env:List (Nat×V)} {ps:List Nat} {a b:IC} (h:H[q]? =some (.loop .ready env ps a b)) {args:List V} (hl:args.length=ps.length) {env1:List (Nat×V)} {loc1:List (Nat×List V)}
  (ha:evD EE a ⟨bindE env ps args,[],H,H.length,[]⟩=some (.normal,⟨env1,loc1,H,H.length,[]⟩)) {x:Ex} {env2:List (Nat×V)} {loc2:List (Nat×List V)} {H2:Heap} {d2:List Nat}
  (hb:evD EE b ⟨env1,loc1,H.set q (.loop .busy env ps a b),H.length,[q]⟩=some (x,⟨env2,loc2,H2,H.length,d2⟩)) (hs:H2[q]? =some (.loop .busy env ps a b)):
  clD EE (.yld q) args H=some (vB (decide (x= .normal)),some (H2.set q (.loop (if x= .normal then .ready else .done x) env ps a b),d2)):=by
 have hq:q<H.length:=(Za.1 h).1
 have hd:addD H.length q []=[q]:=by unfold addD;rw [if_pos hq]
 rw [q0zm,h,q0k5,if_pos hl,ha,q0je,h,q0k6,hd,hb,q0k7,hs,q0nj]
theorem q0bt {B:Nat}: ∀ {ds d:List Nat},(∀k∈ds,B<=k)->ds.foldr (addD B) d=d
 |[],_,_=>rfl
 |x::ds,d,h=>by
  rw [List.foldr_cons,q0bt fun k hk=>h k (by simp [hk])]
  unfold addD
  rw [if_neg (by have:=h x (by simp);omega)]
theorem q0vp (E:Env) (f:FuncId) (s:Nat) (z:List V) (H:Heap) (id:Nat) (es:List (List V)) (hp:E.prims f=none) (hf:E.fns f=some (q05m s z)) (hr:Eng.rowAt H id=some (s,es)) (hn:es≠[]) (hs:es.all (okEl s)=true) (hm:es.length<most):
  clD E (.p (.fn f)) [.row id es.length 0 es.length] H=some (.row H.length es.length 0 es.length,some (H++[.row s es],[])):=by
 have hh:q05c [.row id es.length 0 es.length]=false:=by cases es with|nil=>exact absurd rfl hn|cons e r=>rfl
 rw [q0k1 E f _ _ _ H hp hf hh]
 have h0:(0:Nat)<most:=by unfold most;omega
 have he:elems H (.row id es.length 0 es.length)=some es:=by simp [elems,hr]
 cases es with
 |nil=>exact absurd rfl hn
 |cons e r=>
  simp only [Zg] at he hm⊢
  simp [-List.all_eq_true,zEa,he,hs,hm,h0]
theorem q10k {p:Int->Bool}: ∀(n:Nat) (a:Int),∀x∈sel p a n,a<=x/\x<a+n/\p x=true
 |0,_,x,h=>by simp [sel] at h
 |n+1,a,x,h=>by
  simp only [sel,ZY] at h
  rcases h with h|h
  ·split at h
   ·simp at h;subst h;exact ⟨ZS _,by omega,by assumption⟩
   ·cases h
  ·have:=q10k n (a+1) x h
   exact ⟨by omega,by omega,this.2.2⟩
end Go.EnvOf
namespace Go.EnvOf
open Go Go.Eng
theorem q0pt {p:Int->Bool} {x:Int} (hp:p x=true): ∀(n:Nat) (a:Int),a<=x->x<a+n->x∈sel p a n
 |0,a,h1,h2=>by omega
 |n+1,a,h1,h2=>by
  simp only [sel,ZY]
  by_cases e:a=x
  ·subst e;simp [hp]
  ·exact .inr (q0pt hp n (a+1) (by omega) (by omega))
theorem q0pu {L M:List Int} (h:q01o L M=false):1<=L.length/\L.length<=64/\ ∀x∈L,1<=x/\x<=1073741823:=by
 unfold q01o q03x bad at h
 simp at h
 obtain ⟨⟨⟨⟨h1,h2⟩,h3⟩,h4⟩,h5⟩:=h
 exact ⟨by omega,by omega,fun x hx=>h4 x hx⟩
end Go.EnvOf
