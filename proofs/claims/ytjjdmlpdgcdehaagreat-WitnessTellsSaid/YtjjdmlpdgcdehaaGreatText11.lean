/- The program's functions and the document's, evaluated. -/
import Derived.Test.YtjjdmlpdgcdehaaGreatText10
set_option linter.unusedSimpArgs false
set_option linter.unusedVariables false
namespace Go.EnvOf
open Go Go.Eng
set_option maxRecDepth 100000
def q0f5 (l:List Float) (x y:C3):V:=if okT l x y then .agg [sli (takeL l x y),vB true] else .agg [sli [],vB false]
def rtkE (l:List Float) (x y a:C3) (H:Heap) (out:List Int) (i:Nat):St:=
 ⟨[(0,q005 l),(4,.lptr 4 0),(5,.lptr 5 0),(6,.lptr 6 0),(7,.lptr 7 0),(8,.row H.length out.length 0 out.length),(10,vI i)],[(4,[vI x.a,vI x.b,vI x.c]),(5,[vI y.a,vI y.b,vI y.c]),(6,[.nils,vB false]),(7,[vI a.a,vI a.b,vI a.c])],H++[.row 1 (upV (out.map encI))],H.length,[]⟩
def rtkX (l:List Float) (x y a:C3) (H:Heap) (out:List Int):Ex×St:=
 (.exit 2,⟨[(0,q005 l),(4,.lptr 4 0),(5,.lptr 5 0),(6,.lptr 6 0),(7,.lptr 7 0),(8,.row H.length out.length 0 out.length),(10,vI l.length),(54,vB false)],[(4,[vI x.a,vI x.b,vI x.c]),(5,[vI y.a,vI y.b,vI y.c]),(6,[.nils,vB false]),(7,[vI a.a,vI a.b,vI a.c])],H++[.row 1 (upV (out.map encI))],H.length,[]⟩)
def rtkS (x y:C3) (st:C3×List Int) (i:Nat) (f:Float):C3×List Int:=
 if 0<=f.c/\f.c<3 then (bump st.1 f.c,st.2++if hd3 x f.c<=hd3 st.1 f.c/\hd3 st.1 f.c<hd3 x f.c+hd3 y f.c then [(i:Int)] else []) else st
theorem q0b5 (x y:C3): ∀(l:List Float) (a:C3) (out:List Int) (i:Nat),(fold (rtkS x y) (a,out) i l).2=out++tkT x y a i l
 |[],_,_,_=>by simp [fold,tkT]
 |f::r,a,out,i=>by
  simp only [fold]
  unfold tkT rtkS
  by_cases c:0<=f.c/\f.c<3
  ·simp only [if_pos c]
   rw [show fold (fun st i f=>if 0<=f.c/\f.c<3 then (bump st.1 f.c,st.2++if hd3 x f.c<=hd3 st.1 f.c/\hd3 st.1 f.c<hd3 x f.c+hd3 y f.c then [(i:Int)] else []) else st)=fold (rtkS x y) from rfl,q0b5 x y r,Zx]
  ·simp only [if_neg c]
   exact q0b5 x y r a out (i+1)
structure c3b (q:C3) (i:Nat):Prop where
 a:0<=q.a/\q.a<=i
 b:0<=q.b/\q.b<=i
 c:0<=q.c/\q.c<=i
theorem q0xa {a:C3} {i:Nat} (h:c3b a i) (c:Int):c3b (bump a c) (i+1):=by
 obtain ⟨h1,h2,h3⟩:=h
 unfold bump
 (repeat' split)<;>constructor<;>(try simp only)<;>omega
theorem q0xb {a:C3} {i:Nat} (h:c3b a i):c3b a (i+1):=⟨by have:=h.a;omega,by have:=h.b;omega,by have:=h.c;omega⟩
set_option maxHeartbeats 1000000 in
theorem q0Dt (l:List Float) (hl:l.length<=100000) (x y:C3) (ok:okT l x y) (H:Heap): ∃a,evD EE q0X6 (rtkE l x y ⟨0,0,0⟩ H [] 0)=some (rtkX l x y a H (takeL l x y)):=by
 have g0:=q02d 0 l 0
 have g1:=q02d 1 l 0
 have g2:=q02d 2 l 0
 have hb: ∀c:Int,c=0\/c=1\/c=2->0<=hd3 x c/\0<=hd3 y c/\hd3 x c+hd3 y c<=100000:=by
  unfold okT okU at ok
  rintro c (rfl|rfl|rfl)<;>simp only [hd3]<;>simp<;>omega
 refine ⟨(fold (rtkS x y) (⟨0,0,0⟩,[]) 0 l).1,?_⟩
 have e2:=q0b5 x y l ⟨0,0,0⟩ [] 0
 rw [q0x9 l x y ok,Zf] at e2
 rw [<-e2]
 unfold q0X6
 refine Eq.trans (q00u l (fun (st:C3×List Int) i=>rtkE l x y st.1 H st.2 i) (fun st i=>c3b st.1 i/\st.2.length<=i) (rtkS x y) (fun st=>rtkX l x y st.1 H st.2) (fun _ _=>rfl) ?_ ?_ (⟨0,0,0⟩,[]) 0 ⟨⟨by simp,by simp,by simp⟩,by simp⟩ (Zj _)) (by rw [ZG])
 ·rintro ⟨a,out⟩ i f ⟨hi,ho⟩ hx
  have hlt:=(Za.1 hx).1
  have w1:IntKind.i64.wrap ((i:Int)+1)=((i+1:Nat):Int):=w64 (by omega) (by omega)
  have hix:=fun H k=>q00c H q009 (k:=k) (s:=3) hx rfl
  simp only [q009] at hix
  have hm:out.length+1<most:=by unfold most;simp only at ho;omega
  obtain ⟨f1,f2,f3⟩:=f
  simp only at hi
  obtain ⟨⟨a1,a2⟩,⟨b1,b2⟩,⟨c1,c2⟩⟩:=hi
  by_cases c:0<=f1/\f1<3
  ·have h3:f1=0\/f1=1\/f1=2:=by omega
   refine ⟨?_,?_⟩
   ·unfold rtkS
    simp only [if_pos c]
    have hbb:=hb f1 h3
    rcases h3 with rfl|rfl|rfl
    ·simp only [hd3,if_true,bump] at hbb⊢
     have wa:IntKind.i64.wrap (a.a+1)=a.a+1:=w64 (by omega) (by omega)
     have ws:IntKind.i64.wrap (x.a+y.a)=x.a+y.a:=w64 (by omega) (by omega)
     by_cases d1:x.a<=a.a
     ·by_cases d2:a.a<x.a+y.a
      ·simp [rtkE,hlt,hix,subs,q001,ixaV,q007,w1,wa,ws,d1,d2,hm,encI]
      ·simp [rtkE,hlt,hix,subs,q001,ixaV,q007,w1,wa,ws,d1,d2]
     ·simp [rtkE,hlt,hix,subs,q001,ixaV,q007,w1,wa,ws,d1]
    ·simp only [hd3,if_true,bump,show¬((1:Int)=0) by omega,if_false] at hbb⊢
     have wa:IntKind.i64.wrap (a.b+1)=a.b+1:=w64 (by omega) (by omega)
     have ws:IntKind.i64.wrap (x.b+y.b)=x.b+y.b:=w64 (by omega) (by omega)
     by_cases d1:x.b<=a.b
     ·by_cases d2:a.b<x.b+y.b
      ·simp [rtkE,hlt,hix,subs,q001,ixaV,q007,w1,wa,ws,d1,d2,hm,encI]
      ·simp [rtkE,hlt,hix,subs,q001,ixaV,q007,w1,wa,ws,d1,d2]
     ·simp [rtkE,hlt,hix,subs,q001,ixaV,q007,w1,wa,ws,d1]
    ·simp only [hd3,if_true,bump,show¬((2:Int)=0) by omega,show¬((2:Int)=1) by omega,if_false] at hbb⊢
     have wa:IntKind.i64.wrap (a.c+1)=a.c+1:=w64 (by omega) (by omega)
     have ws:IntKind.i64.wrap (x.c+y.c)=x.c+y.c:=w64 (by omega) (by omega)
     by_cases d1:x.c<=a.c
     ·by_cases d2:a.c<x.c+y.c
      ·simp [rtkE,hlt,hix,subs,q001,ixaV,q007,w1,wa,ws,d1,d2,hm,encI]
      ·simp [rtkE,hlt,hix,subs,q001,ixaV,q007,w1,wa,ws,d1,d2]
     ·simp [rtkE,hlt,hix,subs,q001,ixaV,q007,w1,wa,ws,d1]
   ·unfold rtkS
    simp only [if_pos c]
    refine ⟨q0xa ⟨⟨a1,a2⟩,⟨b1,b2⟩,⟨c1,c2⟩⟩ _,?_⟩
    simp only at ho
    rw [Zt]
    split<;>simp<;>omega
  ·refine ⟨?_,?_⟩
   ·unfold rtkS
    simp only [if_neg c]
    by_cases d:0<=f1
    ·have d2: ¬f1<3:=fun h=>c ⟨d,h⟩
     simp [rtkE,hlt,hix,subs,q001,w1,d,d2]
    ·simp [rtkE,hlt,hix,subs,q001,w1,d]
   ·unfold rtkS
    simp only [if_neg c]
    exact ⟨q0xb ⟨⟨a1,a2⟩,⟨b1,b2⟩,⟨c1,c2⟩⟩,by simp only at ho;omega⟩
 ·rintro ⟨a,out⟩-
  simp [rtkE,rtkX]
theorem q0lu (l:List Float) (x y:C3) (hl:l.length<=100000) (H:Heap):clD EE (.p (.fn 269)) [q005 l,vC x,vC y] H=some (q0f5 l x y,none):=by
 rw [q002 _ _ _ _ _ _ (noP _) fn269]
 have f:=fun c H=>q0tp l c H (by omega)
 have g0:=q02d 0 l 0
 have g1:=q02d 1 l 0
 have g2:=q02d 2 l 0
 have w0:IntKind.i64.wrap 1=1:=by decide
 have w1:IntKind.i64.wrap 2=2:=by decide
 have w2:IntKind.i64.wrap 3=3:=by decide
 have step: ∀(n:Nat) (u w:Int),n<=100000->(okU n u w↔ ¬(u<0\/w<0\/(n:Int)<w\/(n:Int)-w<u)):=fun n u w _=>by unfold okU;omega
 unfold q0f5
 by_cases ok:okT l x y
 ·rw [if_pos ok]
  obtain ⟨a,k⟩:=q0Dt l hl x y ok H
  obtain ⟨⟨p1,p2,p3,p4⟩,⟨q1,q2,q3,q4⟩,⟨r1,r2,r3,r4⟩⟩:=ok
  have v0:IntKind.i64.wrap (((figOf 0 0 l).length:Int)-y.a)=(figOf 0 0 l).length-y.a:=w64 (by omega) (by omega)
  have v1:IntKind.i64.wrap (((figOf 1 0 l).length:Int)-y.b)=(figOf 1 0 l).length-y.b:=w64 (by omega) (by omega)
  have v2:IntKind.i64.wrap (((figOf 2 0 l).length:Int)-y.c)=(figOf 2 0 l).length-y.c:=w64 (by omega) (by omega)
  simp only [rtkE,rtkX] at k
  simp at k
  simp [zEc,q0Vp,q003,ixaV,q007,w0,w1,w2,f,v0,v1,v2,k,
   show¬x.a<0 by omega,show¬x.b<0 by omega,show¬x.c<0 by omega,show¬y.a<0 by omega,show¬y.b<0 by omega,show¬y.c<0 by omega,
   show¬((figOf 0 0 l).length:Int)<y.a by omega,show¬((figOf 1 0 l).length:Int)<y.b by omega,show¬((figOf 2 0 l).length:Int)<y.c by omega,
   show¬((figOf 0 0 l).length:Int)-y.a<x.a by omega,show¬((figOf 1 0 l).length:Int)-y.b<x.b by omega,show¬((figOf 2 0 l).length:Int)-y.c<x.c by omega]
 ·rw [if_neg ok]
  by_cases e01:x.a<0
  ·simp [zEc,q0Vp,q003,ixaV,q007,w0,w1,w2,f,e01]
  by_cases e02:y.a<0
  ·simp [zEc,q0Vp,q003,ixaV,q007,w0,w1,w2,f,e01,e02]
  by_cases e03:((figOf 0 0 l).length:Int)<y.a
  ·simp [zEc,q0Vp,q003,ixaV,q007,w0,w1,w2,f,e01,e02,e03]
  have v0:IntKind.i64.wrap (((figOf 0 0 l).length:Int)-y.a)=((figOf 0 0 l).length:Int)-y.a:=w64 (by omega) (by omega)
  by_cases e04:((figOf 0 0 l).length:Int)-y.a<x.a
  ·simp [zEc,q0Vp,q003,ixaV,q007,w0,w1,w2,f,e01,e02,e03,e04,v0]
  by_cases e11:x.b<0
  ·simp [zEc,q0Vp,q003,ixaV,q007,w0,w1,w2,f,e01,e02,e03,e04,v0,e11]
  by_cases e12:y.b<0
  ·simp [zEc,q0Vp,q003,ixaV,q007,w0,w1,w2,f,e01,e02,e03,e04,v0,e11,e12]
  by_cases e13:((figOf 1 0 l).length:Int)<y.b
  ·simp [zEc,q0Vp,q003,ixaV,q007,w0,w1,w2,f,e01,e02,e03,e04,v0,e11,e12,e13]
  have v1:IntKind.i64.wrap (((figOf 1 0 l).length:Int)-y.b)=((figOf 1 0 l).length:Int)-y.b:=w64 (by omega) (by omega)
  by_cases e14:((figOf 1 0 l).length:Int)-y.b<x.b
  ·simp [zEc,q0Vp,q003,ixaV,q007,w0,w1,w2,f,e01,e02,e03,e04,v0,e11,e12,e13,e14,v1]
  by_cases e21:x.c<0
  ·simp [zEc,q0Vp,q003,ixaV,q007,w0,w1,w2,f,e01,e02,e03,e04,v0,e11,e12,e13,e14,v1,e21]
  by_cases e22:y.c<0
  ·simp [zEc,q0Vp,q003,ixaV,q007,w0,w1,w2,f,e01,e02,e03,e04,v0,e11,e12,e13,e14,v1,e21,e22]
  by_cases e23:((figOf 2 0 l).length:Int)<y.c
  ·simp [zEc,q0Vp,q003,ixaV,q007,w0,w1,w2,f,e01,e02,e03,e04,v0,e11,e12,e13,e14,v1,e21,e22,e23]
  have v2:IntKind.i64.wrap (((figOf 2 0 l).length:Int)-y.c)=((figOf 2 0 l).length:Int)-y.c:=w64 (by omega) (by omega)
  by_cases e24:((figOf 2 0 l).length:Int)-y.c<x.c
  ·simp [zEc,q0Vp,q003,ixaV,q007,w0,w1,w2,f,e01,e02,e03,e04,v0,e11,e12,e13,e14,v1,e21,e22,e23,e24,v2]
  exact absurd ⟨by unfold okU;omega,by unfold okU;omega,by unfold okU;omega⟩ ok
def rduE (l:List Item) (fs:List Float) (n:Int) (H:Heap) (d:C3) (i:Nat):St:=⟨[(0,q006 l),(1,q005 fs),(2,vI n),(6,.lptr 6 0),(7,.lptr 7 0),(8,vI i)],[(6,[vI 0,vI 0,vI 0]),(7,[vI d.a,vI d.b,vI d.c])],H,H.length,[]⟩
def rduX (l:List Item) (fs:List Float) (n:Int) (H:Heap) (d:C3):Ex×St:=(.exit 0,⟨[(0,q006 l),(1,q005 fs),(2,vI n),(6,.lptr 6 0),(7,.lptr 7 0),(8,vI l.length),(12,vB false)],[(6,[vI 0,vI 0,vI 0]),(7,[vI d.a,vI d.b,vI d.c])],H,H.length,[]⟩)
def rduS (l:List Item) (fs:List Float) (n:Int) (d:C3) (i:Nat) (x:Item):C3:=if (i:Int)<n/\x.k=7 then q00n fs (l.take i) else d
theorem q0xc (l:List Item) (fs:List Float) (n:Int):fold (rduS l fs n) ⟨0,0,0⟩ 0 l=dueP fs (l.take (putN l n)):=by
 have key: ∀m,m<=l.length->fold (rduS l fs n) ⟨0,0,0⟩ 0 (l.take m)=dueP fs (l.take (min (max n 0).toNat m)):=by
  intro m
  induction m with
  |zero=>intro _;simp [fold,dueP]
  |succ m ih=>
   intro h
   have hx:l[m]? =some l[m]:=Zl (by omega)
   rw [q0fn _ l _ 0 m _ hx,ih (by omega),Zs]
   unfold rduS
   by_cases c:(m:Int)<n
   ·have e1:min (max n 0).toNat (m+1)=m+1:=by omega
    have e2:min (max n 0).toNat m=m:=by omega
    rw [e1,e2,q03n hx,q0bo]
    by_cases k:l[m].k=7
    ·rw [if_pos ⟨c,k⟩,if_pos k]
    ·rw [if_neg (fun h=>k h.2),if_neg k]
   ·have e:min (max n 0).toNat (m+1)=min (max n 0).toNat m:=by omega
    rw [if_neg (fun h=>c h.1),e]
 have h:=key l.length (Zm _)
 rw [List.take_length] at h
 rw [h]
 congr 2
 unfold putN;omega
theorem q0p7 (l:List Item) (fs:List Float) (n:Int) (hl:l.length<=1000000) (H:Heap):clD EE (.p (.fn 175)) [q006 l,q005 fs,vI n] H=some (vC (dueP fs (l.take (putN l n))),none):=by
 rw [q002 _ _ _ _ _ _ (noP _) fn175]
 have k:evD EE q0Wy (rduE l fs n H ⟨0,0,0⟩ 0)=some (rduX l fs n H (dueP fs (l.take (putN l n)))):=by
  unfold q0Wy
  refine Eq.trans (q00u l (fun d i=>rduE l fs n H d i) (fun _ _=>True) (rduS l fs n) (fun d=>rduX l fs n H d) (fun _ _=>rfl) ?_ ?_ ⟨0,0,0⟩ 0 trivial (Zj _)) (by rw [ZG,q0xc])
  ·rintro d i x-hx
   refine ⟨?_,trivial⟩
   have hlt:=(Za.1 hx).1
   have w1:IntKind.i64.wrap ((i:Int)+1)=((i+1:Nat):Int):=w64 (by omega) (by omega)
   have hix:=fun H k=>q00c H q004 (k:=k) (s:=7) hx rfl
   simp only [q004] at hix
   have ah:=fun H=>q07u l fs i hl H
   have ep:putN l (i:Int)=i:=by unfold putN;omega
   rw [ep] at ah
   unfold rduS
   by_cases c:(i:Int)<n
   ·by_cases k7:x.k=7
    ·rw [if_pos ⟨c,k7⟩]
     simp [rduE,hlt,hix,subs,q001,w1,c,k7,ah]
    ·rw [if_neg (fun h=>k7 h.2)]
     simp [rduE,hlt,hix,subs,q001,w1,c,k7]
   ·rw [if_neg (fun h=>c h.1)]
    simp [rduE,hlt,hix,subs,q001,w1,c]
  ·rintro d-
   simp [rduE,rduX]
 simp only [rduE,rduX] at k
 simp at k
 simp [zEc,k]
theorem q06f (j:Job) (w:okW j) (s:Stt) (H:Heap):clD EE (.p (.fn 173)) [vJob j,vStt s] H=some (vB (q022 j s),none):=by
 rw [q002 _ _ _ _ _ _ (noP _) fn173]
 have hr:=fun H=>q025 j w s H
 have hd:=fun H=>q0p7 j.items j.floats s.at_ w.n1 H
 change∀H,clD EE _ _ H=some (vC (dueF j s.at_),none) at hd
 have re:=fun H=>q0f7 (dueF j s.at_) s.h H
 unfold q022
 simp only [vJob,cGeom,Zd,Zf] at hr⊢
 cases c:q01g j s with
 |false=>rw [c] at hr;simp [zEc,hr]
 |true=>rw [c] at hr;simp [zEc,hr,hd,re]
theorem q0p8: ∀(fs:List Float) (i:Nat),(∀f∈fs,0<=f.c/\f.c<=2)->(figOf 0 i fs).length+(figOf 1 i fs).length+(figOf 2 i fs).length=fs.length
 |[],_,_=>rfl
 |f::r,i,h=>by
  have ih:=q0p8 r (i+1) fun g hg=>h g (by simp [hg])
  have hf:=h f (by simp)
  have h3:f.c=0\/f.c=1\/f.c=2:=by omega
  simp only [figOf,Zt,Zg]
  rcases h3 with e|e|e<;>simp [e]<;>omega
theorem q09h (j:Job) (w:wfJ j) (s:Stt) (H:Heap):clD EE (.p (.fn 86)) [vJob j,vStt s] H=some (vB (doneS j s),none):=by
 rw [q002 _ _ _ _ _ _ (noP _) fn86]
 have hr:=fun H=>q025 j w.w s H
 simp only [vJob,cGeom,Zd,Zf] at hr⊢
 cases c:q01g j s with
 |false=>
  rw [c] at hr
  have:doneS j s=false:=by unfold doneS;rw [c];rfl
  rw [this]
  simp [zEc,hr]
 |true=>
  rw [c] at hr
  have r:=(q02k j s).1 c
  have cb:=q09w w r
  have h0:=r.h0
  have h1:=r.h1
  have bd:=q0wx w.w s.at_
  have all:=q0Cw w.six
  have sm:=q0p8 j.floats 0 (fun f hf=>(w.fl f hf).1)
  have hh:=q0hy w r
  unfold leC zeroC at h0
  unfold leC at h1
  simp only at h0
  have w1:IntKind.i64.wrap (s.h.a+s.h.b)=s.h.a+s.h.b:=w64 (by omega) (by omega)
  have w2:IntKind.i64.wrap (s.h.a+s.h.b+s.h.c)=s.h.a+s.h.b+s.h.c:=w64 (by omega) (by omega)
  have e:doneS j s=(decide (s.at_=j.items.length)&&decide (s.note=j.notes.length)&&decide (s.h.a+s.h.b+s.h.c=j.floats.length)):=by
   unfold doneS
   rw [c,ZV]
   by_cases a1:s.at_=j.items.length
   ·by_cases a2:s.note=j.notes.length
    ·have a3:s.line=0:=by
      by_cases z:s.line=0
      ·exact z
      ·have:=(cb.2.2.2 z).1;omega
     have a4:(s.h=allS j)↔(s.h.a+s.h.b+s.h.c=j.floats.length):=by
      rw [all]
      unfold leC allC at*
      simp only at hh
      constructor
      ·intro h;rw [h];simp only;omega
      ·intro h
       obtain ⟨⟨x,y,z⟩,hx⟩: ∃q,q=s.h:=⟨_,rfl⟩
       rw [<-hx] at h hh⊢
       simp only [C3.mk.injEq] at*
       omega
     simp only [a1,a2,a3,decide_true,ZV]
     rw [decide_eq_decide];exact a4
    ·simp [a1,a2]
   ·simp [a1]
  rw [e]
  by_cases a1:s.at_=j.items.length
  ·have a1:=eq_true a1
   by_cases a2:s.note=j.notes.length
   ·have a2:=eq_true a2
    simp [zEc,ixaV,q007,hr,a1,a2,w1,w2]
   ·simp [zEc,hr,a1,a2]
  ·simp [zEc,hr,a1]
abbrev vRC (o:Option Colm):V:= .agg [vI (o.getD q014).k,vI (o.getD q014).frm,vI (o.getD q014).to,q00v (o.getD q014).notes,sli (o.getD q014).top,sli (o.getD q014).bot,vB o.isSome]
section
variable (j:Job) (w:wfJ j)
include w in
theorem q0tr (s:Stt) (H:Heap):clD EE (.p (.fn 172)) [vJob j,vStt s] H=some (vRC (textC j s),none):=by
 rw [q002 _ _ _ _ _ _ (noP _) fn172]
 have ri:=fun H=>q025 j w.w s H
 have dn:=fun H=>q09h j w s H
 have fl:=fun H=>q06f j w.w s H
 have fb:=fun H=>q0qs j.items w.w.n1 s.at_ H
 have sp:=fun H=>q06o j w.w s (q015 j.items s.at_) H
 have ch:=fun H=>q081 j.notes (spotS j s (q015 j.items s.at_)) (q08n j w s _) H
 unfold textC openS
 simp only [vJob,cGeom,Zd,Zf] at ri dn fl sp⊢
 cases c1:q01g j s with
 |false=>rw [c1] at ri;simp [zEc,ri,q014]
 |true=>
  rw [c1] at ri
  have r:=(q02k j s).1 c1
  cases c2:doneS j s with
  |true=>rw [c2] at dn;simp [zEc,ri,dn,q014]
  |false=>
   rw [c2] at dn
   by_cases c3:s.at_=j.items.length
   ·have c4: ¬s.at_<j.items.length:=by omega
    have c3:=eq_true c3
    simp [zEc,ri,dn,c3,c4,q014]
   ·have c4:s.at_<j.items.length:=by have:=r.at1;omega
    cases c5:q022 j s with
    |false=>rw [c5] at fl;simp [zEc,ri,dn,fl,c3,q014]
    |true=>
     rw [c5] at fl
     have hne:q00j j.notes (spotS j s (q015 j.items s.at_))≠[]:=by
      obtain ⟨n0,l0,n1,n2⟩:=q09w w r
      rw [q0p6 r]
      refine q0fs (q03o w.w _) n0 l0 w.notes fun h=> ?_
      simp only at h⊢
      by_cases z:s.line=0
      ·rw [z]
       have:=w.notes (rd j.notes s.note) (q05a n0 (by have:=q03o w.w (q015 j.items s.at_);omega))
       omega
      ·exact (n2 z).2
     unfold q05q
     generalize q015 j.items s.at_=t at*
     generalize spotS j s t=q at*
     cases hc:q00j j.notes q with
     |nil=>exact absurd hc hne
     |cons p ps=>
      rw [hc] at ch
      have hix: ∀H,ixsI H (vPss (p::ps)) (vI 0) 1=some (.eptr ((encPs p).map .p) 0):=fun H=>q00c H encPs (i:=0) rfl rfl
      simp only [vPss,Zo,encPs] at ch hix
      simp [zEc,ri,dn,fl,c3,c4,fb,sp,ch,hix]
include w in
theorem q0f6 {s:Stt} (r:rightP j s) {n:C3} (hn:leC n (q01i j s.at_)) (H:Heap):clD EE (.p (.fn 174)) [vJob j,vStt s,vC n] H=some (vRC (q03i j s n),none):=by
 rw [q002 _ _ _ _ _ _ (noP _) fn174]
 have ok:=q0i0 j w r hn
 have w1:IntKind.i64.wrap 1=1:=by decide
 have w2:IntKind.i64.wrap 2=2:=by decide
 have w3:IntKind.i64.wrap 3=3:=by decide
 have t1:=fun y H=>q0lu j.floats s.h y w.w.n3 H
 unfold q0f5 at t1
 unfold q03i
 simp only [vJob,cGeom,Zd,Zf]
 by_cases c1:s.h.a<n.a
 ·have t:=fun H=>t1 ⟨1,0,0⟩ H
  simp only [if_pos (ok.1 c1)] at t
  generalize takeL j.floats s.h ⟨1,0,0⟩=T at*
  simp [zEc,fldvV,q0W2,q003,ixaV,ixvV,q007,w1,w2,w3,c1,t]
 ·by_cases c2:s.h.b<n.b
  ·have t:=fun H=>t1 ⟨0,1,0⟩ H
   simp only [if_pos (ok.2.1 c2)] at t
   generalize takeL j.floats s.h ⟨0,1,0⟩=T at*
   simp [zEc,fldvV,q0W2,q003,ixaV,ixvV,q007,w1,w2,w3,c1,c2,t]
  ·by_cases c3:s.h.c<n.c
   ·have t:=fun H=>t1 ⟨0,0,1⟩ H
    simp only [if_pos (ok.2.2 c3)] at t
    generalize takeL j.floats s.h ⟨0,0,1⟩=T at*
    simp [zEc,fldvV,q0W2,q003,ixaV,ixvV,q007,w1,w2,w3,c1,c2,c3,t]
   ·simp [zEc,q0W2,q003,ixaV,ixvV,q007,w1,w2,w3,c1,c2,c3,q014]
include w in
theorem q0r1 (s:Stt) (o:openS j s=true) (H:Heap):clD EE (.p (.fn 177)) [vJob j,vStt s] H=some (vRC (q08m j s),none):=by
 rw [q002 _ _ _ _ _ _ (noP _) fn177]
 have ri:=fun H=>q025 j w.w s H
 have dn:=fun H=>q09h j w s H
 have ah:=fun H=>q07u j.items j.floats s.at_ w.w.n1 H
 change∀H,clD EE _ _ H=some (vC (q01i j s.at_),none) at ah
 obtain ⟨r,d⟩:=(q04a j s).1 o
 have al:=fun H=>q0f6 j w r (q0e6 (q01i j s.at_)) H
 unfold q08m
 rw [if_pos o]
 rw [(q02k j s).2 r] at ri
 rw [d] at dn
 simp only [vJob,cGeom,Zd,Zf] at ri dn al⊢
 simp [zEc,ri,dn,ah,al]
include w in
theorem q0ts (s:Stt) (o:openS j s=true) (H:Heap):clD EE (.p (.fn 176)) [vJob j,vStt s] H=some (vRC (noteC j s),none):=by
 rw [q002 _ _ _ _ _ _ (noP _) fn176]
 have ri:=fun H=>q025 j w.w s H
 have sp:=fun H=>q06o j w.w s s.at_ H
 have ch:=fun H=>q081 j.notes (q02h (spotS j s s.at_)) (q09f j w s _) H
 obtain ⟨r,d⟩:=(q04a j s).1 o
 have hne:q00j j.notes (q02h (spotS j s s.at_))≠[]:=by
  obtain ⟨n0,l0,n1,n2⟩:=q09w w r
  rw [q0p6 r]
  refine q0fs (q03o w.w _) n0 l0 w.notes fun h=> ?_
  simp only [q02h] at h⊢
  by_cases z:s.line=0
  ·rw [z]
   have:=w.notes (rd j.notes s.note) (q05a n0 (by have:=q03o w.w s.at_;omega))
   omega
  ·exact (n2 z).2
 unfold noteC
 rw [(q02k j s).2 r] at ri
 have h1:=r.at1
 simp only [vJob,cGeom,Zd,Zf] at ri sp⊢
 by_cases c2:s.at_<j.items.length
 ·have c3: ¬s.at_=j.items.length:=by omega
  simp [zEc,ri,c2,c3,q014]
 ·have c3:s.at_=j.items.length:=by omega
  have c3:=eq_true c3
  by_cases c4:s.note=j.notes.length
  ·have c4:=eq_true c4
   simp [zEc,ri,c2,c3,c4,q014]
  ·unfold q05q
   generalize spotS j s s.at_=q at*
   unfold q02h at*
   cases hc:q00j j.notes ⟨q.note,q.line,q.begun,true⟩ with
   |nil=>exact absurd hc hne
   |cons p ps=>
    rw [hc] at ch
    have hix: ∀H,ixsI H (vPss (p::ps)) (vI 0) 1=some (.eptr ((encPs p).map .p) 0):=fun H=>q00c H encPs (i:=0) rfl rfl
    simp only [vPss,Zo,encPs] at ch hix
    simp [zEc,ri,sp,ch,hix,c2,c3,c4,o]
include w in
theorem q0tt (s:Stt) (o:openS j s=true) (H:Heap):clD EE (.p (.fn 87)) [vJob j,vStt s] H=some (vRC (q04r j s),none):=by
 rw [q002 _ _ _ _ _ _ (noP _) fn87]
 have ri:=fun H=>q025 j w.w s H
 have fl:=fun H=>q06f j w.w s H
 have du:=fun H=>q0p7 j.items j.floats s.at_ w.w.n1 H
 change∀H,clD EE _ _ H=some (vC (dueF j s.at_),none) at du
 obtain ⟨r,d⟩:=(q04a j s).1 o
 have t1:=fun H=>q0tr j w s H
 have t2:=fun H=>q0f6 j w r (q0vq j.floats (j.items.take (putN j.items s.at_))) H
 change∀H,clD EE _ [vJob j,vStt s,vC (dueF j s.at_)] H=some (vRC (q03i j s (dueF j s.at_)),none) at t2
 have t3:=fun H=>q0ts j w s o H
 have t4:=fun H=>q0r1 j w s o H
 rw [(q02k j s).2 r] at ri
 unfold q04r
 have e2:dueC j s=q03i j s (dueF j s.at_):=by unfold dueC;rw [if_pos o]
 simp only [vJob,cGeom,Zd,Zf] at ri fl t1 t2 t3 t4⊢
 cases a1:textC j s with
 |some c=>rw [a1] at t1;simp [zEc,fldvV,t1]
 |none=>
  rw [a1] at t1
  cases f:q022 j s with
  |false=>
   rw [f] at fl
   have hne: ¬leC (dueF j s.at_) s.h:=fun h=>by rw [(q0hz r).2 h] at f;cases f
   obtain ⟨c,hc⟩:=q0qp (j:=j) hne
   rw [hc] at t2
   rw [e2,hc]
   simp [zEc,fldvV,t1,ri,fl,du,t2]
  |true=>
   rw [f] at fl
   have e3:q03i j s (dueF j s.at_)=none:=by
    have hle:=(q0hz r).1 f
    unfold leC at hle
    unfold q03i
    rw [if_neg (by omega),if_neg (by omega),if_neg (by omega)]
   rw [e2,e3]
   cases a3:noteC j s with
   |some c=>rw [a3] at t3;simp [zEc,fldvV,t1,ri,fl,t3]
   |none=>rw [a3] at t3;simp [zEc,fldvV,t1,ri,fl,t3,t4]
end
def bodyL:IC->IC
 | .loop _ _ c=>c
 |c=>c
theorem q116 (s:Stt) (H:Heap):clD EE (.p (.fn 89)) [.p .nilp,vStt s] H=some (vB false,none):=by
 rw [q002 _ _ _ _ _ _ (noP _) fn89]
 simp [zEc]
theorem q0Zo (H:Heap):clD EE (.p (.fn 84)) [.p .nilp] H=some (.agg zJobC,none):=by
 rw [q002 _ _ _ _ _ _ (noP _) fn84]
 simp [zEc]
theorem q0Zp: ∀(l:List Note) (n:Int) (i:Nat),fold (fun (n:Int) _ (x:Note)=>n+x.lines.length) n i l=n+lineN l
 |[],n,i=>by simp [fold,lineN]
 |x::r,n,i=>by
  simp only [fold,q0Zp r]
  simp only [lineN,Zo,List.sum_cons]
  omega
theorem q117 (H:Heap):clD EE (.p (.fn 26)) [.p .nilp] H=some (vI 0,none):=by
 rw [q002 _ _ _ _ _ _ (noP _) fn26]
 have p:=fun H=>q0Zo H
 have n:=fun H=>q0n8 [] H (by simp) (by simp [lineN])
 have z:lineN []=0:=rfl
 rw [z] at n
 change∀H,clD EE _ [.p (.sl [])] H=_ at n
 simp only [zJobC] at p
 simp [zEc,p,n,show IntKind.i64.wrap 0=0 by decide]
theorem q10d (s:Stt) (H:Heap):clD EE (.p (.fn 82)) [.p .nilp,vStt s] H=some (vOC none,none):=by
 rw [q002 _ _ _ _ _ _ (noP _) fn82]
 have r:=fun H=>q116 s H
 have p:=fun H=>q0Zo H
 have o: ∀H,clD EE (.p (.fn 258)) [.p .nilp,vStt s] H=some (vB false,none):=fun H=>by
  rw [q002 _ _ _ _ _ _ (noP _) fn258]
  simp [zEc,r]
 have f1: ∀H,clD EE (.p (.fn 162)) [.p .nilp,vStt s] H=some (vOC none,none):=fun H=>by
  rw [q002 _ _ _ _ _ _ (noP _) fn162]
  simp [zEc,o,vOC,q014]
 have f2: ∀H,clD EE (.p (.fn 163)) [.p .nilp,vStt s] H=some (vOC none,none):=fun H=>by
  rw [q002 _ _ _ _ _ _ (noP _) fn163]
  simp [zEc,o,vOC,q014]
 have f3: ∀H,clD EE (.p (.fn 164)) [.p .nilp,vStt s] H=some (vOC none,none):=fun H=>by
  rw [q002 _ _ _ _ _ _ (noP _) fn164]
  simp only [zJobC] at p
  simp [zEc,fldvV,o,p,vOC,q014]
 have f4: ∀H,clD EE (.p (.fn 165)) [.p .nilp,vStt s] H=some (vOC none,none):=fun H=>by
  rw [q002 _ _ _ _ _ _ (noP _) fn165]
  simp [zEc,o,vOC,q014]
 have w1:IntKind.i64.wrap 1=1:=by decide
 have w2:IntKind.i64.wrap 2=2:=by decide
 have w3:IntKind.i64.wrap 3=3:=by decide
 have w4:IntKind.i64.wrap 4=4:=by decide
 unfold vOC at*
 simp [zEc,q0Vy,q003,ixsI,ixsV,w1,w2,w3,w4,f1,f2,f3,f4,q014]
theorem q0Zm (s:Stt) (H:Heap):clD EE (.p (.fn 25)) [.p .nilp,vStt s] H=some (vCos [],none):=by
 rw [q002 _ _ _ _ _ _ (noP _) fn25]
 have ls:=fun H=>q10d s H
 unfold vOC at ls
 have f1: ∀b H,frzK 0 0 0 b H 2 (some (6,[]))=some (.sl []):=fun b H=>q09c 0 0 0 b 2 6 H []
 have f2: ∀i b H,idsK i 0 0 0 b H 2 (some (6,[]))=[i]:=fun i b H=>q0Qm i 0 0 0 b 2 6 H []
 simp [zEc,q0Xy,ls,q014,f1,f2]
section
variable (j:Job) (w:wfJ j)
theorem q10r (hM:(j.items.length:Int)+lineN j.notes+j.floats.length<=1000000) (w:okW j) (H:Heap):clD EE (.p (.fn 26)) [vW j] H=some (vI (j.items.length+lineN j.notes+j.floats.length),none):=by
 rw [q002 _ _ _ _ _ _ (noP _) fn26]
 have p:=fun H=>q07d j H
 have l0:=(q0zd j.notes w.lines).1
 have n:=fun H=>q0n8 j.notes H w.n2 (by omega)
 have w1:IntKind.i64.wrap ((j.items.length:Int)+lineN j.notes)=j.items.length+lineN j.notes:=w64 (by omega) (by omega)
 have w2:IntKind.i64.wrap ((j.items.length:Int)+lineN j.notes+j.floats.length)=j.items.length+lineN j.notes+j.floats.length:=w64 (by omega) (by omega)
 simp only [vJob,cGeom,Zd,Zf] at p
 simp [zEc,fldvV,p,n,w1,w2]
def wbE (j:Job) (H:Heap) (n:Int) (i:Nat):St:=⟨[(1,.lptr 1 0),(3,vI n),(4,vI i)],[(1,cJobW j)],H,H.length,[]⟩
def wbX (j:Job) (H:Heap) (n:Int):Ex×St:=(.exit 0,⟨[(1,.lptr 1 0),(3,vI n),(4,vI j.notes.length),(19,vB false)],[(1,cJobW j)],H,H.length,[]⟩)
theorem q10e (hM:(j.items.length:Int)+lineN j.notes+j.floats.length<=1000000) (w:okW j) (H:Heap):clD EE (.p (.fn 30)) [vJob j] H=some (vI (j.items.length+lineN j.notes+j.floats.length),none):=by
 have l0:=(q0zd j.notes w.lines).1
 have key:evD EE q0Za (wbE j H (j.items.length+j.floats.length) 0)=some (wbX j H (j.items.length+j.floats.length+lineN j.notes)):=by
  rw [<-q0Zp j.notes _ 0]
  unfold q0Za
  refine Eq.trans (q00u j.notes (wbE j H) (fun n i=>0<=n/\n<=1000000+1000000*i) (fun n _ x=>n+x.lines.length) (wbX j H) (fun _ _=>rfl) ?_ ?_ _ 0 (by omega) (Zj _)) (by rw [ZG])
  ·intro n i x hi hp
   have hlt:=(Za.1 hp).1
   have hix:=fun H k=>q00c H q00e (k:=k) (s:=2) hp rfl
   have hb:=w.lines x (Zp hp)
   have n2:=w.n2
   have w1:IntKind.i64.wrap ((i:Int)+1)=((i+1:Nat):Int):=w64 (by omega) (by omega)
   have w2:IntKind.i64.wrap (n+(x.lines.length:Int))=n+x.lines.length:=w64 (by omega) (by omega)
   refine ⟨?_,by push_cast;omega⟩
   simp only [wbE,cJobW,cGeom,Zd,Zf]
   simp [hlt,hix,q00e,subs,q001,w1,w2]
  ·intro n _
   refine ⟨?_,by simp [wbX]⟩
   simp only [wbE,wbX,cJobW,cGeom,Zd,Zf]
   simp [subs,q001]
 have w1:IntKind.i64.wrap ((j.items.length:Int)+j.floats.length)=j.items.length+j.floats.length:=w64 (by omega) (by omega)
 have e:(j.items.length:Int)+j.floats.length+lineN j.notes=j.items.length+lineN j.notes+j.floats.length:=by omega
 rw [e] at key
 rw [q002 _ _ _ _ _ _ (noP _) fn30]
 simp only [wbE,wbX,cJobW,cGeom,Zd,Zf] at key
 simp at key
 simp only [vJob,cGeom,Zd,Zf]
 simp [zEc,w1,key]
def wrE (j:Job) (H:Heap) (l:List Colm) (s:Stt):St:=⟨[(2,.lptr 2 0),(3,.lptr 3 0),(5,.row H.length l.length 0 l.length)],[(2,cJobW j),(3,cStt s)],H++[DObj.row 6 (upV (l.map q148))],H.length,[]⟩
def wrX (j:Job) (H:Heap) (l:List Colm) (s:Stt):Ex×St:=(.exit 0,⟨[(2,.lptr 2 0),(3,.lptr 3 0),(5,.row H.length l.length 0 l.length),(15,vB false)],[(2,cJobW j),(3,cStt s)],H++[DObj.row 6 (upV (l.map q148))],H.length,[]⟩)
def wrRel (j:Job) (H:Heap) (s0:Stt) (i:Nat) (S:St):Prop:= ∃l s,S=wrE j H l s/\wits j s0 l s/\l.length=i/\(q01g j s=true->(i:Int)<=q0Xw j s)
def wrFin (j:Job) (H:Heap) (s0:Stt) (r:Ex×St):Prop:= ∃l s,r=wrX j H l s/\wits j s0 l s/\q04r j s=none
include w in
theorem wr_lp (hM:(j.items.length:Int)+lineN j.notes+j.floats.length<=1000000) (H:Heap) (s0:Stt) (S:St) (hS:wrRel j H s0 0 S): ∃r,evD EE q0Y5 S=some r/\wrFin j H s0 r:=by
 have exitS: ∀l s,openS j s=false->evD EE (bodyL q0Y5) (wrE j H l s)=some (wrX j H l s):=by
  intro l s o
  have ri:=fun H=>q025 j w.w s H
  have dn:=fun H=>q09h j w s H
  unfold openS at o
  unfold q0Y5 bodyL
  simp only [wrE,wrX,cJobW,cGeom,Zd,Zf]
  simp only [vJob,cGeom,Zd,Zf] at ri dn
  cases a1:q01g j s with
  |false=>rw [a1] at ri;simp [subs,q001,ri]
  |true=>
   rw [a1] at ri o
   have a2:doneS j s=true:=by simpa using o
   rw [a2] at dn
   simp [subs,q001,ri,dn]
 have lo:q0Y5= .loop [2,3,5] [2,3] (bodyL q0Y5):=rfl
 rw [lo]
 refine q0vo (List.replicate 1000001 ()) (wrRel j H s0) (wrFin j H s0) (by rintro i S ⟨l,s,rfl,-⟩;rfl) ?_ ?_ _ 0 S rfl hS (Zj _)
 ·rintro i x S ⟨l,s,rfl,hw,hl,hm⟩ hx
  have hlt:=(Za.1 hx).1
  simp only [ZM] at hlt
  cases o:openS j s with
  |false=>exact .inr ⟨wrX j H l s,exitS l s o,by simp [wrX],l,s,rfl,hw,q0Y9 o⟩
  |true=>
   obtain ⟨c,e1,e2,-⟩:=q0Yi w o
   obtain ⟨c1,c2,c3⟩:=q0Y6 w e1
   obtain ⟨g1,g2,g3⟩:=q0Y1 w e2
   have ri:=fun H=>q025 j w.w s H
   have dn:=fun H=>q09h j w s H
   have ls:=fun H=>q0tt j w s o H
   have nx:=fun H=>q101 j w.w s c c1 c2 c3 H
   obtain ⟨o1,o2⟩:=(q04a j s).1 o
   rw [(q02k j s).2 o1] at ri
   rw [o2] at dn
   rw [e1] at ls
   unfold vRC at ls
   have hm2:l.length+1<most:=by unfold most;omega
   have hm3:=hm ((q02k j s).2 g1)
   refine .inl ⟨wrE j H (l++[c]) (nextS j s c),?_,l++[c],nextS j s c,rfl,q0Yz hw e1,by simp [hl],fun _=>by push_cast;omega⟩
   generalize nextS j s c=n at*
   unfold q0Y5 bodyL
   simp only [wrE,cJobW,cGeom,Zd,Zf]
   simp only [vJob,cGeom,Zd,Zf] at ri dn ls nx
   simp [subs,q001,fldvV,ri,dn,ls,nx,hm2,q148]
 ·rintro S ⟨l,s,rfl,hw,hl,hm⟩
  have o:openS j s=false:=by
   cases o:openS j s with
   |false=>rfl
   |true=>
    have r:=((q04a j s).1 o).1
    have:=hm ((q02k j s).2 r)
    have:=q0Xx w r
    simp only [ZM] at*
    omega
  exact ⟨wrX j H l s,exitS l s o,by simp [wrX],l,s,rfl,hw,q0Y9 o⟩
include w in
theorem q0Yj (hM:(j.items.length:Int)+lineN j.notes+j.floats.length<=1000000) (s:Stt) {m:List Colm} {t:Stt} (hw:wits j s m t) (ht:q04r j t=none) (H:Heap):clD EE (.p (.fn 28)) [vJob j,vStt s] H=some (vCos m,none):=by
 obtain ⟨r,k1,l,s',rfl,k2,k3⟩:=wr_lp j w hM H s (wrE j H [] s) ⟨[],s,rfl,rfl,rfl,fun h=>(q0Xx w ((q02k j s).1 h)).1⟩
 obtain ⟨rfl,rfl⟩:=q0Ym hw ht k2 k3
 rw [q002 _ _ _ _ _ _ (noP _) fn28]
 simp only [wrE,wrX,cJobW,cGeom,Zd,Zf] at k1
 simp only [vJob,cGeom,Zd,Zf]
 simp [q148] at k1
 have f1: ∀b H,frzK 0 0 0 b H 2 (some (6,[]))=some (.sl []):=fun b H=>q09c 0 0 0 b 2 6 H []
 have f2: ∀i b H,idsK i 0 0 0 b H 2 (some (6,[]))=[i]:=fun i b H=>q0Qm i 0 0 0 b 2 6 H []
 simp [zEc,k1]
end
def wqE (l:List Colm) (H:Heap) (i:Nat):St:=⟨[(0,vCos l),(1,vCos l),(5,vI i)],[],H,H.length,[]⟩
def wqX (l:List Colm) (H:Heap):Ex×St:=(.exit 0,⟨[(0,vCos l),(1,vCos l),(5,vI l.length),(14,vB false)],[],H,H.length,[]⟩)
theorem q0Yr (l:List Colm) (hl:l.length<=1000000) (hx: ∀c∈l,c.notes.length<=1000000/\c.top.length<=1000000/\c.bot.length<=1000000) (H:Heap):clD EE (.p (.fn 27)) [vCos l,vCos l] H=some (vB true,none):=by
 have key:evD EE q0Z9 (wqE l H 0)=some (wqX l H):=by
  unfold q0Z9
  refine Eq.trans (q00u l (fun (_:Unit) i=>wqE l H i) (fun _ _=>True) (fun _ _ _=>()) (fun _=>wqX l H) (fun _ _=>rfl) ?_ ?_ () 0 trivial (Zj _)) rfl
  ·intro _ i x _ hp
   have hlt:=(Za.1 hp).1
   have hix:=fun H k=>q00c H q148 (k:=k) (s:=6) hp rfl
   obtain ⟨c1,c2,c3⟩:=hx x (Zp hp)
   have sm:=fun H=>q0rr x x c1 c2 c3 H
   have e:sameC x x=true:=(q10j x x).2 rfl
   rw [e] at sm
   have w1:IntKind.i64.wrap ((i:Int)+1)=((i+1:Nat):Int):=w64 (by omega) (by omega)
   refine ⟨?_,trivial⟩
   simp [wqE,hlt,hix,q148,subs,q001,w1,sm]
  ·intro _ _
   refine ⟨?_,by simp [wqX]⟩
   simp [wqE,wqX]
 rw [q002 _ _ _ _ _ _ (noP _) fn27]
 simp [wqE,wqX] at key
 simp [zEc,key]
theorem q0Yd {j:Job} (w:wfJ j): ∀ {l:List Colm} {s t:Stt},wits j s l t-> ∀c∈l,c.notes.length<=1000000/\c.top.length<=1000000/\c.bot.length<=1000000
 |[],_,_,_=>fun c hc=>by cases hc
 |x::r,_,_,h=>fun c hc=>by
  rcases ZI.1 hc with rfl|hc
  ·exact q0Y6 w h.1
  ·exact q0Yd w h.2 c hc
theorem q0Ze {j:Job} (w:wfJ j) {l:List Colm} {s t:Stt} (h:wits j s l t):(l.length:Int)<=j.items.length+lineN j.notes+j.floats.length:=by
 cases l with
 |nil=>have:=q0zd j.notes w.w.lines;simp only [Zq];omega
 |cons c r=>
  have g:=(q0Y1 w (q0Y2 w h.1)).1
  exact q10c w g (q0Yp w h).1
def q0Yg (j:Job):Bool:=q0bl j||decide (16<(j.items.length:Int))||decide (3<(j.notes.length:Int))||decide (4<(j.floats.length:Int))||decide (4<j.g.topMany)||decide (4<j.g.botMany)
theorem q0Zv (j:Job) (H:Heap):clD EE (.p (.fn 11)) [vJob j] H=some (vB (q0Yg j),none):=by
 rw [q002 _ _ _ _ _ _ (noP _) fn11]
 have l1:=fun H=>q0yo j H
 unfold q0Yg
 simp only [vJob,cGeom,Zd,Zf] at l1⊢
 cases b1:q0bl j with
 |true=>rw [b1] at l1;simp [zEc,l1]
 |false=>
  rw [b1] at l1
  by_cases h1:(16:Int)<j.items.length
  ·simp [zEc,l1,h1]
  by_cases h2:(3:Int)<j.notes.length
  ·simp [zEc,l1,h1,h2]
  by_cases h3:(4:Int)<j.floats.length
  ·simp [zEc,l1,h1,h2,h3]
  by_cases h4:(4:Int)<j.g.topMany
  ·simp [zEc,l1,h1,h2,h3,h4]
  simp [zEc,l1,h1,h2,h3,h4]
theorem q0Zw (k:Int) (l:List Note) (h: ∀n∈l,(n.lines.length:Int)<=k):lineN l<=k*l.length:=by
 induction l with
 |nil=>simp [lineN]
 |cons n r ih=>
  have h1:=h n ZE
  have h2:=ih fun m hm=>h m (Zv _ hm)
  simp only [lineN,Zo,List.sum_cons,Zg] at h2⊢
  push_cast
  rw [Int.mul_add]
  omega
theorem q10f {j:Job} (s:small j):(j.items.length:Int)+lineN j.notes+j.floats.length<=1000000:=by
 have a:=s.items
 have b:=s.notes
 have c:=s.floats
 have d:=q0Zw 100 j.notes fun n hn=>by have:=(s.each n hn).1;omega
 omega
theorem q10s (j:Job) (w:okW j) {m:List Colm} (hm: ∀H,clD EE (.p (.fn 25)) [vW j,vStt (q0Y3 j)] H=some (vCos m,none)) (H:Heap):clD EE (.p (.fn 24)) [vW j] H=some (vCos m,none):=by
 rw [q002 _ _ _ _ _ _ (noP _) fn24]
 have st:=fun H=>q0Zz j w H
 have e:eqnV NK.ptr false (vW j)=some (vB false):=rfl
 simp [zEc,st,hm,e]
theorem q0Zn (j:Job) (w:okW j) (H:Heap):clD EE (.p (.fn 29)) [vJob j] H=some (vStt (q0Y3 j),none):=by
 rw [q002 _ _ _ _ _ _ (noP _) fn29]
 have t:=fun H=>q0z5 j.items 0 w.n1 H
 simp only [vJob,cGeom,Zd,Zf]
 simp [zEc,t,q0Y3,zeroC]
theorem q10g (H:Heap):clD EE (.p (.fn 24)) [.p .nilp] H=some (vCos [],none):=by
 rw [q002 _ _ _ _ _ _ (noP _) fn24]
 simp [zEc]
theorem witnessTells_ev (j:Job) (hj:jobI j) (s:Stt):clD EE (.p (.fn 4)) [vJob j,vStt s] []=some (.p (.bool true),none):=by
 rw [q002 _ _ _ _ _ _ (noP _) fn4]
 have l1:=fun H=>q0Zv j H
 have aw:=fun H=>q10n H
 simp only [vJob,cGeom,Zd,Zf] at l1
 cases b1:q0Yg j with
 |true=>simp [zEc,l1,b1,aw]
 |false=>
  have b2:q0bl j=false:=by
   unfold q0Yg at b1
   simp only [Bool.or_eq_false_iff] at b1
   exact b1.1.1.1.1.1
  have sm:=q0ym b2
  have ok:=q0mo hj sm
  have sms:=q0r9 sm
  have okS:=q0mo (q0vm hj) sms
  have hw:=q0Cs j ok okS (fun n hn=>by have:=sms.each n hn;omega)
  have hx:=fun H=>q0vl j ok H
  by_cases h:(q02q j).1=0
  ·have r:=(q0it j).1 h
   have w:=wf_of r sms
   have hM:=q10f sms
   obtain ⟨m,t,a1,a2,a3⟩:=q0Yq (snapG j) w hM s
   obtain ⟨n,u,c1,c2,c3⟩:=q0Yq (snapG j) w hM (q0Y3 (snapG j))
   have k1:=fun H=>q0Yj (snapG j) w hM s a1 a2 H
   have k2:=fun H=>q0Yj (snapG j) w hM (q0Y3 (snapG j)) c1 c2 H
   have k3:=fun H=>q10s (snapG j) w.w c3 H
   have k4:=fun H=>q0Zn (snapG j) w.w H
   have k5:=fun H=>q10r (snapG j) hM w.w H
   have k6:=fun H=>q10e (snapG j) hM w.w H
   have k7:=fun H=>q0Yr m (by have:=q0Ze w a1;omega) (q0Yd w a1) H
   have k8:=fun H=>q0Yr n (by have:=q0Ze w c1;omega) (q0Yd w c1) H
   simp only [if_pos h] at hw hx
   generalize ((snapG j).items.length:Int)+lineN (snapG j).notes+(snapG j).floats.length=B at*
   generalize q0Y3 (snapG j)=q at*
   generalize snapG j=J at*
   simp only [vJob,cJobW,cGeom,Zd,Zf] at hw hx k1 k2 k4 k6
   simp [zEc,fldvV,solN,sd,l1,b1,aw,hw,hx,a3,k1,k2,k3,k4,k5,k6,k7,k8]
  ·have k1:=fun H=>q10g H
   have k2:=fun H=>q0Zm s H
   have k3:=fun H=>q117 H
   simp only [if_neg h] at hw hx
   simp only [vJob,cGeom,Zd,Zf] at hw hx
   simp [zEc,fldvV,solN,sd,l1,b1,aw,hw,hx,k1,k2,k3]
end Go.EnvOf
