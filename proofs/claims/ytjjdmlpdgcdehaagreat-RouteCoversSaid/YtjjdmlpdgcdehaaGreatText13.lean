/- The law of what a pagination covers: each item once, but for loose ones; what it costs is the sum of its parts. -/
import Derived.Test.YtjjdmlpdgcdehaaGreatText12
set_option linter.unusedSimpArgs false
set_option linter.unusedVariables false
namespace Go.EnvOf
open Go Go.Eng
set_option maxRecDepth 100000
def cvS (j:Job) (st:(Int×Int)×Stt) (_:Nat) (c:Colm):(Int×Int)×Stt:=(addCs st.1 (costC j st.2 c),nextS j st.2 c)
theorem q14u {α τ:Type} (f:τ->Nat->α->τ): ∀(a b:List α) (s:τ) (i:Nat),fold f s i (a++b)=fold f (fold f s i a) (i+a.length) b
 |[],_,_,_=>rfl
 |x::r,b,s,i=>by
  simp only [Zd,fold,q14u f r,Zg]
  rw [show i+1+r.length=i+(r.length+1) by omega]
theorem q14n {j:Job}: ∀ {l:List Colm} {s:Stt} (sm:Int×Int) (i k:Nat),q0Yo j s l->runF (q06c j) j sm s i l=((fold (cvS j) (sm,s) k l).1,(fold (cvS j) (sm,s) k l).2,0,i+l.length)
 |[],_,_,_,_,_=>rfl
 |c::l,s,sm,i,k,h=>by
  simp only [runF,if_pos h.1,fold,Zg]
  rw [q14n _ (i+1) (k+1) h.2,show i+1+l.length=i+(l.length+1) by omega]
  rfl
theorem q14g {j:Job}: ∀ {l:List Colm} {s:Stt} (n:Nat),q0Yo j s l->q0Yo j s (l.take n)
 |_,_,0,_=>by simp [q0Yo]
 |[],_,_+1,_=>by simp [q0Yo]
 |_::_,_,n+1,h=>⟨h.1,q14g n h.2⟩
theorem q15f {j:Job} {l:List Colm} (h:q0Yo j (q0Y3 j) l) (n:Nat) (hn:n<=l.length):(fold (cvS j) ((toldF (q06c j) j (l.take n)).sum,(toldF (q06c j) j (l.take n)).fin) n (l.drop n)).1=(toldF (q06c j) j l).sum:=by
 rw [(q14h _ _ _).1,(q14h _ _ _).2,(q14h _ _ _).1,q14n (0,0) 0 0 h,q14n (0,0) 0 0 (q14g n h)]
 have:=q14u (cvS j) (l.take n) (l.drop n) ((0,0),q0Y3 j) 0
 rw [List.take_append_drop,ZC,Zs,Nat.min_eq_left hn] at this
 rw [this]
def cvE (j:Job) (l:List Colm) (n:Int) (w:V) (all:List Int) (a:Int) (i:Nat):St:=⟨[(1,vCos l),(2,vI n),(3,.lptr 3 0),(7,w),(9,sli all),(10,vI a),(11,vI i)],[(3,cJobW j)],[],0,[]⟩
def cvX0 (j:Job) (l:List Colm) (n:Int) (w:V) (all:List Int) (a:Int) (i:Nat):Ex×St:=(.exit 2,⟨[(1,vCos l),(2,vI n),(3,.lptr 3 0),(7,w),(9,sli all),(10,vI a),(11,vI i),(62,vB false)],[(3,cJobW j)],[],0,[]⟩)
theorem q168 (j:Job) (l:List Colm) (n:Int) (w:V) (all:List Int) (a b:Int) (i:Nat) (hb:all[i]? =some b) (h0:0<=a) (h1:a<=b) (h2:b<=j.items.length) (h3:j.items.length<=1000000)
  (hl: ∀k:Int,a<=k->k<b->q04c (rd j.items k)=true):evD EE lp3_0 (cvE j l n w all a i)=some (cvX0 j l n w all b i):=by
 have hix:=fun H k=>q00c H encI (k:=k) (s:=1) hb rfl
 simp only [encI] at hix
 have key:evD EE lp3_0 (cvE j l n w all (a+(0:Nat)) i)=some (cvX0 j l n w all b i):=by
  unfold lp3_0
  refine q00u (List.replicate (b-a).toNat ()) (fun (_:Unit) (m:Nat)=>cvE j l n w all (a+m) i) (fun _ _=>True) (fun _ _ _=>()) (fun _=>cvX0 j l n w all b i) (fun _ _=>rfl) ?_ ?_ () 0 trivial (Zj _)
  ·intro _ m x _ hp
   have hm:=(Za.1 hp).1
   simp only [ZM] at hm
   refine ⟨?_,trivial⟩
   have lt:a+(m:Int)<b:=by omega
   have ge:0<=a+(m:Int):=by omega
   have hx:=q026 j.items (a+m) ge (by omega)
   have hiy:=fun H k=>q024 H q004 (k:=k) (s:=7) ge hx rfl
   simp only [q004] at hiy
   have lo:=fun H=>q0j6 (rd j.items (a+m)) H
   rw [hl (a+m) (by omega) lt] at lo
   have w1:IntKind.i64.wrap (a+(m:Int)+1)=a+((m+1:Nat):Int):=by push_cast;rw [w64 (by omega) (by omega)];omega
   generalize rd j.items (a+m)=y at*
   have e:a+((m+1:Nat):Int)=a+((m:Int)+1):=by push_cast;rfl
   rw [e] at w1
   simp only [cvE,cJobW,cGeom,Zd,Zf]
   simp [hix,lt,hiy,lo,w1,subs,q001]
  ·intro _ _
   refine ⟨?_,by simp [cvX0]⟩
   have e:a+(((List.replicate (b-a).toNat ()).length:Nat):Int)=b:=by simp only [ZM];omega
   simp only [e]
   simp only [cvE,cvX0,cJobW,cGeom,Zd,Zf]
   simp [hix,subs,q001]
 have z:a+((0:Nat):Int)=a:=by simp
 rw [z] at key
 exact key
theorem q155 {E:Env} {ks kl:List Nat} {c:IC} {S T:St} (h:S.keep ks kl=T.keep ks kl):evD E (.loop ks kl c) S=evD E (.loop ks kl c) T:=by rw [q003,q003,h]
theorem q160 (j:Job) (l:List Colm) (n:Int) (w:V) (all:List Int) (a:Int) (i:Nat):evD EE lp3_0 ⟨[(1,vCos l),(2,vI n),(3,.lptr 3 0),(7,w),(9,sli all),(10,vI a),(11,vI i),(54,vB true)],[(3,cJobW j)],[],0,[]⟩=evD EE lp3_0 (cvE j l n w all a i):=q155 rfl
theorem q14p: ∀P:List (Int×Int),(flatP P).length=2*P.length
 |[]=>rfl
 |x::r=>by have:=q14p r;unfold flatP at*;simp only [List.flatMap_cons,Zt,Zg,Zq] at*;omega
theorem q14v: ∀(P:List (Int×Int)) (m:Nat) (x:Int×Int),P[m]? =some x->(flatP P)[2*m]? =some x.1/\(flatP P)[2*m+1]? =some x.2
 |[],_,_,h=>by simp at h
 |y::r,0,x,h=>by simp at h;subst h;exact ⟨rfl,rfl⟩
 |y::r,m+1,x,h=>by
  have ih:=q14v r m x (by simpa using h)
  have e:flatP (y::r)=y.1::y.2::flatP r:=rfl
  rw [e,show 2*(m+1)=2*m+1+1 by omega]
  simpa using ih
def cvR (j:Job) (l:List Colm) (n:Int) (w:V) (P:List (Int×Int)) (m:Nat) (S:St):Prop:= ∃a i,S=cvE j l n w (flatP P) a i/\i=2*m/\0<=a/\covP (fun k=>q04c (rd j.items k)) j.items.length a (P.drop m)
def cvX1 (j:Job) (l:List Colm) (n:Int) (w:V) (all:List Int) (a:Int) (i:Nat):Ex×St:=(.exit 0,⟨[(1,vCos l),(2,vI n),(3,.lptr 3 0),(7,w),(9,sli all),(10,vI a),(11,vI i),(54,vB false)],[(3,cJobW j)],[],0,[]⟩)
def cvF (j:Job) (l:List Colm) (n:Int) (w:V) (P:List (Int×Int)) (r:Ex×St):Prop:= ∃a i,r=cvX1 j l n w (flatP P) a i/\0<=a/\covP (fun k=>q04c (rd j.items k)) j.items.length a []
theorem q169 (j:Job) (l:List Colm) (n:Int) (w:V) (P:List (Int×Int)) (hP:P.length<=1000000) (h3:j.items.length<=1000000) (S:St) (hS:cvR j l n w P 0 S): ∃r,evD EE lp3_1 S=some r/\cvF j l n w P r:=by
 have fl:=q14p P
 unfold lp3_1
 refine q0vo P (cvR j l n w P) (cvF j l n w P) (by rintro i S ⟨a,i,rfl,-⟩;rfl) ?_ ?_ _ 0 S rfl hS (Zj _)
 ·rintro m x S ⟨a,i,rfl,hi,h0,hc⟩ hx
  have hlt:=(Za.1 hx).1
  have hd:P.drop m=x::P.drop (m+1):=by
   rw [ZA hlt]
   congr 1
   exact (Za.1 hx).2
  rw [hd] at hc
  obtain ⟨c1,c2,c3,c4,c5⟩:=hc
  obtain ⟨g1,g2⟩:=q14v P m x hx
  rw [<-hi] at g1 g2
  have k0:=q168 j l n w (flatP P) a x.1 i g1 h0 c2 (by omega) h3 c1
  rw [<-q160] at k0
  have hix:=fun H k=>q00c H encI (k:=k) (s:=1) g1 rfl
  have hiy:=fun H k=>q024 H encI (k:=k) (i:=(i:Int)+1) (s:=1) (by omega) (by rw [show ((i:Int)+1).toNat=i+1 by omega];exact g2) rfl
  simp only [encI] at hix hiy
  have w1:IntKind.i64.wrap ((i:Int)+1)=(i:Int)+1:=w64 (by omega) (by omega)
  have w2:IntKind.i64.wrap ((i:Int)+2)=(i:Int)+2:=w64 (by omega) (by omega)
  have lt:(i:Int)+1<(flatP P).length:=by omega
  have ne: ¬x.2<=x.1:=by omega
  refine .inl ⟨cvE j l n w (flatP P) x.2 (i+2),?_,x.2,i+2,rfl,by omega,by omega,c5⟩
  generalize flatP P=all at*
  simp only [cvE,cvX0,cJobW,cGeom,Zd,Zf] at k0⊢
  simp [w1,w2,lt,k0,hix,hiy,ne,subs,q001]
 ·rintro S ⟨a,i,rfl,hi,h0,hc⟩
  rw [List.drop_length] at hc
  refine ⟨cvX1 j l n w (flatP P) a i,?_,by simp [cvX1],a,i,rfl,h0,hc⟩
  have w1:IntKind.i64.wrap ((i:Int)+1)=(i:Int)+1:=w64 (by omega) (by omega)
  have lt: ¬(i:Int)+1<(flatP P).length:=by omega
  generalize flatP P=all at*
  simp only [cvE,cvX1,cJobW,cGeom,Zd,Zf]
  simp [w1,lt,subs,q001]
def cwE (j:Job) (l:List Colm) (n:Int) (w:V) (a:Int):St:=⟨[(1,vCos l),(2,vI n),(3,.lptr 3 0),(7,w),(10,vI a)],[(3,cJobW j)],[],0,[]⟩
def cwX (j:Job) (l:List Colm) (n:Int) (w:V) (a:Int):Ex×St:=(.exit 4,⟨[(1,vCos l),(2,vI n),(3,.lptr 3 0),(7,w),(10,vI a),(96,vB false)],[(3,cJobW j)],[],0,[]⟩)
theorem q16a (j:Job) (l:List Colm) (n:Int) (w:V) (h3:j.items.length<=1000000) (a:Int) (h0:0<=a) (hl: ∀k:Int,a<=k->k<j.items.length->q04c (rd j.items k)=true): ∃b,evD EE lp3_2 (cwE j l n w a)=some (cwX j l n w b):=by
 refine ⟨a+((j.items.length:Int)-a).toNat,?_⟩
 have key:evD EE lp3_2 (cwE j l n w (a+(0:Nat)))=some (cwX j l n w (a+((j.items.length:Int)-a).toNat)):=by
  unfold lp3_2
  refine q00u (List.replicate ((j.items.length:Int)-a).toNat ()) (fun (_:Unit) (m:Nat)=>cwE j l n w (a+m)) (fun _ _=>True) (fun _ _ _=>()) (fun _=>cwX j l n w (a+((j.items.length:Int)-a).toNat)) (fun _ _=>rfl) ?_ ?_ () 0 trivial (Zj _)
  ·intro _ m x _ hp
   have hm:=(Za.1 hp).1
   simp only [ZM] at hm
   refine ⟨?_,trivial⟩
   have lt:a+(m:Int)<j.items.length:=by omega
   have ge:0<=a+(m:Int):=by omega
   have hx:=q026 j.items (a+m) ge (by omega)
   have hiy:=fun H k=>q024 H q004 (k:=k) (s:=7) ge hx rfl
   simp only [q004] at hiy
   have lo:=fun H=>q0j6 (rd j.items (a+m)) H
   rw [hl (a+m) (by omega) lt] at lo
   have w1:IntKind.i64.wrap (a+(m:Int)+1)=a+((m:Int)+1):=by rw [w64 (by omega) (by omega)];omega
   generalize rd j.items (a+m)=y at*
   simp only [cwE,cJobW,cGeom,Zd,Zf]
   simp [lt,hiy,lo,w1,subs,q001]
  ·intro _ _
   refine ⟨?_,by simp [cwX]⟩
   simp only [ZM]
   have ge: ¬a+(((j.items.length:Int)-a).toNat:Int)<j.items.length:=by omega
   generalize a+(((j.items.length:Int)-a).toNat:Int)=b at*
   simp only [cwE,cwX,cJobW,cGeom,Zd,Zf]
   simp [ge,subs,q001]
 have z:a+((0:Nat):Int)=a:=by simp
 rw [z] at key
 exact key
def cyE (J:Job) (l:List Colm) (w:V) (st:(Int×Int)×Stt) (i:Nat):St:=⟨[(1,vCos l),(7,w),(13,.lptr 13 0),(14,.lptr 14 0),(15,.lptr 15 0),(16,vI i)],[(13,[vI st.1.1,vI st.1.2]),(14,cJobW J),(15,cStt st.2)],[],0,[]⟩
def cyX (J:Job) (l:List Colm) (w:V) (st:(Int×Int)×Stt):Ex×St:=(.exit 6,⟨[(1,vCos l),(7,w),(13,.lptr 13 0),(14,.lptr 14 0),(15,.lptr 15 0),(16,vI l.length),(122,vB false)],[(13,[vI st.1.1,vI st.1.2]),(14,cJobW J),(15,cStt st.2)],[],0,[]⟩)
theorem q16b (J:Job) (w:okW J) (p:priced J) (hf: ∀x∈J.items,fairI x) (l:List Colm) (hl:l.length<=1000000) (hc: ∀c∈l,c.notes.length<=1000000/\c.top.length<=1000000/\c.bot.length<=1000000) (v:V) (st:(Int×Int)×Stt) (i:Nat) (hi:i<=l.length):
  evD EE lp3_3 (cyE J l v st i)=some (cyX J l v (fold (cvS J) st i (l.drop i))):=by
 unfold lp3_3
 refine q00u l (cyE J l v) (fun _ _=>True) (cvS J) (cyX J l v) (fun _ _=>rfl) ?_ ?_ st i trivial hi
 ·intro st i x _ hp
  have hlt:=(Za.1 hp).1
  have hix:=fun H k=>q00c H q148 (k:=k) (s:=6) hp rfl
  simp only [q148] at hix
  obtain ⟨c1,c2,c3⟩:=hc x (Zp hp)
  have w1:IntKind.i64.wrap ((i:Int)+1)=((i+1:Nat):Int):=w64 (by omega) (by omega)
  have co:=fun H=>q15d J w p hf st.2 x c1 c2 c3 H
  have nx:=fun H=>q101 J w st.2 x c1 c2 c3 H
  have ad:=fun a b c d H=>q0Tv a b c d H
  refine ⟨?_,trivial⟩
  unfold cvS addCs
  generalize costC J st.2 x=C at*
  generalize nextS J st.2 x=n at*
  obtain ⟨sm,s⟩:=st
  simp only [vJob,cGeom,Zd,Zf] at co nx
  simp only [cyE,cJobW,cGeom,Zd,Zf]
  simp [hlt,hix,co,nx,ad,w1,subs,q001]
 ·intro st _
  refine ⟨?_,by simp [cyX]⟩
  simp only [cyE,cyX,cJobW,cGeom,Zd,Zf]
  simp
theorem q161 (j:Job) (l:List Colm) (n:Int) (w:V) (all:List Int) (a:Int) (i:Nat):evD EE lp3_2 ⟨[(1,vCos l),(2,vI n),(3,.lptr 3 0),(7,w),(9,sli all),(10,vI a),(11,vI i),(54,vB false)],[(3,cJobW j)],[],0,[]⟩=evD EE lp3_2 (cwE j l n w a):=q155 rfl
theorem q15g (j:Job) (k:Int) (h0:0<=k) (h1:k<(snapG j).items.length) (h:q04c (rd (snapG j).items k)=true):q04c (rd j.items k)=true:=by
 obtain ⟨f,hf,hk⟩:=q0fj j
 rw [hf] at h h1
 rw [Z0] at h1
 have a:=q026 (j.items.map f) k h0 (by rw [Z0];exact h1)
 have b:=q026 j.items k h0 h1
 rw [List.getElem?_map,b] at a
 have e:rd (j.items.map f) k=f (rd j.items k):=(Option.some.inj a).symm
 rw [e] at h
 unfold q04c at*
 rw [(hk _).1] at h
 exact h
theorem q14w: ∀l:List Colm,(texP l).length<=l.length
 |[]=>Zm _
 |c::r=>by
  have:=q14w r
  unfold texP at*
  have e:(if c.k=1 then [(c.frm,c.to)] else []).length<=1:=by split<;>simp
  rw [List.flatMap_cons,Zt,Zg]
  omega
theorem routeCovers_ev (j:Job) (hj:jobI j) (l:List Colm) (n:Int):clD EE (.p (.fn 3)) [vJob j,vCos l,vI n] []=some (.p (.bool true),none):=by
 rw [q002 _ _ _ _ _ _ (noP _) fn3]
 have l1:=fun H=>q0Zv j H
 have l2:=fun H=>q15b l H
 have aw:=fun H=>q15c H
 simp only [vJob,cGeom,Zd,Zf] at l1
 cases b1:q0Yg j with
 |true=>simp [zEc,l1,b1,aw]
 |false=>
  cases b3:q14b l with
  |true=>simp [zEc,l1,b1,l2,b3,aw]
  |false=>
   by_cases n1:n<0
   ·simp [zEc,l1,b1,l2,b3,n1,aw]
   by_cases n2:(l.length:Int)<n
   ·simp [zEc,l1,b1,l2,b3,n1,n2,aw]
   have b2:q0bl j=false:=by
    unfold q0Yg at b1
    simp only [Bool.or_eq_false_iff] at b1
    exact b1.1.1.1.1.1
   have sm:=q0ym b2
   have ok:=q0mo hj sm
   have sms:=q0r9 sm
   have okS:=q0mo (q0vm hj) sms
   have hw:=q0Cs j ok okS (fun n hn=>by have:=sms.each n hn;omega)
   have hx:=fun H=>q0vl j ok H
   obtain ⟨q1,q2⟩:=q15a b3
   by_cases h:(q02q j).1=0
   ·have r:=(q0it j).1 h
    have w:=wf_of r sms
    have hf:=q0iz r
    have pr:=q15i r
    have lens: ∀c∈l,c.notes.length<=1000000/\c.top.length<=1000000/\c.bot.length<=1000000:=fun c hc=>by have:=q2 c hc;omega
    have asks: ∀c∈l,Asks (q06c (snapG j)) (snapG j) c:=fun c hc=>asksC _ w hf c (lens c hc)
    have k1:=fun H=>q126 (q06c (snapG j)) (snapG j) w.w l (by omega) asks H
    simp only [if_pos h] at hw hx
    by_cases ht:(toldF (q06c (snapG j)) (snapG j) l).e=0
    ·simp only [ht,decide_true] at k1
     obtain ⟨g1,g2⟩:=q15e ht
     have sr:=(q02k _ _).1 (q12f w.cols)
     have gr:=(q0Z0 w sr g1).1
     have ea:(goS (snapG j) (q0Y3 (snapG j)) l).at_=(snapG j).items.length:=by
      unfold doneS at g2
      simp only [Zb,decide_eq_true_eq] at g2
      exact g2.1.1.1.2
     have cov:=q14e w (p:=fun k=>q04c (rd j.items k)) (fun k h0 h1 h2=>q15g j k h0 h1 h2) (a:=0) sr (ZS _) sr.at0 (fun k h0 h1=>by
      have e0:(q0Y3 (snapG j)).at_=trimF (snapG j).items 0:=rfl
      rw [e0] at h1
      exact q14j (ZS _) h0 h1) g1 ea
     rw [q0v4] at cov
     have k2:=fun H=>q14t l (by omega) H
     have tl:=q14w l
     obtain ⟨r1,k3,a,i,rfl,a0,ca⟩:=q169 j l n (vW (snapG j)) (texP l) (by omega) (by have:=sm.items;omega) (cvE j l n (vW (snapG j)) (flatP (texP l)) 0 0) ⟨0,0,rfl,rfl,ZS _,cov⟩
     obtain ⟨b,k4⟩:=q16a j l n (vW (snapG j)) (by have:=sm.items;omega) a a0 ca
     rw [<-q161 j l n _ (flatP (texP l)) a i] at k4
     have en:((n.toNat:Nat):Int)=n:=by omega
     have k5:=fun H=>q15x l n.toNat (by omega) H
     have k6:=fun H=>q12e (q06c (snapG j)) (snapG j) w.w (l.take n.toNat) (by rw [ZC];omega) (fun c hc=>asks c (Z6 hc)) H
     have k7:=fun H=>q12e (q06c (snapG j)) (snapG j) w.w l (by omega) asks H
     have k8:=q16b (snapG j) w.w pr hf l (by omega) lens (vW (snapG j)) ((toldF (q06c (snapG j)) (snapG j) (l.take n.toNat)).sum,(toldF (q06c (snapG j)) (snapG j) (l.take n.toNat)).fin) n.toNat (by omega)
     have k9:=q15f g1 n.toNat (by omega)
     rw [en] at k5
     generalize fold (cvS (snapG j)) _ _ (l.drop n.toNat)=Fd at*
     generalize toldF (q06c (snapG j)) (snapG j) (l.take n.toNat)=T1 at*
     generalize toldF (q06c (snapG j)) (snapG j) l=T2 at*
     obtain ⟨Fs,Fz⟩:=Fd
     simp only at k9
     subst k9
     generalize flatP (texP l)=all at*
     generalize snapG j=J at*
     simp only [cvE,cvX1,cwX,cyE,cyX,cJobW,cGeom,Zd,Zf,en] at k3 k4 k8
     simp only [vJob,cJobW,cGeom,Zd,Zf] at hw hx
     simp only [vCos,List.map_take] at k6
     simp at k3
     simp [zEc,fldvV,solN,sd,l1,b1,l2,b3,n1,n2,aw,hw,hx,k1,k2,k3,k4,k5,k6,k7,k8]
    ·simp only [ht,decide_false] at k1
     generalize snapG j=J at*
     simp only [vJob,cJobW,cGeom,Zd,Zf] at hw
     simp [zEc,fldvV,solN,sd,l1,b1,l2,b3,n1,n2,aw,hw,k1]
   ·simp only [if_neg h] at hw
    simp only [vJob,cGeom,Zd,Zf] at hw
    simp [zEc,fldvV,solN,sd,l1,b1,l2,b3,n1,n2,aw,hw]
end Go.EnvOf
