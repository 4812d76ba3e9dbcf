/- The program's functions and the document's, evaluated. -/
import Derived.Test.YtjjdmlpdgcdehaaGreatText8
import Derived.Test.YtjjdmlpdgcdehaaGreatText7
import Derived.Test.YtjjdmlpdgcdehaaGreatText5
import Derived.Test.YtjjdmlpdgcdehaaGreatText3
set_option linter.unusedSimpArgs false
set_option linter.unusedVariables false
namespace Go.EnvOf
open Go Go.Eng
set_option maxRecDepth 100000
def filtB (l:List Item) (F:Int) (k n:Nat):List Nat:=(List.range' n k).filter fun (m:Nat)=>decide ((m:Int)<=F)&&mayN l m
theorem q0rp (l:List Item) (F:Int) (n:Nat):filtB l F 0 n=[]:=rfl
theorem q0fo (l:List Item) (F:Int) (k n:Nat):filtB l F (k+1) n=if (n:Int)<=F/\mayN l n=true then n::filtB l F k (n+1) else filtB l F k (n+1):=by
 unfold filtB
 rw [List.range'_succ,List.filter_cons]
 by_cases c:(n:Int)<=F
 ·by_cases m:mayN l n=true<;>simp [c,m]
 ·simp [c]
theorem q0fp (l:List Item) (F:Int): ∀(k n:Nat),F<n->filtB l F k n=[]
 |0,n,h=>rfl
 |k+1,n,h=>by rw [q0fo,if_neg (by omega),q0fp l F k (n+1) (by omega)]
theorem q0fq (l:List Item) (F:Int): ∀(k n:Nat),filtB l F k n=if seekP (mayN l) k n= -1 then [] else if seekP (mayN l) k n<=F then (seekP (mayN l) k n).toNat::filtB l F (n+k-((seekP (mayN l) k n).toNat+1)) ((seekP (mayN l) k n).toNat+1) else []
 |0,n=>by simp [seekP,q0rp]
 |k+1,n=>by
  rw [q0fo,seekP]
  by_cases m:mayN l n=true
  ·rw [if_pos m,if_neg (show¬(n:Int)= -1 by omega)]
   by_cases c:(n:Int)<=F
   ·rw [if_pos ⟨c,m⟩,if_pos c]
    have e:n+(k+1)-((n:Int).toNat+1)=k:=by omega
    rw [e];rfl
   ·rw [if_neg (fun h=>c h.1),if_neg c,q0fp l F k (n+1) (by omega)]
  ·rw [if_neg (fun h=>m h.2),if_neg m,q0fq l F k (n+1)]
   have e:n+1+k=n+(k+1):=by omega
   rw [e]
def bkE (l:List Item) (F:Int) (H:Heap) (acc:List Int) (b:Int):St:=⟨[(0,q00d l),(5,.row H.length acc.length 0 acc.length),(6,vI F),(7,vI b)],[],H++[.row 1 (upV (acc.map encI))],H.length,[]⟩
def bkX (l:List Item) (F:Int) (H:Heap) (acc:List Int) (b:Int):Ex×St:=(.exit 0,⟨[(0,q00d l),(5,.row H.length acc.length 0 acc.length),(6,vI F),(7,vI b),(20,vB false)],[],H++[.row 1 (upV (acc.map encI))],H.length,[]⟩)
theorem bk_lp (l:List Item) (hl:l.length<=1000000) (F:Int) (H:Heap): ∀(k n:Nat) (acc:List Int),(n+k=l.length+1\/k=0)->acc.length<=n-> ∃b,evD EE q0W3 (bkE l F H acc (seekP (mayN l) k n))=some (bkX l F H (acc++(filtB l F k n).map Int.ofNat) b):=by
 intro k
 induction k using Nat.strongRecOn with
 |_ k ih=>
  intro n acc hk ha
  have hb:=q07g (mayN l) k n
  rw [q0fq]
  generalize hs:seekP (mayN l) k n=b at*
  rcases hb with rfl|⟨h1,h2,h3⟩
  ·refine ⟨-1,?_⟩
   unfold q0W3
   rw [q003]
   simp [bkE,bkX]
  ·have hb0:0<b\/b=0:=by omega
   rcases hb0 with hb0|hb0
   ·rw [if_neg (by omega)]
    by_cases c:b<=F
    ·rw [if_pos c]
     have fi:=fun H=>q0bs l hl b H
     have e0:(b.toNat:Int)=b:=by omega
     have hp:pos b=b.toNat:=by unfold pos;omega
     have e1:q015 l b=seekP (mayN l) (n+k-(b.toNat+1)) (b.toNat+1):=by
      unfold q015;rw [hp];congr 1;omega
     obtain ⟨b',h4⟩:=ih (n+k-(b.toNat+1)) (by omega) (b.toNat+1) (acc++[b]) (by omega) (by simp;omega)
     refine ⟨b',?_⟩
     have e2:acc++List.map Int.ofNat (b.toNat::filtB l F (n+k-(b.toNat+1)) (b.toNat+1))=(acc++[b])++(filtB l F (n+k-(b.toNat+1)) (b.toNat+1)).map Int.ofNat:=by
      simp [hb0,e0,show max b 0=b by omega]
     rw [e2,<-h4,<-e1]
     have hm:acc.length+1<most:=by unfold most;omega
     conv=>lhs;unfold q0W3
     rw [q003]
     have w0: ∀z,clD EE (.p (.fn 259)) [q00d l,vI b] z=some (vI (q015 l b),none):=fi
     simp only [bkE]
     simp [hb0,c,hm,w0]
     rfl
    ·rw [if_neg c]
     refine ⟨b,?_⟩
     unfold q0W3
     rw [q003]
     simp [bkE,bkX,hb0,c]
   ·exfalso
    subst hb0
    unfold mayN mayV at h3
    simp at h3
theorem q0z8 (l:List Item) (a:Int):brkN l a=filtB l (q010 l a) (l.length-pos a) (pos a+1):=rfl
theorem q0vh (l:List Item) (hl:l.length<=1000000) (a:Int) (H:Heap):clD EE (.p (.fn 184)) [q00d l,vI a] H=some (sli (brkF l a),none):=by
 rw [q002 _ _ _ _ _ _ (noP _) fn184]
 have f1:=fun H=>q0z7 l hl a H
 have f2:=fun H=>q0bs l hl a H
 obtain ⟨b,k⟩:=bk_lp l hl (q010 l a) H (l.length-pos a) (pos a+1) [] (by omega) (by simp)
 have e:q015 l a=seekP (mayN l) (l.length-pos a) (pos a+1):=rfl
 rw [<-e,<-q0z8,Zf] at k
 change _=some (bkX l (q010 l a) H (brkF l a) b) at k
 generalize brkF l a=R at*
 simp [bkE,bkX] at k
 simp [zEa,f1,f2,k]
end Go.EnvOf
namespace Go.EnvOf
open Go Go.Eng
set_option maxRecDepth 100000
abbrev c6 (t:Tot):List V:=[vI t.nat,vI t.s0,vI t.s1,vI t.s2,vI t.s3,vI t.shr]
theorem q0f3 (t:Tot) (H:Heap):clD EE (.p (.fn 327)) [vTot t] H=some (.agg (c6 t),none):=by
 rw [q002 _ _ _ _ _ _ (noP _) fn327]
 simp [zEc,ixaV,q007]
theorem q0x2 (t:Tot) (H:Heap):clD EE (.p (.fn 328)) [.agg (c6 t)] H=some (vTot t,none):=by
 rw [q002 _ _ _ _ _ _ (noP _) fn328]
 simp [zEc,ixaV,q007]
theorem q057 (a b:Int) (ha:I64 a) (hb:I64 b) (hc:I64 (a+b)) (H:Heap):clD EE (.p (.fn 324)) [vI a,vI b] H=some (.agg [vI (a+b),vB true],none):=by
 rw [q002 _ _ _ _ _ _ (noP _) fn324]
 obtain ⟨a1,a2⟩:=ha
 obtain ⟨b1,b2⟩:=hb
 obtain ⟨c1,c2⟩:=hc
 have w:IntKind.i64.wrap (a+b)=a+b:=w64 (by omega) (by omega)
 by_cases p:0<b
 ·have w2:IntKind.i64.wrap (9223372036854775807-b)=9223372036854775807-b:=w64 (by omega) (by omega)
  have q: ¬9223372036854775807-b<a:=by omega
  have q2: ¬b<0:=by omega
  simp [zEc,p,w2,q,q2,w]
 ·by_cases n:b<0
  ·have w2:IntKind.i64.wrap (-9223372036854775808-b)= -9223372036854775808-b:=w64 (by omega) (by omega)
   have q: ¬a< -9223372036854775808-b:=by omega
   simp [zEc,p,n,w2,q,w]
  ·simp [zEc,p,n,w]
theorem q0qu (a b:Tot) (ha:inT64 a) (hb:inT64 b) (hc:inT64 (addT a b)) (H:Heap):clD EE (.p (.fn 252)) [vTot a,vTot b] H=some (.agg (c6 (addT a b)++[vB true]),none):=by
 rw [q002 _ _ _ _ _ _ (noP _) fn252]
 have na:=fun H=>q0f3 a H
 have nb:=fun H=>q0f3 b H
 have k0:=fun H=>q057 _ _ ha.nat hb.nat hc.nat H
 have k1:=fun H=>q057 _ _ ha.s0 hb.s0 hc.s0 H
 have k2:=fun H=>q057 _ _ ha.s1 hb.s1 hc.s1 H
 have k3:=fun H=>q057 _ _ ha.s2 hb.s2 hc.s2 H
 have k4:=fun H=>q057 _ _ ha.s3 hb.s3 hc.s3 H
 have k5:=fun H=>q057 _ _ ha.shr hb.shr hc.shr H
 have o:=fun H=>q0x2 (addT a b) H
 unfold addT at o⊢
 simp only [c6] at na nb o⊢
 have w1:IntKind.i64.wrap 1=1:=by decide
 have w2:IntKind.i64.wrap 2=2:=by decide
 have w3:IntKind.i64.wrap 3=3:=by decide
 have w4:IntKind.i64.wrap 4=4:=by decide
 have w5:IntKind.i64.wrap 5=5:=by decide
 have w6:IntKind.i64.wrap 6=6:=by decide
 simp [zEc,ixaV,q007,q0Xk,q003,na,nb,k0,k1,k2,k3,k4,k5,o,w1,w2,w3,w4,w5,w6]
theorem q0tf (h:Int) (H:Heap):clD EE (.p (.fn 329)) [vI h] H=some (vTot ⟨h,0,0,0,0,0⟩,none):=by
 rw [q002 _ _ _ _ _ _ (noP _) fn329]
 simp [zEc]
theorem q0qv (h str ord shr:Int) (H:Heap):clD EE (.p (.fn 330)) [vI h,vI str,vI ord,vI shr] H=some (vTot (glueT h str ord shr),none):=by
 rw [q002 _ _ _ _ _ _ (noP _) fn330]
 unfold glueT
 by_cases c0:ord=0
 ·simp [zEc,c0,ixaV,q007]
 ·by_cases c1:ord=1
  ·simp [zEc,c1,ixaV,q007]
  ·by_cases c2:ord=2
   ·simp [zEc,c2,ixaV,q007]
   ·by_cases c3:ord=3
    ·simp [zEc,c3,ixaV,q007]
    ·by_cases c4:ord<0
     ·simp [zEc,c0,c1,c2,c3,show¬0<=ord by omega]
     ·simp [zEc,c0,c1,c2,c3,show 0<=ord by omega,show¬ord<=3 by omega]
theorem q0nv (x:Item) (H:Heap):clD EE (.p (.fn 253)) [vItem x] H=some (vTot (totI x),none):=by
 rw [q002 _ _ _ _ _ _ (noP _) fn253]
 have b:=fun H=>q0tf x.h H
 have g:=fun H=>q0qv x.h x.str x.ord x.shr H
 unfold totI
 by_cases k1:x.k=1
 ·simp [zEc,k1,b]
 ·by_cases k2:x.k=2
  ·simp only [k2,if_neg (show¬(2:Int)=1 by decide),if_true]
   generalize glueT x.h x.str x.ord x.shr=t at*
   simp [zEc,k2,g]
  ·simp [zEc,k1,k2,zeroT]
def rsS (a b:Int) (t:Tot) (i:Nat) (x:Item):Tot:=if a<=i/\(i:Int)<b then addT t (totI x) else t
theorem q0i5 {α τ:Type} (f:τ->Nat->α->τ): ∀(l:List α) (s:τ) (i n:Nat) (x:α),l[n]? =some x->fold f s i (l.take (n+1))=f (fold f s i (l.take n)) (i+n) x
 |[],s,i,n,x,h=>by simp at h
 |y::r,s,i,0,x,h=>by simp at h;subst h;simp [fold]
 |y::r,s,i,n+1,x,h=>by
  simp only [ZZ,fold]
  rw [q0i5 f r _ (i+1) n x (by simpa using h)]
  congr 1;omega
theorem q0x3 (p q x:Tot):addT (subT p q) x=subT (addT p x) q:=by
 unfold addT subT;congr 1<;>simp only<;>omega
theorem q0tg (x:Tot):addT zeroT x=x:=by unfold addT zeroT;simp
theorem q0x4 (p x:Tot):subT (addT p x) p=x:=by
 obtain ⟨a,b,c,d,e,f⟩:=x
 unfold addT subT;congr 1<;>simp<;>omega
theorem q0th (l:List Item) (n:Nat) (x:Item) (h:l[n]? =some x):totP (l.take (n+1))=addT (totP (l.take n)) (totI x):=by
 have hlt:=(Za.1 h).1
 have e:l.take (n+1)=l.take n++[x]:=by
  rw [List.take_add_one,h];rfl
 rw [e,q0iy]
theorem q0x5 (l:List Item) (a b:Int):fold (rsS a b) zeroT 0 l=sumT l a b:=by
 have key: ∀n,n<=l.length->fold (rsS a b) zeroT 0 (l.take n)=if (max a 0).toNat<min (max b 0).toNat n then subT (totP (l.take (min (max b 0).toNat n))) (totP (l.take (max a 0).toNat)) else zeroT:=by
  intro n
  induction n with
  |zero=>intro _;simp [fold]
  |succ n ih=>
   intro hn
   have hx:l[n]? =some l[n]:=Zl (by omega)
   rw [q0i5 _ l _ 0 n _ hx,ih (by omega),Zs]
   have ht:=q0th l n _ hx
   generalize l[n]=x at*
   unfold rsS
   by_cases c:a<=(n:Int)/\(n:Int)<b
   ·rw [if_pos c]
    have e1:min (max b 0).toNat (n+1)=n+1:=by omega
    have e2:min (max b 0).toNat n=n:=by omega
    rw [e1,e2,if_pos (show (max a 0).toNat<n+1 by omega),ht]
    by_cases d:(max a 0).toNat<n
    ·rw [if_pos d,q0x3]
    ·have e3:(max a 0).toNat=n:=by omega
     rw [if_neg d,e3,q0x4,q0tg]
   ·rw [if_neg c]
    by_cases d:(n:Int)<a
    ·rw [if_neg (by omega),if_neg (by omega)]
    ·have e1:min (max b 0).toNat (n+1)=(max b 0).toNat:=by omega
     have e2:min (max b 0).toNat n=(max b 0).toNat:=by omega
     rw [e1,e2]
 have h:=key l.length (Zm _)
 rw [List.take_length] at h
 rw [h]
 unfold sumT
 by_cases c:max a 0<min b l.length
 ·have e:min (max b 0).toNat l.length=(min b l.length).toNat:=by omega
  rw [if_pos c,e,if_pos (by omega)]
 ·rw [if_neg c,if_neg (by omega)]
def rtE (l:List Item) (a b:Int) (H:Heap) (t:Tot) (i:Nat):St:=⟨[(0,q006 l),(1,vI a),(2,vI b),(6,.lptr 6 0),(7,.lptr 7 0),(8,vI i)],[(6,c6 zeroT),(7,c6 t)],H,H.length,[]⟩
def rtX (l:List Item) (a b:Int) (H:Heap) (t:Tot):Ex×St:=(.exit 0,⟨[(0,q006 l),(1,vI a),(2,vI b),(6,.lptr 6 0),(7,.lptr 7 0),(8,vI l.length),(12,vB false)],[(6,c6 zeroT),(7,c6 t)],H,H.length,[]⟩)
theorem q0ti (l:List Item) (hl:l.length<=1000000) (hf: ∀x∈l,fairI x) (a b:Int) (H:Heap):clD EE (.p (.fn 156)) [q006 l,vI a,vI b] H=some (vTot (sumT l a b),none):=by
 rw [q002 _ _ _ _ _ _ (noP _) fn156]
 have k:evD EE q0Wv (rtE l a b H zeroT 0)=some (rtX l a b H (sumT l a b)):=by
  unfold q0Wv
  refine Eq.trans (q00u l (fun t i=>rtE l a b H t i) (fun t i=>inT (4294967296*i) t/\i<=l.length) (rsS a b) (fun t=>rtX l a b H t) (fun _ _=>rfl) ?_ ?_ zeroT 0 ⟨by simpa using q0mw,Zj _⟩ (Zj _)) (by rw [ZG,q0x5])
  ·rintro t i x ⟨ht,hi⟩ hx
   have hlt:=(Za.1 hx).1
   have w:IntKind.i64.wrap ((i:Int)+1)=((i+1:Nat):Int):=w64 (by omega) (by omega)
   have hix:=fun H k=>q00c H q004 (k:=k) (s:=7) hx rfl
   simp only [q004] at hix
   have hxt:=q0ch (hf x (Zp hx))
   have hs:=q0po ht hxt
   have ra:=fun H=>q0qu t (totI x) (q04g ht (by omega)) (q04g hxt (by omega)) (q04g hs (by omega)) H
   have rt:=fun H=>q0nv x H
   have mono: ∀ {m k:Int} {t:Tot},inT m t->m<=k->inT k t:=by
    intro m k t h hm
    obtain ⟨⟨a1,a2⟩,⟨a3,a4⟩,⟨a5,a6⟩,⟨a7,a8⟩,⟨a9,b1⟩,⟨b2,b3⟩⟩:=h
    constructor<;>constructor<;>omega
   refine ⟨?_,?_,hlt⟩
   ·unfold rsS
    by_cases c1:a<=i
    ·by_cases c2:(i:Int)<b
     ·rw [if_pos ⟨c1,c2⟩]
      generalize addT t (totI x)=u at*
      generalize totI x=v at*
      simp [rtE,c6,zeroT,hlt,hix,subs,q001,fldvV,w,c1,c2,rt,ra]
     ·rw [if_neg (fun h=>c2 h.2)]
      simp [rtE,c6,zeroT,hlt,hix,subs,q001,w,c1,c2]
    ·rw [if_neg (fun h=>c1 h.1)]
     simp [rtE,c6,zeroT,hlt,hix,subs,q001,w,c1]
   ·unfold rsS
    split
    ·exact mono hs (by omega)
    ·exact mono ht (by omega)
  ·rintro t-
   refine ⟨?_,by simp [rtX]⟩
   simp [rtE,rtX]
 generalize sumT l a b=t at*
 simp [rtE,rtX,c6,zeroT] at k
 simp [zEc,k]
theorem q0tj (t:Tot) (H:Heap):clD EE (.p (.fn 251)) [vTot t] H=some (vI (ordT t),none):=by
 rw [q002 _ _ _ _ _ _ (noP _) fn251]
 have w1:IntKind.i64.wrap 1=1:=by decide
 have w2:IntKind.i64.wrap 2=2:=by decide
 have w3:IntKind.i64.wrap 3=3:=by decide
 have w4:IntKind.i64.wrap 4=4:=by decide
 unfold ordT
 by_cases a0:t.s0=0<;>by_cases a1:t.s1=0<;>by_cases a2:t.s2=0<;>by_cases a3:t.s3=0<;>
  simp [zEc,ixaV,q007,q08i,q003,w1,w2,w3,w4,a0,a1,a2,a3]
theorem q0qw (t:Tot) (H:Heap):clD EE (.p (.fn 374)) [vTot t] H=some (.agg (c6 t),none):=by
 rw [q002 _ _ _ _ _ _ (noP _) fn374]
 simp [zEc,ixaV,q007]
def offN (n:Int):Bool:=decide (n<0)||decide (1125899906842624<n)
theorem q0tk (n:Int):fairL n= !offN n:=by
 unfold fairL offN
 by_cases a:0<=n<;>by_cases b:n<=1125899906842624<;>simp [a,b]<;>omega
theorem q0tl (t:Tot) (H:Heap):clD EE (.p (.fn 326)) [vTot t] H=some (vB (q03k t),none):=by
 rw [q002 _ _ _ _ _ _ (noP _) fn326]
 have n:=fun H=>q0qw t H
 have e:q03k t= !([t.nat,t.s0,t.s1,t.s2,t.s3,t.shr].any offN):=by
  unfold q03k
  simp only [q0tk,List.any_cons,List.any_nil,Bool.or_false,Bool.not_or]
  cases offN t.nat<;>cases offN t.s0<;>cases offN t.s1<;>cases offN t.s2<;>cases offN t.s3<;>simp
 rw [e]
 have k:evD EE q0X9 ⟨[(3,.lptr 3 0),(4,vI 0)],[(3,c6 t)],H,H.length,[]⟩=some (if [t.nat,t.s0,t.s1,t.s2,t.s3,t.shr].any offN=true then (.ret,⟨[(2,vB false)],[],H,H.length,[]⟩) else (.exit 0,⟨[(3,.lptr 3 0),(4,vI 6),(8,vB false)],[(3,c6 t)],H,H.length,[]⟩)):=by
  unfold q0X9
  refine Eq.trans (q013 [t.nat,t.s0,t.s1,t.s2,t.s3,t.shr] (fun (_:Unit) i=>⟨[(3,.lptr 3 0),(4,vI i)],[(3,c6 t)],H,H.length,[]⟩) (fun _ _=>True) (stepB offN (.ret,⟨[(2,vB false)],[],H,H.length,[]⟩)) (fun _=>(.exit 0,⟨[(3,.lptr 3 0),(4,vI 6),(8,vB false)],[(3,c6 t)],H,H.length,[]⟩)) (fun _ _=>rfl) ?_ ?_ () 0 trivial (Zj _)) (by rw [ZG,q043])
  ·rintro _ i x-hx
   have hlt:i<6:=by have:=(Za.1 hx).1;simpa using this
   have hi:(i:Int)<6:=by omega
   have w:IntKind.i64.wrap ((i:Int)+1)=((i+1:Nat):Int):=w64 (by omega) (by omega)
   have ex:subs (c6 t) i 1=some [vI x]:=by
    have e:i=0\/i=1\/i=2\/i=3\/i=4\/i=5:=by omega
    rcases e with rfl|rfl|rfl|rfl|rfl|rfl<;>simp at hx<;>subst hx<;>rfl
   have hne: ¬c6 t=[]:=by simp
   generalize c6 t=A at*
   by_cases c:x<0
   ·simp [stepB,offN,hi,ixaV,q007,ex,hne,c]
   ·by_cases d:1125899906842624<x
    ·simp [stepB,offN,hi,ixaV,q007,ex,hne,c,d]
    ·simp [stepB,offN,hi,ixaV,q007,ex,hne,c,d,w]
  ·rintro _-
   simp
 simp only [c6] at n k
 cases q:[t.nat,t.s0,t.s1,t.s2,t.s3,t.shr].any offN with
 |true=>
  rw [q,if_pos rfl] at k
  simp [zEc,n,k]
 |false=>
  rw [q,if_neg (by decide)] at k
  simp [zEc,n,k]
theorem q0nw (t:Tot) (h:Int) (H:Heap):clD EE (.p (.fn 250)) [vTot t,vI h] H=some (vB (q04u t h),none):=by
 rw [q002 _ _ _ _ _ _ (noP _) fn250]
 have f:=fun H=>q0tl t H
 unfold q04u
 cases c:q03k t with
 |false=>simp [zEc,f,c]
 |true=>by_cases d: -1125899906842624<=h<;>simp [zEc,f,c,d]
theorem q0qx (t:Tot) (h:Int) (last:Bool) (H:Heap):clD EE (.p (.fn 155)) [vTot t,vI h,vB last] H=some (vSet (q07f t h last),none):=by
 rw [q002 _ _ _ _ _ _ (noP _) fn155]
 have r:=fun H=>q0nw t h H
 have o:=fun H=>q0tj t H
 unfold q07f
 cases c:q04u t h with
 |false=>simp [zEc,r,c,zeroG]
 |true=>
  have bd:=q0j5 c
  have hfl:q03k t=true:=by unfold q04u at c;simp at c;exact c.1.1
  have fb:0<=t.s1/\0<=t.s2/\0<=t.s3:=by unfold q03k fairL at hfl;simp at hfl;omega
  obtain ⟨need,hneed⟩: ∃n,h-t.nat=n:=⟨_,rfl⟩
  have w1:IntKind.i64.wrap (h-t.nat)=need:=by rw [hneed];exact w64 (by omega) (by omega)
  have w2:IntKind.i64.wrap (need+t.shr)=t.shr+need:=by rw [Int.add_comm];exact w64 (by omega) (by omega)
  have w3:IntKind.i64.wrap (-need)= -need:=w64 (by omega) (by omega)
  have ho:(ordT t=0/\strT t (ordT t)=t.s0)\/(ordT t=1/\strT t (ordT t)=t.s1/\0<t.s1)\/(ordT t=2/\strT t (ordT t)=t.s2/\0<t.s2)\/(ordT t=3/\strT t (ordT t)=t.s3/\0<t.s3):=by
   unfold ordT
   (repeat' split)<;>simp [strT]<;>omega
  have hq:(0<=t.shr+need)↔(-need<=t.shr):=by omega
  simp only [hneed]
  clear hneed bd
  generalize strT t (ordT t)=str at*
  generalize ordT t=od at*
  simp only [if_true]
  by_cases n0:need=0
  ·subst n0
   simp [zEc,r,c,o,w1,zeroG]
  ·by_cases n1:0<need
   ·rcases ho with ⟨rfl,rfl⟩|⟨rfl,rfl,s⟩|⟨rfl,rfl,s⟩|⟨rfl,rfl,s⟩
    ·by_cases s:0<t.s0
     ·cases last<;>simp [zEc,ixaV,q007,r,c,o,w1,w2,n0,n1,s]
     ·simp [zEc,ixaV,q007,r,c,o,w1,w2,n0,n1,s]
    ·simp [zEc,ixaV,q007,r,c,o,w1,w2,n0,n1,s]
    ·simp [zEc,ixaV,q007,r,c,o,w1,w2,n0,n1,s]
    ·simp [zEc,ixaV,q007,r,c,o,w1,w2,n0,n1,s]
   ·have ho': ∃x:Int,od=x:=⟨_,rfl⟩
    by_cases n2: -need<=t.shr
    ·rcases ho with ⟨rfl,rfl⟩|⟨rfl,rfl,s⟩|⟨rfl,rfl,s⟩|⟨rfl,rfl,s⟩<;>simp [zEc,r,c,o,w1,w2,w3,n0,n1,n2,hq]
    ·rcases ho with ⟨rfl,rfl⟩|⟨rfl,rfl,s⟩|⟨rfl,rfl,s⟩|⟨rfl,rfl,s⟩<;>simp [zEc,r,c,o,w1,w2,w3,n0,n1,n2,hq]
def sumL {α:Type} (f:List Item->α) (z:α) (l:List Item) (i:Nat):List α:=(List.range (l.length+1)).map fun k=>if k<=i then f (l.take k) else z
theorem q060 {α:Type} (f:List Item->α) (z:α) (l:List Item) (i:Nat):(sumL f z l i).length=l.length+1:=by simp [sumL]
theorem q0n3 {α:Type} (f:List Item->α) (z:α) (l:List Item) (i k:Nat) (h:k<=i) (hk:k<=l.length):(sumL f z l i)[k]? =some (f (l.take k)):=by simp [sumL,h,show k<l.length+1 by omega]
theorem q0n4 {α:Type} (f:List Item->α) (z:α) (l:List Item) (i:Nat) (h:i<l.length):(sumL f z l i)[i+1]? =some z:=by simp [sumL,h];omega
theorem q0n5 {α:Type} (f:List Item->α) (z:α) (l:List Item) (i:Nat):(sumL f z l i).set (i+1) (f (l.take (i+1)))=sumL f z l (i+1):=by
 apply List.ext_getElem?
 intro k
 rw [List.getElem?_set]
 by_cases hk:k<l.length+1
 ·by_cases e:i+1=k
  ·subst e;simp [sumL,hk]
  ·rw [if_neg e]
   simp only [sumL,List.getElem?_map,List.getElem?_range hk,ZH]
   by_cases h:k<=i
   ·rw [if_pos h,if_pos (by omega)]
   ·rw [if_neg h,if_neg (by omega)]
 ·have e1:(sumL f z l (i+1))[k]? =none:=ZF (by rw [q060];omega)
  have e2:(sumL f z l i)[k]? =none:=ZF (by rw [q060];omega)
  rw [e1,e2]
  by_cases e:i+1=k
  ·subst e;rw [if_pos rfl,if_neg (by rw [q060];omega)]
  ·rw [if_neg e]
theorem q0z9 {α:Type} (f:List Item->α) (z:α) (l:List Item):sumL f z l l.length=preL f l (l.length+1):=by
 unfold sumL preL
 apply List.map_congr_left
 intro k hk
 have:=List.mem_range.1 hk
 rw [if_pos (by omega)]
theorem q0j9 {α:Type} (f:List Item->α) (z:α) (l:List Item) (h:f []=z):sumL f z l 0=List.replicate (l.length+1) z:=by
 apply List.ext_getElem?
 intro k
 by_cases hk:k<l.length+1
 ·simp only [sumL,List.getElem?_map,List.getElem?_range hk,ZH,List.getElem?_replicate,if_pos hk]
  by_cases e:k<=0
  ·have:k=0:=by omega
   subst this;simp [h]
  ·rw [if_neg e]
 ·rw [ZF (by rw [q060];omega),ZF (by simp;omega)]
def suH (l:List Item) (i:Nat):Heap:=[DObj.row 6 (upV ((sumL totP zeroT l i).map q020)),DObj.row 1 (upV ((sumL boxP 0 l i).map encI))]
def suE (l:List Item) (i:Nat):St:=
 ⟨[(0,q006 l),(4,.lptr 21 0),(23,vI l.length),(24,vI i)],[(21,[q006 l,.row 0 (l.length+1) 0 (l.length+1),.row 1 (l.length+1) 0 (l.length+1)])],suH l i,0,[]⟩
def suX (l:List Item):Ex×St:=
 (.exit 0,⟨[(0,q006 l),(4,.lptr 21 0),(23,vI l.length),(24,vI l.length),(25,vB false)],[(21,[q006 l,.row 0 (l.length+1) 0 (l.length+1),.row 1 (l.length+1) 0 (l.length+1)])],suH l l.length,0,[]⟩)
set_option maxHeartbeats 1000000 in
theorem q0Eu (l:List Item) (hl:l.length<=4096) (hf: ∀x∈l,fairI x) (i:Nat) (x:Item) (hx:l[i]? =some x): ∃c,q0Wd= .loop [0,4,23,24] [21] c/\evD EE c (suE l i)=some (.normal,suE l (i+1)):=by
 refine ⟨_,rfl,?_⟩
 have hlt:=(Za.1 hx).1
 have w:IntKind.i64.wrap ((i:Int)+1)=((i+1:Nat):Int):=w64 (by omega) (by omega)
 have hix:=fun H k=>q00c H q004 (k:=k) (s:=7) hx rfl
 have ts:=q03n hx
 have fx:=hf x (Zp hx)
 have ft: ∀y∈l.take i,fairI y:=fun y hy=>hf y (Z6 hy)
 have ft1: ∀y∈l.take (i+1),fairI y:=fun y hy=>hf y (Z6 hy)
 have hlen:(l.take i).length=i:=by rw [ZC];omega
 have hlen1:(l.take (i+1)).length=i+1:=by rw [ZC];omega
 have t1:=q0iy (l.take i) x
 have b1:=q0v2 (l.take i) x
 rw [<-ts] at t1 b1
 have q1:=q0hb _ ft
 have q2:=q0hb _ ft1
 have q3:=q0pp _ ft
 have q4:=q0pp _ ft1
 rw [hlen] at q1 q3
 rw [hlen1] at q2 q4
 have it:=fun H=>q0mx x H
 have sf:=fun H=>q0yy (totI x) (q0ch fx) H
 have ta:=fun H=>q0va (totP (l.take i)) (totI x) (q04g q1 (by omega)) (q04g (q0ch fx) (by omega)) (by rw [<-t1];exact q04g q2 (by omega)) H
 rw [<-t1] at ta
 have g1:(upV ((sumL totP zeroT l i).map q020))[i]? =some ((q020 (totP (l.take i))).map V.p):=by simp [q05v,q0n3 totP zeroT l i i (Zm _) (by omega)]
 have g2:(upV ((sumL totP zeroT l i).map q020))[i+1]? =some ((q020 zeroT).map V.p):=by simp [q05v,q0n4 totP zeroT l i hlt]
 have g3:(upV ((sumL boxP 0 l i).map encI))[i]? =some [vI (boxP (l.take i))]:=by simp [q05v,q0n3 boxP 0 l i i (Zm _) (by omega),encI]
 have g4:(upV ((sumL boxP 0 l i).map encI))[i+1]? =some [vI 0]:=by simp [q05v,q0n4 boxP 0 l i hlt,encI]
 have s1:(upV ((sumL totP zeroT l i).map q020)).set (i+1) ((q020 (totP (l.take (i+1)))).map V.p)=upV ((sumL totP zeroT l (i+1)).map q020):=by rw [q06r,q0n5]
 have s2:(upV ((sumL boxP 0 l i).map encI)).set (i+1) [vI (boxP (l.take (i+1)))]=upV ((sumL boxP 0 l (i+1)).map encI):=by
  have:=q06r encI (sumL boxP 0 l i) (i+1) (boxP (l.take (i+1)))
  rw [q0n5] at this
  exact this
 have n1:(upV ((sumL totP zeroT l i).map q020)).length=l.length+1:=by simp [q060]
 have n2:(upV ((sumL boxP 0 l i).map encI)).length=l.length+1:=by simp [q060]
 have hlt1:i<l.length+1:=by omega
 have hlt2:i+1<l.length+1:=by omega
 have x0: ∀a b:V,[a,b][0]? =some a:=fun _ _=>rfl
 have x1: ∀a b:V,[a,b][1]? =some b:=fun _ _=>rfl
 have wb:IntKind.i64.wrap (boxP (l.take i)+x.h)=boxP (l.take i)+x.h:=w64 (by have:=fx.h;omega) (by have:=fx.h;omega)
 unfold suE suH
 generalize totP (l.take (i+1))=T1 at*
 generalize totP (l.take i)=T0 at*
 generalize totI x=TI at*
 generalize hB1:boxP (l.take (i+1))=P1 at*
 generalize boxP (l.take i)=P0 at*
 generalize upV ((sumL totP zeroT l i).map q020)=A1 at*
 generalize upV ((sumL totP zeroT l (i+1)).map q020)=A2 at*
 generalize upV ((sumL boxP 0 l i).map encI)=B1 at*
 generalize upV ((sumL boxP 0 l (i+1)).map encI)=B2 at*
 simp only [q020,zeroT,Zo,ZL] at g1 g2 s1
 have g5: ∀v:List V,(B1.set (i+1) v)[i+1]? =some v:=fun v=>by rw [ZX (by omega)]
 unfold boxI1 at b1
 have ir:=fun H id tot off len s=>q01f H id tot off len s .i64 (i+1)
 simp only [Int.natCast_add,Int.natCast_one] at ir
 by_cases k1:x.k=1
 ·rw [if_pos k1] at b1
  subst b1
  simp only [vItem,k1] at it
  simp [-getElem?_pos,hlt,hix,q004,subs,q001,w,it,sf,ta,g1,g2,g3,g4,g5,s1,s2,n1,n2,hlt1,hlt2,x0,x1,q01f,ir,k1,wb]
 ·rw [if_neg k1,Int.add_zero] at b1
  subst b1
  simp [-getElem?_pos,hlt,hix,q004,subs,q001,w,it,sf,ta,g1,g2,g3,g4,s1,s2,n1,n2,hlt1,hlt2,x0,x1,q01f,ir,k1]
theorem q0Ev (l:List Item) (hl:l.length<=4096) (hf: ∀x∈l,fairI x):evD EE q0Wd (suE l 0)=some (suX l):=by
 unfold q0Wd
 refine Eq.trans (q00u l (fun (_:Unit) i=>suE l i) (fun _ _=>True) (fun _ _ _=>()) (fun _=>suX l) (fun _ _=>rfl) ?_ ?_ () 0 trivial (Zj _)) rfl
 ·rintro _ i x-hx
  obtain ⟨c',h1,h2⟩:=q0Eu l hl hf i x hx
  simp only [q0Wd,IC.loop.injEq] at h1
  obtain ⟨-,-,rfl⟩:=h1
  exact ⟨h2,trivial⟩
 ·rintro _-
  simp [suE,suX]
theorem q0vi (l:List Item) (hl:l.length<=4096) (hf: ∀x∈l,fairI x):zR (clD EE (.p (.fn 55)) [q006 l] [])=some (.tup [q00r l,vB true]):=by
 rw [q002 _ _ _ _ _ _ (noP _) fn55]
 have c:=q05o l (by omega)
 have k:=q0Ev l hl hf
 have w:IntKind.i64.wrap ((l.length:Int)+1)=((l.length+1:Nat):Int):=w64 (by omega) (by omega)
 have hm:l.length+1<most:=by unfold most;omega
 have h9: ¬(4096:Int)<l.length:=by omega
 have e1:List.replicate (l.length+1) [vI 0,vI 0,vI 0,vI 0,vI 0,vI 0]=upV ((sumL totP zeroT l 0).map q020):=by rw [q0j9 totP zeroT l rfl];simp [upV,q020,zeroT]
 have e2:List.replicate (l.length+1) [vI 0]=upV ((sumL boxP 0 l 0).map encI):=by rw [q0j9 boxP 0 l rfl];simp [upV,encI]
 have p0:0<(l.length:Int)+1:=by omega
 have pt:((l.length:Int)+1).toNat=l.length+1:=by omega
 simp only [suE,suX,suH,q0z9] at k
 have f1:=fun T=>q04f (H:=DObj.row 6 (upV ((preL totP l (l.length+1)).map q020))::T) (id:=0) (n:=l.length+1) rfl (by simp [q04d])
 have f2:=fun R T=>q04f (H:=R::DObj.row 1 (upV ((preL boxP l (l.length+1)).map encI))::T) (id:=1) (n:=l.length+1) rfl (by simp [q04d])
 generalize upV ((sumL totP zeroT l 0).map q020)=A at*
 generalize upV ((sumL boxP 0 l 0).map encI)=B at*
 simp at k
 simp [zEc,solN,sd,c,h9,w,hm,p0,pt,e1,e2,k,allO,q00r,f1,f2,q06z]
def anH (l:List Item) (fs:List Float) (n:Nat):Heap:=[DObj.row 1 (upV ((preL q01a l n).map encI)),DObj.row 3 (upV ((preL (q00n fs) l n).map encC3)),DObj.row 3 (upV ((preL (dueP fs) l n).map encC3))]
def anE (l:List Item) (fs:List Float) (i:Nat):St:=
 ⟨[(1,q005 fs),(5,.lptr 21 0),(22,q006 l),(23,vI l.length),(24,vI i)],[(21,[q006 l,.row 0 (i+1) 0 (i+1),.row 1 (i+1) 0 (i+1),.row 2 (i+1) 0 (i+1)])],anH l fs (i+1),0,[]⟩
def anX (l:List Item) (fs:List Float):Ex×St:=
 (.exit 0,⟨[(1,q005 fs),(5,.lptr 21 0),(22,q006 l),(23,vI l.length),(24,vI l.length),(25,vB false)],[(21,[q006 l,.row 0 (l.length+1) 0 (l.length+1),.row 1 (l.length+1) 0 (l.length+1),.row 2 (l.length+1) 0 (l.length+1)])],anH l fs (l.length+1),0,[]⟩)
theorem q0hd {α:Type} (enc:α->List PV) (f:List Item->α) (l:List Item) (n:Nat):upV ((preL f l n).map enc)++upV [enc (f (l.take n))]=upV ((preL f l (n+1)).map enc):=by
 rw [q0v1];simp [upV]
theorem q0za (l:List Item) (fs:List Float) (hl:l.length<=1000000) (i:Nat) (x:Item) (hx:l[i]? =some x): ∃c,q0We= .loop [1,5,22,23,24] [21] c/\evD EE c (anE l fs i)=some (.normal,anE l fs (i+1)):=by
 refine ⟨_,rfl,?_⟩
 have hlt:=(Za.1 hx).1
 have w:IntKind.i64.wrap ((i:Int)+1)=((i+1:Nat):Int):=w64 (by omega) (by omega)
 have hix:=fun H k=>q00c H q004 (k:=k) (s:=7) hx rfl
 have ts:=q03n hx
 have b1:=q0oa (l.take i) x
 have a1:=q0db fs (l.take i) x
 have d1:=q0bo fs (l.take i) x
 rw [<-ts] at b1 a1 d1
 have g1:(upV ((preL q01a l (i+1)).map encI))[i]? =some [vI (q01a (l.take i))]:=by simp [q05v,q04e q01a l (i+1) i (by omega),encI]
 have g2:(upV ((preL (q00n fs) l (i+1)).map encC3))[i]? =some [vI (q00n fs (l.take i)).a,vI (q00n fs (l.take i)).b,vI (q00n fs (l.take i)).c]:=by simp [q05v,q04e (q00n fs) l (i+1) i (by omega),encC3]
 have g3:(upV ((preL (dueP fs) l (i+1)).map encC3))[i]? =some [vI (dueP fs (l.take i)).a,vI (dueP fs (l.take i)).b,vI (dueP fs (l.take i)).c]:=by simp [q05v,q04e (dueP fs) l (i+1) i (by omega),encC3]
 have p1:=q0hd encI q01a l (i+1)
 have p2:=q0hd encC3 (q00n fs) l (i+1)
 have p3:=q0hd encC3 (dueP fs) l (i+1)
 have n1:(upV ((preL q01a l (i+1)).map encI)).length=i+1:=by simp [q04d]
 have n2:(upV ((preL (q00n fs) l (i+1)).map encC3)).length=i+1:=by simp [q04d]
 have n3:(upV ((preL (dueP fs) l (i+1)).map encC3)).length=i+1:=by simp [q04d]
 have bb:=q0iw (l.take i)
 have ab:=q0ix fs (l.take i)
 have hlen:(l.take i).length=i:=by rw [ZC];omega
 rw [hlen] at bb ab
 have wb:IntKind.i64.wrap (q01a (l.take i)+1)=q01a (l.take i)+1:=w64 (by omega) (by omega)
 have wa:IntKind.i64.wrap ((q00n fs (l.take i)).a+1)=(q00n fs (l.take i)).a+1:=w64 (by omega) (by omega)
 have wb2:IntKind.i64.wrap ((q00n fs (l.take i)).b+1)=(q00n fs (l.take i)).b+1:=w64 (by omega) (by omega)
 have wc:IntKind.i64.wrap ((q00n fs (l.take i)).c+1)=(q00n fs (l.take i)).c+1:=w64 (by omega) (by omega)
 have hm:i+1+1<most:=by unfold most;omega
 have hat:=fun H=>at_ev fs x.n H
 have x0: ∀a b:V,[a,b][0]? =some a:=fun _ _=>rfl
 have x1: ∀a b:V,[a,b][1]? =some b:=fun _ _=>rfl
 simp only [encI,encC3,b1,a1,d1] at p1 p2 p3
 unfold anE anH
 generalize q01a (l.take i)=b at*
 generalize hA:q00n fs (l.take i)=A at*
 generalize hD:dueP fs (l.take i)=D at*
 generalize upV ((preL q01a l (i+1)).map encI)=B1 at*
 generalize upV ((preL (q00n fs) l (i+1)).map encC3)=A1 at*
 generalize upV ((preL (dueP fs) l (i+1)).map encC3)=D1 at*
 generalize upV ((preL q01a l (i+1+1)).map encI)=B2 at*
 generalize upV ((preL (q00n fs) l (i+1+1)).map encC3)=A2 at*
 generalize upV ((preL (dueP fs) l (i+1+1)).map encC3)=D2 at*
 unfold addAt at p2
 by_cases k5:x.k=5
 ·simp only [k5,if_true,show¬(5:Int)=6 by decide,show¬(5:Int)=7 by decide,if_false] at p1 p2 p3
  simp [-getElem?_pos,hlt,hix,q004,subs,q001,g1,g2,g3,n1,n2,n3,w,hm,p1,p2,p3,apoB,okEl,q01f,x0,x1,k5,wb]
 ·by_cases k6:x.k=6
  ·simp only [k6,if_true,show¬(6:Int)=5 by decide,show¬(6:Int)=7 by decide,if_false,Int.add_zero] at p1 p2 p3
   unfold ofS at p2
   cases hf:atF fs x.n with
   |none=>
    simp only [hf] at p2 hat
    simp [-getElem?_pos,hlt,hix,q004,subs,q001,g1,g2,g3,n1,n2,n3,w,hm,p1,p2,p3,apoB,okEl,q01f,x0,x1,k6,hat]
   |some f=>
    simp only [hf] at p2 hat
    unfold bump at p2
    by_cases d0:f.c=0
    ·simp only [d0,if_true] at p2
     simp [-getElem?_pos,hlt,hix,q004,subs,q001,g1,g2,g3,n1,n2,n3,w,hm,p1,p2,p3,apoB,okEl,q01f,x0,x1,k6,hat,d0,ixaV,q007,wa]
    ·by_cases d1:f.c=1
     ·simp only [d1,if_true,show¬(1:Int)=0 by decide,if_false] at p2
      simp [-getElem?_pos,hlt,hix,q004,subs,q001,g1,g2,g3,n1,n2,n3,w,hm,p1,p2,p3,apoB,okEl,q01f,x0,x1,k6,hat,d1,ixaV,q007,wb2]
     ·by_cases d2:f.c=2
      ·simp only [d2,if_true,show¬(2:Int)=0 by decide,show¬(2:Int)=1 by decide,if_false] at p2
       simp [-getElem?_pos,hlt,hix,q004,subs,q001,g1,g2,g3,n1,n2,n3,w,hm,p1,p2,p3,apoB,okEl,q01f,x0,x1,k6,hat,d2,ixaV,q007,wc]
      ·simp only [d0,d1,d2,if_false] at p2
       by_cases d3:f.c<0
       ·simp [-getElem?_pos,hlt,hix,q004,subs,q001,g1,g2,g3,n1,n2,n3,w,hm,p1,p2,p3,apoB,okEl,q01f,x0,x1,k6,hat,show¬0<=f.c by omega]
       ·simp [-getElem?_pos,hlt,hix,q004,subs,q001,g1,g2,g3,n1,n2,n3,w,hm,p1,p2,p3,apoB,okEl,q01f,x0,x1,k6,hat,show 0<=f.c by omega,show¬f.c<3 by omega]
  ·by_cases k7:x.k=7
   ·simp only [k7,if_true,show¬(7:Int)=5 by decide,show¬(7:Int)=6 by decide,if_false,Int.add_zero] at p1 p2 p3
    by_cases q1:D.a=A.a
    ·by_cases q2:D.b=A.b
     ·by_cases q3:D.c=A.c
      ·simp [-getElem?_pos,hlt,hix,q004,subs,q001,g1,g2,g3,n1,n2,n3,w,hm,p1,p2,p3,apoB,okEl,q01f,x0,x1,k7,q1,q2,q3]
      ·simp [-getElem?_pos,hlt,hix,q004,subs,q001,g1,g2,g3,n1,n2,n3,w,hm,p1,p2,p3,apoB,okEl,q01f,x0,x1,k7,q1,q2,q3]
     ·simp [-getElem?_pos,hlt,hix,q004,subs,q001,g1,g2,g3,n1,n2,n3,w,hm,p1,p2,p3,apoB,okEl,q01f,x0,x1,k7,q1,q2]
    ·simp [-getElem?_pos,hlt,hix,q004,subs,q001,g1,g2,g3,n1,n2,n3,w,hm,p1,p2,p3,apoB,okEl,q01f,x0,x1,k7,q1]
   ·simp only [k5,k6,k7,if_false,Int.add_zero] at p1 p2 p3
    simp [-getElem?_pos,hlt,hix,q004,subs,q001,g1,g2,g3,n1,n2,n3,w,hm,p1,p2,p3,apoB,okEl,q01f,x0,x1,k5,k6,k7]
theorem q0zb (l:List Item) (fs:List Float) (hl:l.length<=1000000):evD EE q0We (anE l fs 0)=some (anX l fs):=by
 unfold q0We
 refine Eq.trans (q00u l (fun (_:Unit) i=>anE l fs i) (fun _ _=>True) (fun _ _ _=>()) (fun _=>anX l fs) (fun _ _=>rfl) ?_ ?_ () 0 trivial (Zj _)) rfl
 ·rintro _ i x-hx
  obtain ⟨c',h1,h2⟩:=q0za l fs hl i x hx
  simp only [q0We,IC.loop.injEq] at h1
  obtain ⟨-,-,rfl⟩:=h1
  exact ⟨h2,trivial⟩
 ·rintro _-
  simp [anE,anX]
theorem q0vj (l:List Item) (fs:List Float) (hl:l.length<=1000000):zR (clD EE (.p (.fn 57)) [q006 l,q005 fs] [])=some (vMapW l fs):=by
 rw [q002 _ _ _ _ _ _ (noP _) fn57]
 have c:=q05o l hl
 have k:=q0zb l fs hl
 have e1:upV ((preL q01a l 1).map encI)=[[vI 0]]:=by simp [preL,upV,encI,q01a,cnt]
 have e2:upV ((preL (q00n fs) l 1).map encC3)=[[vI 0,vI 0,vI 0]]:=by simp [preL,upV,encC3,q00n]
 have e3:upV ((preL (dueP fs) l 1).map encC3)=[[vI 0,vI 0,vI 0]]:=by simp [preL,upV,encC3,dueP]
 simp only [anE,anX,anH,Zs,e1,e2,e3] at k
 simp at k
 have f1:=fun T=>q04f (H:=DObj.row 1 (upV ((preL q01a l (l.length+1)).map encI))::T) (id:=0) (n:=l.length+1) rfl (by simp [q04d])
 have f2:=fun R T=>q04f (H:=R::DObj.row 3 (upV ((preL (q00n fs) l (l.length+1)).map encC3))::T) (id:=1) (n:=l.length+1) rfl (by simp [q04d])
 have f3:=fun R R' T=>q04f (H:=R::R'::DObj.row 3 (upV ((preL (dueP fs) l (l.length+1)).map encC3))::T) (id:=2) (n:=l.length+1) rfl (by simp [q04d])
 simp [zEc,solN,sd,c,k,allO,vMapW,f1,f2,f3,rowI,okEl]
theorem q0zc (env:List (Nat×V)) (loc:List (Nat×List V)) (H:Heap) (l:List Note) (x:Note) (hm:l.length+1<most):
  appV ⟨env,loc,H++rowsG 2 q00e l,H.length,[]⟩ (q00k H.length l) (.p (.sl [q00e x])) 2=some (q00k H.length (l++[x]),⟨env,loc,H++rowsG 2 q00e (l++[x]),H.length,[]⟩):=
 q08t env loc H H.length [] 2 q00e l x rfl hm (Zm _)
def q0n6:List V:=[vI 0,vI 0,vI 0,vI 0,vI 0,vI 0,vI 0,vI 0,vI 0,vI 0,vI 0,vI 0,vI 0,vI 0,vI 0,vI 0,vI 0,vI 0,vB false,.nils,.nils,.nils]
def cpE (j:Job) (H:Heap) (M:List Note) (i:Nat):St:=
 ⟨[(2,.lptr 2 0),(3,.lptr 3 0),(16,q00b j.notes),(17,vI j.notes.length),(18,vI i)],[(2,q0n6),(3,cGeom j.g++[q006 j.items,q00k H.length M,q005 j.floats])],H++rowsG 2 q00e M,H.length,[]⟩
def cpX (j:Job) (H:Heap):Ex×St:=
 (.exit 0,⟨[(2,.lptr 2 0),(3,.lptr 3 0),(16,q00b j.notes),(17,vI j.notes.length),(18,vI j.notes.length),(19,vB false)],[(2,q0n6),(3,cGeom j.g++[q006 j.items,q00k H.length j.notes,q005 j.floats])],H++rowsG 2 q00e j.notes,H.length,[]⟩)
theorem cp_lp (j:Job) (n2:j.notes.length<=1000000) (hn: ∀n∈j.notes,n.lines.length<=1000000/\n.pens.length<=1000000) (H:Heap):evD EE q0Xe (cpE j H [] 0)=some (cpX j H):=by
 unfold q0Xe
 refine Eq.trans (q00u j.notes (fun (_:Unit) i=>cpE j H (j.notes.take i) i) (fun _ _=>True) (fun _ _ _=>()) (fun _=>cpX j H) (fun _ _=>rfl) ?_ ?_ () 0 trivial (Zj _)) rfl
 ·rintro _ i x-hx
  refine ⟨?_,trivial⟩
  have hlt:=(Za.1 hx).1
  have w:IntKind.i64.wrap ((i:Int)+1)=((i+1:Nat):Int):=w64 (by omega) (by omega)
  have hix:=fun H k=>q00c H q00e (k:=k) (s:=2) hx rfl
  obtain ⟨l1,l2⟩:=hn x (Zp hx)
  have c1:=q0rj x.lines l1
  have c2:=q0ob x.pens l2
  have hlen:(j.notes.take i).length=i:=by rw [ZC];omega
  have ha:=fun env loc=>q0zc env loc H (j.notes.take i) x (by rw [hlen];unfold most;omega)
  rw [q03n hx]
  generalize j.notes.take i=M at*
  simp only [q00e] at hix ha
  simp only [cpE,cGeom,Zd,Zf]
  simp [-q08l,hlt,hix,subs,q001,solN,sd,w,c1,c2,ha]
 ·rintro _-
  simp only [cpE,cpX,List.take_length]
  simp [subs]
theorem q0vk (j:Job) (n1:j.items.length<=1000000) (n2:j.notes.length<=1000000) (n3:j.floats.length<=1000000) (hn: ∀n∈j.notes,n.lines.length<=1000000/\n.pens.length<=1000000) (H:Heap):clD EE (.p (.fn 53)) [vJob j] H=some (vJob j,none):=by
 rw [q002 _ _ _ _ _ _ (noP _) fn53]
 have c1:=q05o j.items n1
 have c2:=q0jx j.floats n3
 have k:=cp_lp j n2 hn H
 have f2:=fun env loc=>q07b env loc (H++rowsG 2 q00e j.notes) H.length [] H.length 2 q00e j.notes (by
  have:=q09q 2 q00e H [] j.notes
  simpa using this) (Zm _)
 simp only [cpE,cpX,q0n6,cGeom,Zd,Zf] at k
 simp only [vJob,cGeom,Zd,Zf]
 generalize hu:q00k H.length j.notes=u at*
 have o:u.oneB=true:=by rw [<-hu];simp
 have p:u.cells=[u]:=by rw [<-hu];simp
 clear hu
 generalize H++rowsG 2 q00e j.notes=G at*
 simp at k
 simp [zEc,solN,sd,c1,c2,k,f2,o,p]
def encNp (n:Note):List Int×List Int:=(n.lines,n.pens)
theorem q0n7 (l:List Note):q037 (l.map encNp)=lineN l:=by
 induction l with
 |nil=>rfl
 |cons n r ih=>simp only [Zo,q037,List.foldr_cons,lineN,List.sum_cons] at ih⊢;rw [ih];rfl
theorem q0n8 (l:List Note) (H:Heap) (hl:l.length<=1000000) (hs:lineN l<=9223372036854775807):clD EE (.p (.fn 59)) [q00b l] H=some (vI (lineN l),none):=by
 have h:=q0yl (l.map encNp) H (by simpa using hl) (by rw [q0n7];exact hs)
 rw [q0n7] at h
 unfold notes at h
 rw [List.map_map] at h
 exact h
theorem q0zd (l:List Note) (h: ∀n∈l,n.lines.length<=1000000):0<=lineN l/\lineN l<=1000000*l.length:=by
 induction l with
 |nil=>simp [lineN]
 |cons n r ih=>
  have h1:=h n ZE
  have h2:=ih fun m hm=>h m (Zv _ hm)
  simp only [lineN,Zo,List.sum_cons,Zg] at h2⊢
  omega
def cutV {α:Type} (enc:α->List PV) (l:List α) (p:Nat):V:=if p=0 then .nils else .p (.sl ((l.take p).map enc))
section
variable {α:Type} (enc:α->List PV) (l:List α) (p:Nat)
@[simp] theorem q0R9:(cutV enc l p).oneB=true:=by unfold cutV;split<;>rfl
@[simp] theorem q0Nu:(cutV enc l p).cells=[cutV enc l p] :=by unfold cutV;split<;>rfl
@[simp] theorem q0Ra:(cutV enc l p).notL=true:=by unfold cutV;split<;>rfl
@[simp] theorem q0Nv:normC (cutV enc l p)= .p (.sl ((l.take p).map enc)):=by
  unfold cutV;split
  ·rename_i h0;subst h0;rfl
  ·rfl
theorem q0ze (s:Nat) (hs: ∀x,(enc x).length=s) (H:Heap) (k:IntKind) (h:p<=l.length):slcI H s (.p (.sl (l.map enc))) none (some (.p (.int k (p:Int))))=some (.p (.sl ((l.take p).map enc))):=by
 have hh:q066 s (l.map enc)=true:=by
  cases l with
  |nil=>rfl
  |cons x r=>simp [q066,hs]
 have h2:(p:Int)<=l.length:=by omega
 simp [slcI,slcV,hh,h2]
end
abbrev textH (j:Job):Heap:=[DObj.box [q00d j.items,q00r j.items,vMapW j.items j.floats]]
def nwS (j:Job) (i:Nat):St:=
 ⟨[(1,.lptr 1 0),(6,.lptr 35 0),(53,vI (j.notes.length+1)),(54,vI i)],[(1,cJobW j),(35,.ptr 0 0::(cJobW j++[q00k 1 ((List.range i).map fun k=>lineN (j.notes.take k)),vI (allS j).a,vI (allS j).b,vI (allS j).c]))],
   textH j++rowsG 1 encI ((List.range i).map fun k=>lineN (j.notes.take k)),0,[]⟩
def nwX (j:Job):Ex×St:=
 (.exit 0,⟨[(1,.lptr 1 0),(6,.lptr 35 0),(53,vI (j.notes.length+1)),(54,vI (j.notes.length+1)),(55,vB false)],[(1,cJobW j),(35,.ptr 0 0::(cJobW j++[q00k 1 (preN j.notes),vI (allS j).a,vI (allS j).b,vI (allS j).c]))],
  textH j++rowsG 1 encI (preN j.notes),0,[]⟩)
theorem nw_lp (j:Job) (n2:j.notes.length<=1000000) (hn: ∀n∈j.notes,n.lines.length<=1000000):evD EE q0U8 (nwS j 0)=some (nwX j):=by
 unfold q0U8
 refine Eq.trans (q00u (List.range (j.notes.length+1)) (fun (_:Unit) i=>nwS j i) (fun _ _=>True) (fun _ _ _=>()) (fun _=>nwX j) (fun _ _=>rfl) ?_ ?_ () 0 trivial (Zj _)) rfl
 ·rintro _ i x-hx
  refine ⟨?_,trivial⟩
  have hlt:i<j.notes.length+1:=by have:=(Za.1 hx).1;simpa using this
  have w:IntKind.i64.wrap ((i:Int)+1)=((i+1:Nat):Int):=w64 (by omega) (by omega)
  have hl2:(i:Int)<(j.notes.length:Int)+1:=by omega
  have sc:=fun H k=>q0ze q00e j.notes i 2 (fun _=>rfl) H k (by omega)
  have lb:=q0zd (j.notes.take i) (fun n h=>hn n (Z6 h))
  have ll:(j.notes.take i).length<=1000000:=by rw [ZC];omega
  have nl:=fun H=>q0n8 (j.notes.take i) H ll (by omega)
  have ha:=fun env loc=>q08t env loc (textH j) 0 [] 1 encI ((List.range i).map fun k=>lineN (j.notes.take k)) (lineN (j.notes.take i)) rfl (by simp;unfold most;omega) (Zj _)
  have er:(List.range (i+1)).map (fun k=>lineN (j.notes.take k))=(List.range i).map (fun k=>lineN (j.notes.take k))++[lineN (j.notes.take i)]:=by simp [List.range_succ]
  unfold nwS
  rw [er]
  generalize (List.range i).map (fun k=>lineN (j.notes.take k))=M at*
  generalize lineN (j.notes.take i)=y at*
  simp only [textH,Zg,Zq,Zs,encI] at ha
  simp only [q00b,List.map_take] at nl sc
  simp only [textH,cJobW,cGeom,Zd,Zf,encI] at ha⊢
  simp [-q08l,hl2,subs,q001,w,sc,nl,ha]
 ·rintro _-
  simp only [nwS,nwX,List.length_range,preN,cJobW,cGeom,Zd,Zf]
  simp
theorem q0Cs (j:Job) (ok:okJob j) (okS:okJob (snapG j)) (hp: ∀n∈(snapG j).notes,n.lines.length<=1000000/\n.pens.length<=1000000):
  zR (clD EE (.p (.fn 14)) [vJob j] [])=some (if (q02q j).1=0 then .tup [vW (snapG j),vB true] else .tup [.p .nilp,vB false]):=by
 rw [q002 _ _ _ _ _ _ (noP _) fn14]
 have hr:=fun H=>q0ju j ok (q0d7 ok.n3) H
 have hs:=fun H=>q0pi j ok H
 have hc:=fun H=>q0vk (snapG j) okS.n1 okS.n2 okS.n3 hp H
 by_cases h:(q02q j).1=0
 ·rw [if_pos h]
  have r:=(q0it j).1 h
  have hs2:=q0vi (snapG j).items (by rw [q0v4];have:=r.n1;omega) (q0iz r)
  have hv:=q0rk (snapG j).items okS.n1
  have ha:=q0vj (snapG j).items (snapG j).floats okS.n1
  have hal:=fun H=>q09v (snapG j).items (snapG j).floats (snapG j).items.length H
  have e:q00n (snapG j).floats ((snapG j).items.take (putN (snapG j).items (snapG j).items.length))=allS (snapG j):=by
   rw [q0Ce (Zm _),List.take_length];rfl
  simp only [e] at hal
  have k:=nw_lp (snapG j) okS.n2 (fun n hn=>(hp n hn).1)
  have w:IntKind.i64.wrap (((snapG j).notes.length:Int)+1)=((snapG j).notes.length:Int)+1:=w64 (by have:=okS.n2;omega) (by have:=okS.n2;omega)
  simp only [h,decide_true] at hr
  have hne:preN (snapG j).notes≠[]:=by simp [preN]
  have hlen:(preN (snapG j).notes).length=(snapG j).notes.length+1:=by simp [preN]
  generalize snapG j=J at*
  have f1:=fun R T=>q04f (H:=R::DObj.row 1 (upV ((preN J.notes).map encI))::T) (id:=1) (n:=(preN J.notes).length) rfl (by simp)
  simp only [nwS,nwX,textH,cJobW,cGeom,Zd,Zf,q00k,rowsG,if_neg hne,List.range_zero,ZL,if_true] at k
  simp only [vJob,cGeom,Zd,Zf] at hr hs hc⊢
  simp at k
  simp [zEc,solN,sd,hr,hs,hc,hs2,hv,ha,hal,w,k,allO,f1,vW,q00o]
 ·rw [if_neg h]
  have hb:decide ((q02q j).1=0)=false:=by simpa using h
  rw [hb] at hr
  simp only [vJob,cGeom,Zd,Zf] at hr⊢
  simp [zEc,hr,allO]
section
variable (j:Job) (w:okW j)
include w in
theorem q06o (s:Stt) (to:Int) (H:Heap):clD EE (.p (.fn 77)) [vJob j,vStt s,vI to] H=some (vSpot (spotS j s to),none):=by
 rw [q002 _ _ _ _ _ _ (noP _) fn77]
 have hr:=fun H=>q025 j w s H
 have b1:=fun H=>q0br j to w.n1 H
 have b2:=fun H=>q0br j s.at_ w.n1 H
 unfold spotS
 simp only [vJob,cGeom,Zd,Zf] at hr b1 b2⊢
 cases c:q01g j s with
 |false=>
  rw [c] at hr
  simp [zEc,hr]
 |true=>
  rw [c] at hr
  simp [zEc,hr,b1,b2]
include w in
theorem q101 (s:Stt) (c:Colm) (c1:c.notes.length<=1000000) (c2:c.top.length<=1000000) (c3:c.bot.length<=1000000) (H:Heap):clD EE (.p (.fn 22)) [vJob j,vStt s,vColm c] H=some (vStt (nextS j s c),none):=by
 rw [q002 _ _ _ _ _ _ (noP _) fn22]
 have hr:=fun H=>q025 j w s H
 have hs:=fun H=>q06o j w s c.to H
 have ht:=fun H=>q0z5 j.items c.to w.n1 H
 have hn:=fun H=>q10u j.notes (spotS j s c.to) c.notes w.n2 c1 H
 have o1:=fun H=>q0n0 j.floats c.top c2 H
 have o2:=fun H=>q0n0 j.floats c.bot c3 H
 have a1:=fun x y H=>q0xq x y H
 unfold nextS
 cases cr:q01g j s with
 |false=>
  rw [cr] at hr
  simp only [vJob,cGeom,Zd,Zf] at hr⊢
  simp [zEc,hr,zeroS]
 |true=>
  rw [cr] at hr
  have hcol:0<=s.col/\s.col<=j.g.cols:=by
   unfold q01g at cr
   split at cr
   ·cases cr
   ·rename_i h;omega
  have hw:=w.cols
  have w1:IntKind.i64.wrap (s.col+1)=s.col+1:=w64 (by omega) (by omega)
  generalize spotS j s c.to=sp at*
  generalize nextF j.notes sp c.notes=nx at*
  simp only [vJob,cGeom,Zd,Zf] at hr hs⊢
  by_cases h1:c.k=1
  ·simp [zEc,hr,hs,ht,hn,w1,h1,o1,o2,a1,ixvV,ixaV,q007]
  ·simp [zEc,hr,hs,ht,hn,w1,h1,o1,o2,a1,ixvV,ixaV,q007]
end
abbrev zJobC:List V:=[vI 0,vI 0,vI 0,vI 0,vI 0,vI 0,vI 0,vI 0,vI 0,vI 0,vI 0,vI 0,vI 0,vI 0,vI 0,vI 0,vI 0,vI 0,vB false,.p (.sl []),.p (.sl []),.p (.sl [])]
theorem q0vl (j:Job) (ok:okJob j) (H:Heap):clD EE (.p (.fn 19)) [vJob j] H=some (if (q02q j).1=0 then .agg (cJobW (snapG j)++[vB true]) else .agg (zJobC++[vB false]),none):=by
 rw [q002 _ _ _ _ _ _ (noP _) fn19]
 have hc:=fun H=>q0ha j ok (q0d7 ok.n3) H
 have hs:=fun H=>q0mn j ok H
 simp only [vJob,cGeom,Zd,Zf] at hc hs⊢
 by_cases h:(q02q j).1=0
 ·simp [zEc,fldvV,hc,hs,h]
 ·simp [zEc,fldvV,hc,h]
def fairN (x:Int):Bool:=decide (0<=x)&&decide (x<=1073741823)
def q0Ew (j:Job):List Int:=[j.g.grid,j.g.high,j.g.first,j.g.rule,j.g.sep]++j.items.map (·.h)++j.notes.flatMap (·.lines)++j.floats.map (·.h)
def fairF (j:Job):Bool:= !((q0Ew j).any fun x=> !fairN x)
theorem q0Ct {x:Item} (s:Int) (h:q079 x):q079 (itemG s x):=by
 have z:I64 0:=⟨by omega,by omega⟩
 unfold itemG
 split
 ·exact ⟨h.1,q06u h.2.1,h.2.2⟩
 ·split
  ·exact ⟨h.1,q0uc h.2.1,h.2.2.1,z,z,z,h.2.2.2.2.2.2⟩
  ·exact h
theorem q0vm {j:Job} (h:jobI j):jobI (snapG j):=by
 unfold snapG
 split
 ·exact h
 ·have hg:=h.g
  simp only [q0bg] at hg
  refine ⟨⟨hg.1,hg.2.1,hg.2.2.1,q0ba hg.2.2.2.1,q0ba hg.2.2.2.2.1,hg.2.2.2.2.2.1,q06u hg.2.2.2.2.2.2.1,q06u hg.2.2.2.2.2.2.2.1,hg.2.2.2.2.2.2.2.2⟩,?_,?_,?_⟩
  ·intro x hx
   obtain ⟨y,hy,rfl⟩:=ZJ.1 hx
   exact q0Ct _ (h.items y hy)
  ·intro n hn x hx
   obtain ⟨m,hm,rfl⟩:=ZJ.1 hn
   obtain ⟨y,hy,rfl⟩:=ZJ.1 hx
   exact q06u (h.notes m hm y hy)
  ·intro x hx
   obtain ⟨y,hy,rfl⟩:=ZJ.1 hx
   exact ⟨(h.floats y hy).1,q06u (h.floats y hy).2.1,(h.floats y hy).2.2⟩
section
variable {j:Job} (hf:fairF j=true)
include hf
end
theorem q0Ex {j:Job} (r:Right j) (sm:small (snapG j)):okW (snapG j):=by
 obtain ⟨f,hf,hk⟩:=q0fj j
 have hg:=q0bp r.g
 have hn:=q07c 5 j.notes.length j.items 0 0 (Zj _) r.r5
 have h5:cnt 5 (snapG j).items=cnt 5 j.items:=by rw [hf];exact q0pq 5 f (fun x=>(hk x).1) _
 refine ⟨by have:=sm.items;omega,by have:=sm.notes;omega,by have:=sm.floats;omega,fun n hn=>by have:=sm.each n hn;omega,?_,?_⟩
 ·rw [q0j1];exact ⟨⟨by omega,by omega⟩,by omega⟩
 ·rw [q0j0];unfold q01a;omega
section
variable (j:Job) (n1:j.items.length<=1000000) (hf: ∀x∈j.items,fairI x)
end
theorem q0tu (l:List Int) (x:Int) (hl:l.length<=1000000) (H:Heap):evD EE q0X7 ⟨[(0,sli l),(1,vI x),(7,vI l.length),(8,vI 0)],[],H,H.length,[]⟩=
  some (rng (fun (_:Unit) i y=>if x=y then .inr (Ex.ret,(⟨[(4,vI i)],[],H,H.length,[]⟩:St)) else .inl ()) (fun _=>(Ex.exit 0,(⟨[(0,sli l),(1,vI x),(7,vI l.length),(8,vI l.length),(9,vB false)],[],H,H.length,[]⟩:St))) () 0 l):=by
 unfold q0X7
 refine q013 l (fun (_:Unit) i=>⟨[(0,sli l),(1,vI x),(7,vI l.length),(8,vI i)],[],H,H.length,[]⟩) (fun _ _=>True) _ _ (fun _ _=>rfl) ?_ ?_ () 0 trivial (Zj _)
 ·rintro _ i y-hx
  have hlt:=(Za.1 hx).1
  have w:IntKind.i64.wrap ((i:Int)+1)=((i+1:Nat):Int):=w64 (by omega) (by omega)
  have hix:=fun H k=>q00c H encI (k:=k) (s:=1) hx rfl
  simp only [encI] at hix
  by_cases c:x=y
  ·simp [hlt,hix,encI,subs,c]
  ·simp [hlt,hix,encI,subs,c,w]
 ·rintro _-
  simp
theorem q09i (x:Int) (H:Heap) (fin:Ex×St): ∀(l:List Int) (i:Nat),(l.contains x=false->rng (fun (_:Unit) i y=>if x=y then .inr (Ex.ret,(⟨[(4,vI i)],[],H,H.length,[]⟩:St)) else .inl ()) (fun _=>fin) () i l=fin)/\
  (l.contains x=true-> ∃k:Nat,rng (fun (_:Unit) i y=>if x=y then .inr (Ex.ret,(⟨[(4,vI i)],[],H,H.length,[]⟩:St)) else .inl ()) (fun _=>fin) () i l=(Ex.ret,⟨[(4,vI k)],[],H,H.length,[]⟩))
 |[],i=>by simp [rng]
 |y::r,i=>by
  have ih:=q09i x H fin r (i+1)
  simp only [rng]
  by_cases c:x=y
  ·subst c
   simp only [if_true]
   refine ⟨fun h=>by simp at h,fun _=>⟨i,rfl⟩⟩
  ·simp only [if_neg c]
   have e:(y::r).contains x=r.contains x:=by simp [c]
   rw [e];exact ih
theorem q0tv (l:List Int) (x:Int) (hl:l.length<=1000000) (H:Heap):clD EE (.p (.fn 183)) [sli l,vI x] H=some (vB (l.contains x),none):=by
 rw [q002 _ _ _ _ _ _ (noP _) fn183]
 have key:=fun H=>q0tu l x hl H
 cases c:l.contains x with
 |false=>
  have i: ∀H,clD EE (.p (.fn 270)) [sli l,vI x] H=some (vI (-1),none):=by
   intro H
   rw [q002 _ _ _ _ _ _ (noP _) fn270]
   have k:=key H
   rw [(q09i x H _ l 0).1 c] at k
   simp [zEa,k]
  simp [zEa,i]
 |true=>
  have i: ∀H,∃k:Nat,clD EE (.p (.fn 270)) [sli l,vI x] H=some (vI k,none):=by
   intro H
   rw [q002 _ _ _ _ _ _ (noP _) fn270]
   have k:=key H
   obtain ⟨z,hz⟩:=(q09i x H (Ex.exit 0,⟨[(0,sli l),(1,vI x),(7,vI l.length),(8,vI l.length),(9,vB false)],[],H,H.length,[]⟩) l 0).2 c
   rw [hz] at k
   exact ⟨z,by simp [zEa,k]⟩
  obtain ⟨z,hz⟩:=i H
  have z0:(0:Int)<=z:=by omega
  simp [zEa,hz,z0]
section
variable (j:Job) (n1:j.items.length<=1000000) (hf: ∀x∈j.items,fairI x)
end
end Go.EnvOf
namespace Go.EnvOf
open Go Go.Eng
set_option maxRecDepth 100000
def encCo (c:Int×Int):List PV:=[.int .i64 c.1,.int .i64 c.2]
@[simp] theorem q0Vn (c:Int×Int):(encCo c).length=2:=rfl
section
variable (j:Job) (n1:j.items.length<=1000000) (hf: ∀x∈j.items,fairI x) (p B:Nat)
end
end Go.EnvOf
namespace Go.EnvOf
open Go Go.Eng
set_option maxRecDepth 100000
structure Lin where
 ov:Bool
 x1:Int
 x2:Int
 x3:Int
 x4:Int
 x5:Int
 x6:Int
 x7:Int
 x8:Int
 deriving Inhabited,DecidableEq
def q0To (x:Lin):List PV:=[.bool x.ov,.int .i64 x.x1,.int .i64 x.x2,.int .i64 x.x3,.int .i64 x.x4,.int .i64 x.x5,.int .i64 x.x6,.int .i64 x.x7,.int .i64 x.x8]
@[simp] theorem q0Vm (x:Lin):(q0To x).length=9:=rfl
abbrev hLi (H:Heap) (l:List Lin):Heap:=H++[.row 9 (upV (l.map q0To))]
theorem q136 (n:Int):IntKind.i64.wrap n<=9223372036854775807:=by
 have e:IntKind.i64.wrap n=if n%18446744073709551616≥9223372036854775808 then n%18446744073709551616-18446744073709551616 else n%18446744073709551616:=by
  simp [IntKind.wrap,IntKind.bits,IntKind.signed]
 rw [e];split<;>omega
theorem shr18 (a:Int):binV .shr (.p (.int .i64 a)) (.p (.int .u64 18))=some (.p (.int .i64 (a/262144))):=by
 have e:(2:Int)^(min (18:Int).toNat (IntKind.bits .i64))=262144:=by decide
 simp only [binV,intOp]
 rw [if_pos (by simp),if_neg (by decide),e,Int.fdiv_eq_ediv_of_nonneg _ (by decide)]
 rfl
def W64 (n:Int):Int:=IntKind.i64.wrap n
def quarQ (need has:Int):Int:=
 min (if need<1 then 0 else if has<1 then 1291 else if need<=7230584 then W64 ((W64 (need*297)).tdiv has) else if 1663497<=has then W64 (need.tdiv (W64 (has.tdiv 297))) else need) 1291
def cubeQ (r:Int):Int:=if 1290<r then 10000 else if r<1 then 0 else (r*r*r+131072)/262144
def badQ (need has:Int):Int:=cubeQ (quarQ need has)
theorem q13g (a b:Int) (H:Heap):clD EE (.p (.fn 382)) [vI a,vI b] H=some (vB (decide (a<1)),none):=by
 rw [q002 _ _ _ _ _ _ (noP _) fn382];simp [zEa]
theorem q13h (a b:Int) (H:Heap):clD EE (.p (.fn 383)) [vI a,vI b] H=some (vI 0,none):=by
 rw [q002 _ _ _ _ _ _ (noP _) fn383];simp [zEa]
theorem q13i (a b:Int) (H:Heap):clD EE (.p (.fn 384)) [vI a,vI b] H=some (vB (decide (b<1)),none):=by
 rw [q002 _ _ _ _ _ _ (noP _) fn384];simp [zEa]
theorem q13j (a b:Int) (H:Heap):clD EE (.p (.fn 385)) [vI a,vI b] H=some (vI 1291,none):=by
 rw [q002 _ _ _ _ _ _ (noP _) fn385];simp [zEa]
theorem q13k (a b:Int) (H:Heap):clD EE (.p (.fn 386)) [vI a,vI b] H=some (vB (decide (a<=7230584)),none):=by
 rw [q002 _ _ _ _ _ _ (noP _) fn386];simp [zEa]
theorem q13l (a b:Int) (hb:1<=b) (H:Heap):clD EE (.p (.fn 387)) [vI a,vI b] H=some (vI (W64 ((W64 (a*297)).tdiv b)),none):=by
 rw [q002 _ _ _ _ _ _ (noP _) fn387]
 have h: ¬b=0:=by omega
 unfold W64
 simp [zEa,h]
theorem q13m (a b:Int) (H:Heap):clD EE (.p (.fn 388)) [vI a,vI b] H=some (vB (decide (1663497<=b)),none):=by
 rw [q002 _ _ _ _ _ _ (noP _) fn388];simp [zEa]
theorem q13n (a b:Int) (hb:1663497<=b) (hB:b<=9223372036854775807) (H:Heap):clD EE (.p (.fn 389)) [vI a,vI b] H=some (vI (W64 (a.tdiv (W64 (b.tdiv 297)))),none):=by
 rw [q002 _ _ _ _ _ _ (noP _) fn389]
 have e:b.tdiv 297=b/297:=Int.tdiv_eq_ediv_of_nonneg (by omega)
 have w:IntKind.i64.wrap (b.tdiv 297)=b.tdiv 297:=by rw [e];exact w64 (by omega) (by omega)
 have h: ¬b.tdiv 297=0:=by rw [e];omega
 unfold W64
 simp [zEa,w,h]
theorem q12x (H:Heap):clD EE (.p (.fn 349)) [] H=some (.p (.sl [[.fn 382,.fn 383],[.fn 384,.fn 385],[.fn 386,.fn 387],[.fn 388,.fn 389]]),none):=by
 rw [q002 _ _ _ _ _ _ (noP _) fn349]
 simp [zEc]
theorem q137 (need has:Int) (hh:has<=9223372036854775807) (H:Heap):clD EE (.p (.fn 291)) [vI need,vI has] H=some (vI (quarQ need has),none):=by
 rw [q002 _ _ _ _ _ _ (noP _) fn291]
 have r:=fun H=>q12x H
 have r1:=fun H=>q13g need has H
 have r2:=fun H=>q13h need has H
 have r3:=fun H=>q13i need has H
 have r4:=fun H=>q13j need has H
 have r5:=fun H=>q13k need has H
 have r7:=fun H=>q13m need has H
 have w1:IntKind.i64.wrap 1=1:=by decide
 have w2:IntKind.i64.wrap 2=2:=by decide
 have w3:IntKind.i64.wrap 3=3:=by decide
 have w4:IntKind.i64.wrap 4=4:=by decide
 unfold quarQ
 by_cases c1:need<1
 ·simp [zEc,q111,q003,ixsI,ixsV,w1,w2,w3,w4,r,r1,r2,c1]
 ·by_cases c2:has<1
  ·simp [zEc,q111,q003,ixsI,ixsV,w1,w2,w3,w4,r,r1,r3,r4,c1,c2]
  ·by_cases c3:need<=7230584
   ·have r6:=fun H=>q13l need has (by omega) H
    simp [zEc,q111,q003,ixsI,ixsV,w1,w2,w3,w4,r,r1,r3,r5,r6,c1,c2,c3]
   ·by_cases c4:1663497<=has
    ·have r8:=fun H=>q13n need has c4 hh H
     simp [zEc,q111,q003,ixsI,ixsV,w1,w2,w3,w4,r,r1,r3,r5,r7,r8,c1,c2,c3,c4]
    ·simp [zEc,q111,q003,ixsI,ixsV,w1,w2,w3,w4,r,r1,r3,r5,r7,c1,c2,c3,c4]
theorem q138 (r:Int) (H:Heap):clD EE (.p (.fn 290)) [vI r] H=some (vI (cubeQ r),none):=by
 rw [q002 _ _ _ _ _ _ (noP _) fn290]
 unfold cubeQ
 by_cases c1:1290<r
 ·simp [zEa,c1]
 ·by_cases c2:r<1
  ·simp [zEa,c1,c2]
  ·have b2:r*r<=1290*1290:=Int.mul_le_mul (by omega) (by omega) (by omega) (by omega)
   have b2':0<=r*r:=Int.mul_nonneg (by omega) (by omega)
   have b3:r*r*r<=1290*1290*1290:=Int.mul_le_mul b2 (by omega) (by omega) (by omega)
   have b3':0<=r*r*r:=Int.mul_nonneg b2' (by omega)
   have w2:IntKind.i64.wrap (r*r)=r*r:=w64 (by omega) (by omega)
   have w3:IntKind.i64.wrap (r*r*r)=r*r*r:=w64 (by omega) (by omega)
   have w4:IntKind.i64.wrap (r*r*r+131072)=r*r*r+131072:=w64 (by omega) (by omega)
   have w5:IntKind.i64.wrap ((r*r*r+131072)/262144)=(r*r*r+131072)/262144:=w64 (by omega) (by omega)
   simp [zEa,c1,c2,w2,w3,w4,shr18]
theorem q122 (need has:Int) (hh:has<=9223372036854775807) (H:Heap):clD EE (.p (.fn 217)) [vI need,vI has] H=some (vI (badQ need has),none):=by
 rw [q002 _ _ _ _ _ _ (noP _) fn217]
 have q:=fun H=>q137 need has hh H
 have c:=fun H=>q138 (quarQ need has) H
 unfold badQ
 simp [zEa,q,c]
def badG (s:Setg) (spare:Int) (last:Bool):Int:=
 if s.how=0 then (if s.left=0\/last=true then 0 else badQ s.left (min (max spare 0) 1125899906842624))
 else if s.how=1 then (if 0<s.ord then 0 else badQ s.by_ (W64 (s.of_+min (max spare 0) 1125899906842624)))
 else if s.how=2 then badQ s.by_ s.of_ else 10000
theorem q12k (s:Setg) (spare:Int) (last:Bool) (h:s.of_<=9223372036854775807) (H:Heap):clD EE (.p (.fn 101)) [vSet s,vI spare,vB last] H=some (vI (badG s spare last),none):=by
 rw [q002 _ _ _ _ _ _ (noP _) fn101]
 have b1:=fun H=>q122 s.left (min (max spare 0) 1125899906842624) (by omega) H
 have b3:=fun H=>q122 s.by_ s.of_ h H
 have b2:=fun H=>q122 s.by_ (W64 (s.of_+min (max spare 0) 1125899906842624)) (q136 _) H
 unfold badG
 unfold W64 at b2⊢
 by_cases h0:s.how=0
 ·by_cases l0:s.left=0
  ·simp [zEc,h0,l0]
  ·cases last<;>simp [zEc,h0,l0,b1]
 ·by_cases h1:s.how=1
  ·by_cases o:0<s.ord
   ·simp [zEc,h1,o]
   ·simp [zEc,h1,o,b2]
  ·by_cases h2:s.how=2
   ·simp [zEc,h2,b3]
   ·simp [zEc,h0,h1,h2]
end Go.EnvOf
