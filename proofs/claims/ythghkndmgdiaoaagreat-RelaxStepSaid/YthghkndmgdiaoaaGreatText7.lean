/- The program's functions and the document's, evaluated. -/
import Derived.Test.YthghkndmgdiaoaaGreatText6
import Derived.Test.YthghkndmgdiaoaaGreatText5
import Derived.Test.YthghkndmgdiaoaaGreatText2
import Derived.Test.YthghkndmgdiaoaaGreatText3
set_option linter.unusedSimpArgs false
set_option linter.unusedVariables false
namespace Go.EnvOf
open Go Go.Eng
set_option maxRecDepth 100000
def behL (l:List Item) (b:Int):Int:=fwdB (l.drop (max b 0).toNat) (max b 0).toNat
def ahL (l:List Item) (b:Int):Int:=if b<1 then-1 else bwdB l (min b l.length).toNat
theorem q134 (l:List Item) (hl:l.length<=1000000) (b:Int) (H:Heap):clD EE (.p (.fn 314)) [q00d l,vI b] H=some (vI (behL l b),none):=by
 rw [q002 _ _ _ _ _ _ (noP _) fn314]
 have s: ∀H,clD EE (.p (.fn 379)) [q00d l,vI (max b 0),vI 1] H=some (vI (behL l b),none):=by
  intro H
  rw [q002 _ _ _ _ _ _ (noP _) fn379]
  obtain ⟨env,h1,h2⟩:=q12a l hl H H.length _ (max b 0).toNat rfl
  have e:((max b 0).toNat:Int)=max b 0:=by omega
  rw [e] at h1
  simp [zEa,h1,h2,behL]
 simp [zEa,s]
theorem q13f (l:List Item) (hl:l.length<=1000000) (b:Int) (H:Heap):clD EE (.p (.fn 313)) [q00d l,vI b] H=some (vI (ahL l b),none):=by
 rw [q002 _ _ _ _ _ _ (noP _) fn313]
 have l2:=fun H=>q021 l H
 unfold ahL
 by_cases c:b<1
 ·simp [zEa,c]
 ·have w:IntKind.i64.wrap (min b l.length-1)=min b l.length-1:=w64 (by omega) (by omega)
  have s: ∀H,clD EE (.p (.fn 379)) [q00d l,vI (min b l.length-1),vI (-1)] H=some (vI (bwdB l (min b l.length).toNat),none):=by
   intro H
   rw [q002 _ _ _ _ _ _ (noP _) fn379]
   obtain ⟨env,h1,h2⟩:=q12b l hl H H.length (min b l.length).toNat (by omega)
   have e:((min b l.length).toNat:Int)=min b l.length:=by omega
   rw [e] at h1
   simp [zEa,h1,h2]
  simp [zEa,c,l2,w,s]
def isAt (l:List Item) (f:Int) (t:Int):Bool:=match q02g l t with|some x=>decide (x.f=f)|none=>false
theorem q12h (l:List Item) (f t:Int) (p q:Nat) (H:Heap) (h1:Eng.boxAt H p=some [q00d l]) (h2:Eng.boxAt H q=some [vI f]):clD EE (.fn (.func 378) [] [.ptr p 0,.ptr q 0]) [vI t] H=some (vB (isAt l f t),none):=by
 rw [q02m,q002 _ _ _ _ _ _ (noP _) fn378]
 have l3:=fun H=>q07s l t H
 have e1:subs [q00d l] 0 1=some [q00d l]:=rfl
 unfold isAt
 cases h:q02g l t with
 |none=>rw [h] at l3;simp [zEc,h1,h2,l3]
 |some x=>rw [h] at l3;simp [zEc,h1,h2,l3]
theorem q12q (l:List Item) (f:Int) (H:Heap):clD EE (.p (.fn 312)) [q00d l,vI f] H=some (.fn (.func 378) [] [.ptr H.length 0,.ptr (H.length+1) 0],some (H++[.box [q00d l],.box [vI f]],[])):=by
 rw [q002 _ _ _ _ _ _ (noP _) fn312]
 simp [zEc]
theorem q135 (l:List Item) (hl:l.length<=1000000) (b:Int) (H:Heap):clD EE (.p (.fn 203)) [q00d l,vI b] H=some (vB (isAt l 1 (ahL l b)),none):=by
 rw [q002 _ _ _ _ _ _ (noP _) fn203]
 have a:=fun H=>q13f l hl b H
 have i:=fun H=>q12q l 1 H
 have k:=fun t=>q12h l 1 t H.length (H.length+1) (H++[.box [q00d l],.box [vI 1]]) (by simp) (by simp)
 simp [zEa,a,i,k]
theorem q12u (l:List Item) (hl:l.length<=1000000) (b:Int) (H:Heap):clD EE (.p (.fn 204)) [q00d l,vI b] H=some (vB (isAt l 2 (behL l b)),none):=by
 rw [q002 _ _ _ _ _ _ (noP _) fn204]
 have a:=fun H=>q134 l hl b H
 have i:=fun H=>q12q l 2 H
 have k:=fun t=>q12h l 2 t H.length (H.length+1) (H++[.box [q00d l],.box [vI 2]]) (by simp) (by simp)
 simp [zEa,a,i,k]
def paraF (g:Geom) (l:List Item) (b:Int):Int:=
 match q02g l b with
 |none=>0
 |some x=>if mayV l b=false\/q05z x=true then 0 else
   let n:=if x.k=3 then max x.n 0 else 0
   let n:=if isAt l 1 (ahL l b)=true then IntKind.i64.wrap (n+max g.club 0) else n
   if isAt l 2 (behL l b)=true then IntKind.i64.wrap (n+max g.widow 0) else n
theorem q12v (g:Geom) (l:List Item) (hl:l.length<=1000000) (b:Int) (H:Heap):clD EE (.p (.fn 93)) [vGeom g,q00d l,vI b] H=some (vI (paraF g l b),none):=by
 rw [q002 _ _ _ _ _ _ (noP _) fn93]
 have l3:=fun H=>q07s l b H
 have m:=fun H=>q0Co l hl b H
 have f:=fun x H=>q0j4 x H
 have cl:=fun H=>q135 l hl b H
 have wi:=fun H=>q12u l hl b H
 unfold paraF
 generalize isAt l 1 (ahL l b)=C at*
 generalize isAt l 2 (behL l b)=Wd at*
 cases h:q02g l b with
 |none=>rw [h] at l3;simp [zEc,l3]
 |some x=>
  rw [h] at l3
  cases q:mayV l b with
  |false=>rw [q] at m;simp [zEc,l3,m]
  |true=>
   rw [q] at m
   cases u:q05z x with
   |true=>
    have f1:=fun H=>f x H
    rw [u] at f1
    simp [zEc,l3,m,f1,u]
   |false=>
    have f1:=fun H=>f x H
    rw [u] at f1
    by_cases k3:x.k=3
    ·simp only [vItem,k3] at f1
     cases C<;>cases Wd<;>simp [zEc,l3,m,f1,k3,cl,wi,u]
    ·cases C<;>cases Wd<;>simp [zEc,l3,m,f1,k3,cl,wi,u]
def tornF (l:List Note) (p:List Piece):Int:=
 let x:=rd p ((p.length:Int)-1)
 if x.n<0\/(l.length:Int)<=x.n then 0 else penF (rd l x.n).lines (rd l x.n).pens x.to
theorem q12w (j:Job) (p:List Piece) (hp:0<p.length) (hp2:p.length<=1000000) (hn: ∀n∈j.notes,n.lines.length<=1000000) (H:Heap):clD EE (.p (.fn 96)) [vJob j,q00v p] H=some (vI (tornF j.notes p),none):=by
 rw [q002 _ _ _ _ _ _ (noP _) fn96]
 have w:IntKind.i64.wrap ((p.length:Int)-1)=(p.length:Int)-1:=w64 (by omega) (by omega)
 have hx:=q026 p ((p.length:Int)-1) (by omega) (by omega)
 have hix:=fun H k=>q024 H q00g (k:=k) (s:=3) (by omega) hx rfl
 unfold tornF
 simp only [q00g] at hix
 generalize rd p ((p.length:Int)-1)=x at*
 simp only [vJob,cGeom,Zd,Zf]
 by_cases c1:x.n<0
 ·simp [zEc,w,hix,c1]
 ·by_cases c2:(j.notes.length:Int)<=x.n
  ·simp [zEc,w,hix,c1,c2]
  ·have hy:=q026 j.notes x.n (by omega) (by omega)
   have hiy:=fun H k=>q024 H q00e (k:=k) (s:=2) (by omega) hy rfl
   have pe:=fun H=>q13e (rd j.notes x.n).lines (rd j.notes x.n).pens x.to H (by have:=hn _ (Zp hy);omega)
   generalize rd j.notes x.n=y at*
   simp only [q00e] at hiy
   simp only [note,sli] at pe
   simp [zEc,w,hix,c1,c2,hiy,pe]
def heldN (n:Int):Int:=min (max n 0) 1125899906842624
def addM (a b:Int):Int:=heldN (heldN a+heldN b)
theorem q0Tq (n:Int):0<=heldN n/\heldN n<=1125899906842624:=by unfold heldN;omega
theorem q0Uz (n:Int) (H:Heap):clD EE (.p (.fn 302)) [vI n] H=some (vI (heldN n),none):=by
 rw [q002 _ _ _ _ _ _ (noP _) fn302]
 unfold heldN
 simp [zEa]
theorem q0V0 (n:Int) (H:Heap):clD EE (.p (.fn 303)) [vI n] H=some (vI (heldN n),none):=by
 rw [q002 _ _ _ _ _ _ (noP _) fn303]
 unfold heldN
 simp [zEa]
theorem q0V1 (a b:Int) (H:Heap):clD EE (.p (.fn 191)) [vI a,vI b] H=some (vI (addM a b),none):=by
 rw [q002 _ _ _ _ _ _ (noP _) fn191]
 have h:=fun n H=>q0Uz n H
 have b1:=q0Tq a
 have b2:=q0Tq b
 have w:IntKind.i64.wrap (heldN a+heldN b)=heldN a+heldN b:=w64 (by omega) (by omega)
 unfold addM
 simp [zEa,h,w]
theorem q0V2 (a b:Int) (H:Heap):clD EE (.p (.fn 192)) [vI a,vI b] H=some (vI (addM a b),none):=by
 rw [q002 _ _ _ _ _ _ (noP _) fn192]
 have h:=fun n H=>q0V0 n H
 have b1:=q0Tq a
 have b2:=q0Tq b
 have w:IntKind.i64.wrap (heldN a+heldN b)=heldN a+heldN b:=w64 (by omega) (by omega)
 unfold addM
 simp [zEa,h,w]
abbrev vCost (o s:Int):V:= .agg [vI o,vI s]
theorem q0Uk (a b c d:Int) (H:Heap):clD EE (.p (.fn 86)) [vCost a b,vCost c d] H=some (vCost (addM a c) (addM b d),none):=by
 rw [q002 _ _ _ _ _ _ (noP _) fn86]
 have h1:=fun H=>q0V1 a c H
 have h2:=fun H=>q0V2 b d H
 simp [zEc,h1,h2]
theorem q0Uf (p:Nat) (o s a b:Int) (H:Heap) (h:Eng.boxAt H p=some [vI o,vI s]):clD EE (.p (.fn 121)) [.ptr p 0,vCost a b] H=some (.tup [],some (H.set p (.box [vI (addM o a),vI (addM s b)]),[p])):=by
 rw [q002 _ _ _ _ _ _ (noP _) fn121]
 have hlt:=q02y h
 have k:=fun H=>q0Uk o s a b H
 simp [zEc,h,k,hlt]
theorem q0U0 (p:Nat) (o s:Int) (H:Heap) (h:Eng.boxAt H p=some [vI o,vI s]):clD EE (.p (.fn 117)) [.ptr p 0] H=some (vCost o s,none):=by
 rw [q002 _ _ _ _ _ _ (noP _) fn117]
 simp [zEc,h]
def coS (st:Int×Int) (_:Nat) (n:Int):Int×Int:=(addM st.1 0,addM st.2 n)
def q0Tp (over:Bool) (l:List Int):Int×Int:=fold coS (if over=true then (1,0) else (0,0)) 0 l
def coFn (H:Heap):V:= .fn (.func 121) [.ptr H.length 0] []
@[simp] theorem q0Je (H:Heap) (k:Nat):q00s (coFn H) k=true:=rfl
theorem q0Tw (K:Heap) (v:V) (H:Heap):clD EE (coFn K) [v] H=clD EE (.p (.fn 121)) [.ptr K.length 0,v] H:=by unfold coFn;rw [q02m];rfl
def coE (H:Heap) (v:V) (n:Nat) (st:Int×Int) (i:Nat):St:=⟨[(4,.lptr 4 0),(5,.ptr H.length 0),(6,coFn H),(14,v),(15,vI n),(16,vI i)],[(4,[vI 0,vI 0])],H++[.box [vI st.1,vI st.2]],H.length,[]⟩
def coX (H:Heap) (v:V) (n:Nat) (st:Int×Int):Ex×St:=(.exit 0,⟨[(4,.lptr 4 0),(5,.ptr H.length 0),(6,coFn H),(14,v),(15,vI n),(16,vI n),(17,vB false)],[(4,[vI 0,vI 0])],H++[.box [vI st.1,vI st.2]],H.length,[]⟩)
theorem co_lp (H:Heap) (l:List Int) (hl:l.length<=1000000) (id:Nat) (hr:Go.Eng.rowAt H id=some (1,upV (l.map encI))) (st0:Int×Int):
  evD EE q17p (coE H (.row id l.length 0 l.length) l.length st0 0)=some (coX H (.row id l.length 0 l.length) l.length (fold coS st0 0 l)):=by
 unfold q17p
 refine q00u l (fun st i=>coE H (.row id l.length 0 l.length) l.length st i) (fun _ _=>True) coS (fun st=>coX H (.row id l.length 0 l.length) l.length st) (fun _ _=>rfl) ?_ ?_ st0 0 trivial (Zj _)
 ·rintro st i x-hx
  refine ⟨?_,trivial⟩
  have hlt:=(Za.1 hx).1
  have w:IntKind.i64.wrap ((i:Int)+1)=((i+1:Nat):Int):=w64 (by omega) (by omega)
  have hid:id<H.length:=by
   unfold Go.Eng.rowAt at hr
   rcases Z2 id H.length with g|g
   ·exact g
   ·rw [ZF g] at hr;cases hr
  have hr2: ∀T,Go.Eng.rowAt (H++T) id=some (1,upV (l.map encI)):=fun T=>by
   unfold Go.Eng.rowAt;rw [Zw hid];exact hr
  have hix: ∀T,ixsI (H++T) (.row id l.length 0 l.length) (vI i) 1=some (.rptr id l.length i 0):=fun T=>by
   rw [q01f,hr2,q0Qw];simp [upV,hlt]
  have hux:(upV (l.map encI))[i]? =some [vI x]:=by simp [upV,encI,hx]
  have hgx: ∀h:i<(upV (l.map encI)).length,(upV (l.map encI))[i]'h=[vI x]:=fun h=>(Za.1 hux).2
  have p:=q0Uf H.length st.1 st.2 0 x (H++[.box [vI st.1,vI st.2]]) (by simp)
  rw [<-q0Tw] at p
  have ad:addD H.length H.length []=[]:=by unfold addD;rw [if_neg (by omega)]
  simp [coE,coS,hlt,hix,hr2,hgx,subs,q001,w,p,ad]
 ·rintro st-
  refine ⟨?_,by simp [coX]⟩
  simp [coE,coX]
theorem q12r (H:Heap) (over:Bool) (l:List Int) (hl:l.length<=1000000) (id:Nat) (hr:Go.Eng.rowAt H id=some (1,upV (l.map encI))):
  clD EE (.p (.fn 100)) [vB over,.row id l.length 0 l.length] H=some (vCost (q0Tp over l).1 (q0Tp over l).2,none):=by
 rw [q002 _ _ _ _ _ _ (noP _) fn100]
 have ad:addD H.length H.length []=[]:=by unfold addD;rw [if_neg (by omega)]
 have sc:=fun a b=>q0U0 H.length a b (H++[.box [vI a,vI b]]) (by simp)
 have a1:addM 0 1=1:=by decide
 have a0:addM 0 0=0:=by decide
 have k:=fun st=>co_lp H l hl id hr st
 unfold q0Tp
 cases over with
 |true=>
  have p:=q0Uf H.length 0 0 1 0 (H++[.box [vI 0,vI 0]]) (by simp)
  rw [<-q0Tw] at p
  have k1:=k (1,0)
  simp only [if_true]
  generalize fold coS (1,0) 0 l=q at*
  simp [coE,coX,coFn] at k1 p
  simp [zEc,p,a1,a0,ad,k1,sc]
 |false=>
  have k1:=k (0,0)
  simp only [Zh,if_false]
  generalize fold coS (0,0) 0 l=q at*
  simp [coE,coX,coFn] at k1
  simp [zEc,ad,k1,sc]
theorem q0Ui (over:Bool) (l:List Int):(q0Tp over l).1=if over=true then 1 else 0:=by
 have: ∀(l:List Int) (i:Nat) (a b:Int),(a=0\/a=1)->(fold coS (a,b) i l).1=a:=by
  intro l
  induction l with
  |nil=>intro i a b _;rfl
  |cons x r ih=>
   intro i a b h
   simp only [fold,coS]
   have:addM a 0=a:=by rcases h with rfl|rfl<;>decide
   rw [this];exact ih (i+1) a _ h
 unfold q0Tp
 cases over with
 |true=>simp only [if_true];exact this l 0 1 0 (.inr rfl)
 |false=>simp only [Zh,if_false];exact this l 0 0 0 (.inl rfl)
section
variable (j:Job) (w:okW j)
end
theorem q0fn {α τ:Type} (f:τ->Nat->α->τ): ∀(l:List α) (s:τ) (i n:Nat) (x:α),l[n]? =some x->fold f s i (l.take (n+1))=f (fold f s i (l.take n)) (i+n) x
 |[],s,i,n,x,h=>by simp at h
 |y::r,s,i,0,x,h=>by simp at h;subst h;simp [fold]
 |y::r,s,i,n+1,x,h=>by
  simp only [ZZ,fold]
  rw [q0fn f r _ (i+1) n x (by simpa using h)]
  congr 1;omega
theorem q0Uq (n:Int) (H:Heap):clD EE (.p (.fn 88)) [vI n] H=some (vI (heldN n),none):=by
 rw [q002 _ _ _ _ _ _ (noP _) fn88]
 unfold heldN
 by_cases a:n<0
 ·have e:min (max n 0) 1125899906842624=0:=by omega
  rw [e];simp [zEa,a]
 ·by_cases b:1125899906842624<n
  ·have e:min (max n 0) 1125899906842624=1125899906842624:=by omega
   rw [e];simp [zEa,a,b]
  ·have e:min (max n 0) 1125899906842624=n:=by omega
   rw [e];simp [zEa,a,b]
theorem q0Tv (a b c d:Int) (H:Heap):clD EE (.p (.fn 26)) [vCost a b,vCost c d] H=some (vCost (addM a c) (addM b d),none):=by
 rw [q002 _ _ _ _ _ _ (noP _) fn26]
 have h:=fun n H=>q0Uq n H
 have b1:=q0Tq a
 have b2:=q0Tq b
 have b3:=q0Tq c
 have b4:=q0Tq d
 have w1:IntKind.i64.wrap (heldN a+heldN c)=heldN a+heldN c:=w64 (by omega) (by omega)
 have w2:IntKind.i64.wrap (heldN b+heldN d)=heldN b+heldN d:=w64 (by omega) (by omega)
 unfold addM
 simp [zEc,h,w1,w2]
def mustP (l:List Item) (n:Nat):Bool:=match l[n]? with|some x=>q05z x|none=>true
def mayN (l:List Item) (n:Nat):Bool:=mayV l n
def pos (a:Int):Nat:=(max a 0).toNat
def q010 (l:List Item) (a:Int):Int:=seekP (mustP l) (l.length-pos a) (pos a+1)
def q015 (l:List Item) (a:Int):Int:=seekP (mayN l) (l.length-pos a) (pos a+1)
def brkN (l:List Item) (a:Int):List Nat:=(List.range' (pos a+1) (l.length-pos a)).filter fun (m:Nat)=>decide ((m:Int)<=q010 l a)&&mayN l m
def brkF (l:List Item) (a:Int):List Int:=(brkN l a).map Int.ofNat
theorem q07g (p:Nat->Bool): ∀(k n:Nat),seekP p k n= -1\/((n:Int)<=seekP p k n/\seekP p k n<n+k/\p (seekP p k n).toNat=true)
 |0,n=> .inl rfl
 |k+1,n=>by
  rw [seekP]
  by_cases h:p n=true
  ·rw [if_pos h];exact .inr ⟨by omega,by omega,by simpa using h⟩
  ·rw [if_neg h]
   rcases q07g p k (n+1) with h1|⟨h1,h2,h3⟩
   ·exact .inl h1
   ·exact .inr ⟨by omega,by omega,h3⟩
theorem q0z6 (l:List Item) (hl:l.length<=1000000) (n:Nat) (hn:n<=l.length) (H:Heap):clD EE (.fn (.func 296) [q00d l] []) [vI n] H=some (vB (mustP l n),none):=by
 rw [q02m,q002 _ _ _ _ _ _ (noP _) fn296]
 have l3:=fun H=>q07s l n H
 have f:=fun x H=>q0j4 x H
 rw [q06n] at l3
 unfold mustP
 cases h:l[n]? with
 |none=>rw [h] at l3;simp [zEc,l3]
 |some x=>rw [h] at l3;simp [zEc,l3,f]
theorem q0Cr (l:List Item) (hl:l.length<=1000000) (n:Nat) (H:Heap):clD EE (.fn (.func 201) [q00d l] []) [vI n] H=some (vB (mayN l n),none):=by
 rw [q02m];exact q0Co l hl n H
theorem q0z7 (l:List Item) (hl:l.length<=1000000) (a:Int) (H:Heap):clD EE (.p (.fn 186)) [q00d l,vI a] H=some (vI (q010 l a),none):=by
 rw [q002 _ _ _ _ _ _ (noP _) fn186]
 have l2:=fun H=>q021 l H
 unfold q010 pos
 by_cases c:(l.length:Int)<=a
 ·have e:l.length-(max a 0).toNat=0:=by omega
  rw [e]
  simp [zEa,l2,c,seekP]
 ·have w:IntKind.i64.wrap (max a 0+1)=(((max a 0).toNat+1:Nat):Int):=by
   have e:(((max a 0).toNat+1:Nat):Int)=max a 0+1:=by omega
   rw [e];exact w64 (by omega) (by omega)
  by_cases d:(max a 0).toNat+1<=l.length+1
  ·have s:=fun H=>q0hc l ((max a 0).toNat+1) (.fn (.func 296) [q00d l] []) (mustP l) hl H (fun n hn=>q0z6 l hl n hn H) d rfl rfl
   have e:l.length+1-((max a 0).toNat+1)=l.length-(max a 0).toNat:=by omega
   rw [e] at s
   generalize (max a 0).toNat+1=z at*
   simp only [q00d] at l2 s⊢
   simp [zEa,l2,c,w,s]
  ·omega
theorem q0bs (l:List Item) (hl:l.length<=1000000) (a:Int) (H:Heap):clD EE (.p (.fn 187)) [q00d l,vI a] H=some (vI (q015 l a),none):=by
 rw [q002 _ _ _ _ _ _ (noP _) fn187]
 have l2:=fun H=>q021 l H
 unfold q015 pos
 by_cases c:(l.length:Int)<=a
 ·have e:l.length-(max a 0).toNat=0:=by omega
  rw [e]
  simp [zEa,l2,c,seekP]
 ·have w:IntKind.i64.wrap (max a 0+1)=(((max a 0).toNat+1:Nat):Int):=by
   have e:(((max a 0).toNat+1:Nat):Int)=max a 0+1:=by omega
   rw [e];exact w64 (by omega) (by omega)
  by_cases d:(max a 0).toNat+1<=l.length+1
  ·have s:=fun H=>q0hc l ((max a 0).toNat+1) (.fn (.func 201) [q00d l] []) (mayN l) hl H (fun n hn=>q0Cr l hl n H) d rfl rfl
   have e:l.length+1-((max a 0).toNat+1)=l.length-(max a 0).toNat:=by omega
   rw [e] at s
   generalize (max a 0).toNat+1=z at*
   simp only [q00d] at l2 s⊢
   simp [zEa,l2,c,w,s]
  ·omega
def filtB (l:List Item) (F:Int) (k n:Nat):List Nat:=(List.range' n k).filter fun (m:Nat)=>decide ((m:Int)<=F)&&mayN l m
theorem q0rp (l:List Item) (F:Int) (n:Nat):filtB l F 0 n=[]:=rfl
theorem q0fo (l:List Item) (F:Int) (k n:Nat):filtB l F (k+1) n=if (n:Int)<=F/\mayN l n=true then n::filtB l F k (n+1) else filtB l F k (n+1):=by
 unfold filtB
 rw [List.range'_succ,List.filter_cons]
 by_cases c:(n:Int)<=F
 ·by_cases m:mayN l n=true<;>simp [c,m]
 ·simp [c]
theorem q0fp (l:List Item) (F:Int): ∀(k n:Nat),F<n->filtB l F k n=[]
 |0,n,h=>rfl
 |k+1,n,h=>by rw [q0fo,if_neg (by omega),q0fp l F k (n+1) (by omega)]
theorem q0fq (l:List Item) (F:Int): ∀(k n:Nat),filtB l F k n=if seekP (mayN l) k n= -1 then [] else if seekP (mayN l) k n<=F then (seekP (mayN l) k n).toNat::filtB l F (n+k-((seekP (mayN l) k n).toNat+1)) ((seekP (mayN l) k n).toNat+1) else []
 |0,n=>by simp [seekP,q0rp]
 |k+1,n=>by
  rw [q0fo,seekP]
  by_cases m:mayN l n=true
  ·rw [if_pos m,if_neg (show¬(n:Int)= -1 by omega)]
   by_cases c:(n:Int)<=F
   ·rw [if_pos ⟨c,m⟩,if_pos c]
    have e:n+(k+1)-((n:Int).toNat+1)=k:=by omega
    rw [e];rfl
   ·rw [if_neg (fun h=>c h.1),if_neg c,q0fp l F k (n+1) (by omega)]
  ·rw [if_neg (fun h=>m h.2),if_neg m,q0fq l F k (n+1)]
   have e:n+1+k=n+(k+1):=by omega
   rw [e]
def bkE (l:List Item) (F:Int) (H:Heap) (acc:List Int) (b:Int):St:=⟨[(0,q00d l),(5,.row H.length acc.length 0 acc.length),(6,vI F),(7,vI b)],[],H++[.row 1 (upV (acc.map encI))],H.length,[]⟩
def bkX (l:List Item) (F:Int) (H:Heap) (acc:List Int) (b:Int):Ex×St:=(.exit 0,⟨[(0,q00d l),(5,.row H.length acc.length 0 acc.length),(6,vI F),(7,vI b),(20,vB false)],[],H++[.row 1 (upV (acc.map encI))],H.length,[]⟩)
theorem bk_lp (l:List Item) (hl:l.length<=1000000) (F:Int) (H:Heap): ∀(k n:Nat) (acc:List Int),(n+k=l.length+1\/k=0)->acc.length<=n-> ∃b,evD EE q0aw (bkE l F H acc (seekP (mayN l) k n))=some (bkX l F H (acc++(filtB l F k n).map Int.ofNat) b):=by
 intro k
 induction k using Nat.strongRecOn with
 |_ k ih=>
  intro n acc hk ha
  have hb:=q07g (mayN l) k n
  rw [q0fq]
  generalize hs:seekP (mayN l) k n=b at*
  rcases hb with rfl|⟨h1,h2,h3⟩
  ·refine ⟨-1,?_⟩
   unfold q0aw
   rw [q003]
   simp [bkE,bkX]
  ·have hb0:0<b\/b=0:=by omega
   rcases hb0 with hb0|hb0
   ·rw [if_neg (by omega)]
    by_cases c:b<=F
    ·rw [if_pos c]
     have fi:=fun H=>q0bs l hl b H
     have e0:(b.toNat:Int)=b:=by omega
     have hp:pos b=b.toNat:=by unfold pos;omega
     have e1:q015 l b=seekP (mayN l) (n+k-(b.toNat+1)) (b.toNat+1):=by
      unfold q015;rw [hp];congr 1;omega
     obtain ⟨b',h4⟩:=ih (n+k-(b.toNat+1)) (by omega) (b.toNat+1) (acc++[b]) (by omega) (by simp;omega)
     refine ⟨b',?_⟩
     have e2:acc++List.map Int.ofNat (b.toNat::filtB l F (n+k-(b.toNat+1)) (b.toNat+1))=(acc++[b])++(filtB l F (n+k-(b.toNat+1)) (b.toNat+1)).map Int.ofNat:=by
      simp [hb0,e0,show max b 0=b by omega]
     rw [e2,<-h4,<-e1]
     have hm:acc.length+1<most:=by unfold most;omega
     conv=>lhs;unfold q0aw
     rw [q003]
     have w0: ∀z,clD EE (.p (.fn 187)) [q00d l,vI b] z=some (vI (q015 l b),none):=fi
     simp only [bkE]
     simp [hb0,c,hm,w0]
     rfl
    ·rw [if_neg c]
     refine ⟨b,?_⟩
     unfold q0aw
     rw [q003]
     simp [bkE,bkX,hb0,c]
   ·exfalso
    subst hb0
    unfold mayN mayV at h3
    simp at h3
theorem q0z8 (l:List Item) (a:Int):brkN l a=filtB l (q010 l a) (l.length-pos a) (pos a+1):=rfl
theorem q0vh (l:List Item) (hl:l.length<=1000000) (a:Int) (H:Heap):clD EE (.p (.fn 84)) [q00d l,vI a] H=some (sli (brkF l a),none):=by
 rw [q002 _ _ _ _ _ _ (noP _) fn84]
 have f1:=fun H=>q0z7 l hl a H
 have f2:=fun H=>q0bs l hl a H
 obtain ⟨b,k⟩:=bk_lp l hl (q010 l a) H (l.length-pos a) (pos a+1) [] (by omega) (by simp)
 have e:q015 l a=seekP (mayN l) (l.length-pos a) (pos a+1):=rfl
 rw [<-e,<-q0z8,Zf] at k
 change _=some (bkX l (q010 l a) H (brkF l a) b) at k
 generalize brkF l a=R at*
 simp [bkE,bkX] at k
 simp [zEa,f1,f2,k]
end Go.EnvOf
namespace Go.EnvOf
open Go Go.Eng
set_option maxRecDepth 100000
abbrev c6 (t:Tot):List V:=[vI t.nat,vI t.s0,vI t.s1,vI t.s2,vI t.s3,vI t.shr]
def sumL {α:Type} (f:List Item->α) (z:α) (l:List Item) (i:Nat):List α:=(List.range (l.length+1)).map fun k=>if k<=i then f (l.take k) else z
theorem q060 {α:Type} (f:List Item->α) (z:α) (l:List Item) (i:Nat):(sumL f z l i).length=l.length+1:=by simp [sumL]
theorem q0n3 {α:Type} (f:List Item->α) (z:α) (l:List Item) (i k:Nat) (h:k<=i) (hk:k<=l.length):(sumL f z l i)[k]? =some (f (l.take k)):=by simp [sumL,h,show k<l.length+1 by omega]
theorem q0n4 {α:Type} (f:List Item->α) (z:α) (l:List Item) (i:Nat) (h:i<l.length):(sumL f z l i)[i+1]? =some z:=by simp [sumL,h];omega
theorem q0n5 {α:Type} (f:List Item->α) (z:α) (l:List Item) (i:Nat):(sumL f z l i).set (i+1) (f (l.take (i+1)))=sumL f z l (i+1):=by
 apply List.ext_getElem?
 intro k
 rw [List.getElem?_set]
 by_cases hk:k<l.length+1
 ·by_cases e:i+1=k
  ·subst e;simp [sumL,hk]
  ·rw [if_neg e]
   simp only [sumL,List.getElem?_map,List.getElem?_range hk,ZH]
   by_cases h:k<=i
   ·rw [if_pos h,if_pos (by omega)]
   ·rw [if_neg h,if_neg (by omega)]
 ·have e1:(sumL f z l (i+1))[k]? =none:=ZF (by rw [q060];omega)
  have e2:(sumL f z l i)[k]? =none:=ZF (by rw [q060];omega)
  rw [e1,e2]
  by_cases e:i+1=k
  ·subst e;rw [if_pos rfl,if_neg (by rw [q060];omega)]
  ·rw [if_neg e]
theorem q0z9 {α:Type} (f:List Item->α) (z:α) (l:List Item):sumL f z l l.length=preL f l (l.length+1):=by
 unfold sumL preL
 apply List.map_congr_left
 intro k hk
 have:=List.mem_range.1 hk
 rw [if_pos (by omega)]
theorem q0j9 {α:Type} (f:List Item->α) (z:α) (l:List Item) (h:f []=z):sumL f z l 0=List.replicate (l.length+1) z:=by
 apply List.ext_getElem?
 intro k
 by_cases hk:k<l.length+1
 ·simp only [sumL,List.getElem?_map,List.getElem?_range hk,ZH,List.getElem?_replicate,if_pos hk]
  by_cases e:k<=0
  ·have:k=0:=by omega
   subst this;simp [h]
  ·rw [if_neg e]
 ·rw [ZF (by rw [q060];omega),ZF (by simp;omega)]
def suH (l:List Item) (i:Nat):Heap:=[DObj.row 6 (upV ((sumL totP zeroT l i).map q020)),DObj.row 1 (upV ((sumL boxP 0 l i).map encI))]
def suE (l:List Item) (i:Nat):St:=
 ⟨[(0,q006 l),(4,.lptr 21 0),(23,vI l.length),(24,vI i)],[(21,[q006 l,.row 0 (l.length+1) 0 (l.length+1),.row 1 (l.length+1) 0 (l.length+1)])],suH l i,0,[]⟩
def suX (l:List Item):Ex×St:=
 (.exit 0,⟨[(0,q006 l),(4,.lptr 21 0),(23,vI l.length),(24,vI l.length),(25,vB false)],[(21,[q006 l,.row 0 (l.length+1) 0 (l.length+1),.row 1 (l.length+1) 0 (l.length+1)])],suH l l.length,0,[]⟩)
set_option maxHeartbeats 1000000 in
theorem q0Eu (l:List Item) (hl:l.length<=4096) (hf: ∀x∈l,fairI x) (i:Nat) (x:Item) (hx:l[i]? =some x): ∃c,q16n= .loop [0,4,23,24] [21] c/\evD EE c (suE l i)=some (.normal,suE l (i+1)):=by
 refine ⟨_,rfl,?_⟩
 have hlt:=(Za.1 hx).1
 have w:IntKind.i64.wrap ((i:Int)+1)=((i+1:Nat):Int):=w64 (by omega) (by omega)
 have hix:=fun H k=>q00c H q004 (k:=k) (s:=7) hx rfl
 have ts:=q03n hx
 have fx:=hf x (Zp hx)
 have ft: ∀y∈l.take i,fairI y:=fun y hy=>hf y (Z6 hy)
 have ft1: ∀y∈l.take (i+1),fairI y:=fun y hy=>hf y (Z6 hy)
 have hlen:(l.take i).length=i:=by rw [ZC];omega
 have hlen1:(l.take (i+1)).length=i+1:=by rw [ZC];omega
 have t1:=q0iy (l.take i) x
 have b1:=q0v2 (l.take i) x
 rw [<-ts] at t1 b1
 have q1:=q0hb _ ft
 have q2:=q0hb _ ft1
 have q3:=q0pp _ ft
 have q4:=q0pp _ ft1
 rw [hlen] at q1 q3
 rw [hlen1] at q2 q4
 have it:=fun H=>q0mx x H
 have sf:=fun H=>q0yy (totI x) (q0ch fx) H
 have ta:=fun H=>q0va (totP (l.take i)) (totI x) (q04g q1 (by omega)) (q04g (q0ch fx) (by omega)) (by rw [<-t1];exact q04g q2 (by omega)) H
 rw [<-t1] at ta
 have g1:(upV ((sumL totP zeroT l i).map q020))[i]? =some ((q020 (totP (l.take i))).map V.p):=by simp [q05v,q0n3 totP zeroT l i i (Zm _) (by omega)]
 have g2:(upV ((sumL totP zeroT l i).map q020))[i+1]? =some ((q020 zeroT).map V.p):=by simp [q05v,q0n4 totP zeroT l i hlt]
 have g3:(upV ((sumL boxP 0 l i).map encI))[i]? =some [vI (boxP (l.take i))]:=by simp [q05v,q0n3 boxP 0 l i i (Zm _) (by omega),encI]
 have g4:(upV ((sumL boxP 0 l i).map encI))[i+1]? =some [vI 0]:=by simp [q05v,q0n4 boxP 0 l i hlt,encI]
 have s1:(upV ((sumL totP zeroT l i).map q020)).set (i+1) ((q020 (totP (l.take (i+1)))).map V.p)=upV ((sumL totP zeroT l (i+1)).map q020):=by rw [q06r,q0n5]
 have s2:(upV ((sumL boxP 0 l i).map encI)).set (i+1) [vI (boxP (l.take (i+1)))]=upV ((sumL boxP 0 l (i+1)).map encI):=by
  have:=q06r encI (sumL boxP 0 l i) (i+1) (boxP (l.take (i+1)))
  rw [q0n5] at this
  exact this
 have n1:(upV ((sumL totP zeroT l i).map q020)).length=l.length+1:=by simp [q060]
 have n2:(upV ((sumL boxP 0 l i).map encI)).length=l.length+1:=by simp [q060]
 have hlt1:i<l.length+1:=by omega
 have hlt2:i+1<l.length+1:=by omega
 have x0: ∀a b:V,[a,b][0]? =some a:=fun _ _=>rfl
 have x1: ∀a b:V,[a,b][1]? =some b:=fun _ _=>rfl
 have wb:IntKind.i64.wrap (boxP (l.take i)+x.h)=boxP (l.take i)+x.h:=w64 (by have:=fx.h;omega) (by have:=fx.h;omega)
 unfold suE suH
 generalize totP (l.take (i+1))=T1 at*
 generalize totP (l.take i)=T0 at*
 generalize totI x=TI at*
 generalize hB1:boxP (l.take (i+1))=P1 at*
 generalize boxP (l.take i)=P0 at*
 generalize upV ((sumL totP zeroT l i).map q020)=A1 at*
 generalize upV ((sumL totP zeroT l (i+1)).map q020)=A2 at*
 generalize upV ((sumL boxP 0 l i).map encI)=B1 at*
 generalize upV ((sumL boxP 0 l (i+1)).map encI)=B2 at*
 simp only [q020,zeroT,Zo,ZL] at g1 g2 s1
 have g5: ∀v:List V,(B1.set (i+1) v)[i+1]? =some v:=fun v=>by rw [ZX (by omega)]
 unfold boxI1 at b1
 have ir:=fun H id tot off len s=>q01f H id tot off len s .i64 (i+1)
 simp only [Int.natCast_add,Int.natCast_one] at ir
 by_cases k1:x.k=1
 ·rw [if_pos k1] at b1
  subst b1
  simp only [vItem,k1] at it
  simp [-getElem?_pos,hlt,hix,q004,subs,q001,w,it,sf,ta,g1,g2,g3,g4,g5,s1,s2,n1,n2,hlt1,hlt2,x0,x1,q01f,ir,k1,wb]
 ·rw [if_neg k1,Int.add_zero] at b1
  subst b1
  simp [-getElem?_pos,hlt,hix,q004,subs,q001,w,it,sf,ta,g1,g2,g3,g4,s1,s2,n1,n2,hlt1,hlt2,x0,x1,q01f,ir,k1]
theorem q0Ev (l:List Item) (hl:l.length<=4096) (hf: ∀x∈l,fairI x):evD EE q16n (suE l 0)=some (suX l):=by
 unfold q16n
 refine Eq.trans (q00u l (fun (_:Unit) i=>suE l i) (fun _ _=>True) (fun _ _ _=>()) (fun _=>suX l) (fun _ _=>rfl) ?_ ?_ () 0 trivial (Zj _)) rfl
 ·rintro _ i x-hx
  obtain ⟨c',h1,h2⟩:=q0Eu l hl hf i x hx
  simp only [q16n,IC.loop.injEq] at h1
  obtain ⟨-,-,rfl⟩:=h1
  exact ⟨h2,trivial⟩
 ·rintro _-
  simp [suE,suX]
theorem q0vi (l:List Item) (hl:l.length<=4096) (hf: ∀x∈l,fairI x):zR (clD EE (.p (.fn 49)) [q006 l] [])=some (.tup [q00r l,vB true]):=by
 rw [q002 _ _ _ _ _ _ (noP _) fn49]
 have c:=q05o l (by omega)
 have k:=q0Ev l hl hf
 have w:IntKind.i64.wrap ((l.length:Int)+1)=((l.length+1:Nat):Int):=w64 (by omega) (by omega)
 have hm:l.length+1<most:=by unfold most;omega
 have h9: ¬(4096:Int)<l.length:=by omega
 have e1:List.replicate (l.length+1) [vI 0,vI 0,vI 0,vI 0,vI 0,vI 0]=upV ((sumL totP zeroT l 0).map q020):=by rw [q0j9 totP zeroT l rfl];simp [upV,q020,zeroT]
 have e2:List.replicate (l.length+1) [vI 0]=upV ((sumL boxP 0 l 0).map encI):=by rw [q0j9 boxP 0 l rfl];simp [upV,encI]
 have p0:0<(l.length:Int)+1:=by omega
 have pt:((l.length:Int)+1).toNat=l.length+1:=by omega
 simp only [suE,suX,suH,q0z9] at k
 have f1:=fun T=>q04f (H:=DObj.row 6 (upV ((preL totP l (l.length+1)).map q020))::T) (id:=0) (n:=l.length+1) rfl (by simp [q04d])
 have f2:=fun R T=>q04f (H:=R::DObj.row 1 (upV ((preL boxP l (l.length+1)).map encI))::T) (id:=1) (n:=l.length+1) rfl (by simp [q04d])
 generalize upV ((sumL totP zeroT l 0).map q020)=A at*
 generalize upV ((sumL boxP 0 l 0).map encI)=B at*
 simp at k
 simp [zEc,solN,sd,c,h9,w,hm,p0,pt,e1,e2,k,allO,q00r,f1,f2,q06z]
def anH (l:List Item) (fs:List Float) (n:Nat):Heap:=[DObj.row 1 (upV ((preL q01a l n).map encI)),DObj.row 3 (upV ((preL (q00n fs) l n).map encC3)),DObj.row 3 (upV ((preL (dueP fs) l n).map encC3))]
def anE (l:List Item) (fs:List Float) (i:Nat):St:=
 ⟨[(1,q005 fs),(5,.lptr 21 0),(22,q006 l),(23,vI l.length),(24,vI i)],[(21,[q006 l,.row 0 (i+1) 0 (i+1),.row 1 (i+1) 0 (i+1),.row 2 (i+1) 0 (i+1)])],anH l fs (i+1),0,[]⟩
def anX (l:List Item) (fs:List Float):Ex×St:=
 (.exit 0,⟨[(1,q005 fs),(5,.lptr 21 0),(22,q006 l),(23,vI l.length),(24,vI l.length),(25,vB false)],[(21,[q006 l,.row 0 (l.length+1) 0 (l.length+1),.row 1 (l.length+1) 0 (l.length+1),.row 2 (l.length+1) 0 (l.length+1)])],anH l fs (l.length+1),0,[]⟩)
theorem q0hd {α:Type} (enc:α->List PV) (f:List Item->α) (l:List Item) (n:Nat):upV ((preL f l n).map enc)++upV [enc (f (l.take n))]=upV ((preL f l (n+1)).map enc):=by
 rw [q0v1];simp [upV]
theorem q0za (l:List Item) (fs:List Float) (hl:l.length<=1000000) (i:Nat) (x:Item) (hx:l[i]? =some x): ∃c,q17z= .loop [1,5,22,23,24] [21] c/\evD EE c (anE l fs i)=some (.normal,anE l fs (i+1)):=by
 refine ⟨_,rfl,?_⟩
 have hlt:=(Za.1 hx).1
 have w:IntKind.i64.wrap ((i:Int)+1)=((i+1:Nat):Int):=w64 (by omega) (by omega)
 have hix:=fun H k=>q00c H q004 (k:=k) (s:=7) hx rfl
 have ts:=q03n hx
 have b1:=q0oa (l.take i) x
 have a1:=q0db fs (l.take i) x
 have d1:=q0bo fs (l.take i) x
 rw [<-ts] at b1 a1 d1
 have g1:(upV ((preL q01a l (i+1)).map encI))[i]? =some [vI (q01a (l.take i))]:=by simp [q05v,q04e q01a l (i+1) i (by omega),encI]
 have g2:(upV ((preL (q00n fs) l (i+1)).map encC3))[i]? =some [vI (q00n fs (l.take i)).a,vI (q00n fs (l.take i)).b,vI (q00n fs (l.take i)).c]:=by simp [q05v,q04e (q00n fs) l (i+1) i (by omega),encC3]
 have g3:(upV ((preL (dueP fs) l (i+1)).map encC3))[i]? =some [vI (dueP fs (l.take i)).a,vI (dueP fs (l.take i)).b,vI (dueP fs (l.take i)).c]:=by simp [q05v,q04e (dueP fs) l (i+1) i (by omega),encC3]
 have p1:=q0hd encI q01a l (i+1)
 have p2:=q0hd encC3 (q00n fs) l (i+1)
 have p3:=q0hd encC3 (dueP fs) l (i+1)
 have n1:(upV ((preL q01a l (i+1)).map encI)).length=i+1:=by simp [q04d]
 have n2:(upV ((preL (q00n fs) l (i+1)).map encC3)).length=i+1:=by simp [q04d]
 have n3:(upV ((preL (dueP fs) l (i+1)).map encC3)).length=i+1:=by simp [q04d]
 have bb:=q0iw (l.take i)
 have ab:=q0ix fs (l.take i)
 have hlen:(l.take i).length=i:=by rw [ZC];omega
 rw [hlen] at bb ab
 have wb:IntKind.i64.wrap (q01a (l.take i)+1)=q01a (l.take i)+1:=w64 (by omega) (by omega)
 have wa:IntKind.i64.wrap ((q00n fs (l.take i)).a+1)=(q00n fs (l.take i)).a+1:=w64 (by omega) (by omega)
 have wb2:IntKind.i64.wrap ((q00n fs (l.take i)).b+1)=(q00n fs (l.take i)).b+1:=w64 (by omega) (by omega)
 have wc:IntKind.i64.wrap ((q00n fs (l.take i)).c+1)=(q00n fs (l.take i)).c+1:=w64 (by omega) (by omega)
 have hm:i+1+1<most:=by unfold most;omega
 have hat:=fun H=>at_ev fs x.n H
 have x0: ∀a b:V,[a,b][0]? =some a:=fun _ _=>rfl
 have x1: ∀a b:V,[a,b][1]? =some b:=fun _ _=>rfl
 simp only [encI,encC3,b1,a1,d1] at p1 p2 p3
 unfold anE anH
 generalize q01a (l.take i)=b at*
 generalize hA:q00n fs (l.take i)=A at*
 generalize hD:dueP fs (l.take i)=D at*
 generalize upV ((preL q01a l (i+1)).map encI)=B1 at*
 generalize upV ((preL (q00n fs) l (i+1)).map encC3)=A1 at*
 generalize upV ((preL (dueP fs) l (i+1)).map encC3)=D1 at*
 generalize upV ((preL q01a l (i+1+1)).map encI)=B2 at*
 generalize upV ((preL (q00n fs) l (i+1+1)).map encC3)=A2 at*
 generalize upV ((preL (dueP fs) l (i+1+1)).map encC3)=D2 at*
 unfold addAt at p2
 by_cases k5:x.k=5
 ·simp only [k5,if_true,show¬(5:Int)=6 by decide,show¬(5:Int)=7 by decide,if_false] at p1 p2 p3
  simp [-getElem?_pos,hlt,hix,q004,subs,q001,g1,g2,g3,n1,n2,n3,w,hm,p1,p2,p3,apoB,okEl,q01f,x0,x1,k5,wb]
 ·by_cases k6:x.k=6
  ·simp only [k6,if_true,show¬(6:Int)=5 by decide,show¬(6:Int)=7 by decide,if_false,Int.add_zero] at p1 p2 p3
   unfold ofS at p2
   cases hf:atF fs x.n with
   |none=>
    simp only [hf] at p2 hat
    simp [-getElem?_pos,hlt,hix,q004,subs,q001,g1,g2,g3,n1,n2,n3,w,hm,p1,p2,p3,apoB,okEl,q01f,x0,x1,k6,hat]
   |some f=>
    simp only [hf] at p2 hat
    unfold bump at p2
    by_cases d0:f.c=0
    ·simp only [d0,if_true] at p2
     simp [-getElem?_pos,hlt,hix,q004,subs,q001,g1,g2,g3,n1,n2,n3,w,hm,p1,p2,p3,apoB,okEl,q01f,x0,x1,k6,hat,d0,ixaV,q007,wa]
    ·by_cases d1:f.c=1
     ·simp only [d1,if_true,show¬(1:Int)=0 by decide,if_false] at p2
      simp [-getElem?_pos,hlt,hix,q004,subs,q001,g1,g2,g3,n1,n2,n3,w,hm,p1,p2,p3,apoB,okEl,q01f,x0,x1,k6,hat,d1,ixaV,q007,wb2]
     ·by_cases d2:f.c=2
      ·simp only [d2,if_true,show¬(2:Int)=0 by decide,show¬(2:Int)=1 by decide,if_false] at p2
       simp [-getElem?_pos,hlt,hix,q004,subs,q001,g1,g2,g3,n1,n2,n3,w,hm,p1,p2,p3,apoB,okEl,q01f,x0,x1,k6,hat,d2,ixaV,q007,wc]
      ·simp only [d0,d1,d2,if_false] at p2
       by_cases d3:f.c<0
       ·simp [-getElem?_pos,hlt,hix,q004,subs,q001,g1,g2,g3,n1,n2,n3,w,hm,p1,p2,p3,apoB,okEl,q01f,x0,x1,k6,hat,show¬0<=f.c by omega]
       ·simp [-getElem?_pos,hlt,hix,q004,subs,q001,g1,g2,g3,n1,n2,n3,w,hm,p1,p2,p3,apoB,okEl,q01f,x0,x1,k6,hat,show 0<=f.c by omega,show¬f.c<3 by omega]
  ·by_cases k7:x.k=7
   ·simp only [k7,if_true,show¬(7:Int)=5 by decide,show¬(7:Int)=6 by decide,if_false,Int.add_zero] at p1 p2 p3
    by_cases q1:D.a=A.a
    ·by_cases q2:D.b=A.b
     ·by_cases q3:D.c=A.c
      ·simp [-getElem?_pos,hlt,hix,q004,subs,q001,g1,g2,g3,n1,n2,n3,w,hm,p1,p2,p3,apoB,okEl,q01f,x0,x1,k7,q1,q2,q3]
      ·simp [-getElem?_pos,hlt,hix,q004,subs,q001,g1,g2,g3,n1,n2,n3,w,hm,p1,p2,p3,apoB,okEl,q01f,x0,x1,k7,q1,q2,q3]
     ·simp [-getElem?_pos,hlt,hix,q004,subs,q001,g1,g2,g3,n1,n2,n3,w,hm,p1,p2,p3,apoB,okEl,q01f,x0,x1,k7,q1,q2]
    ·simp [-getElem?_pos,hlt,hix,q004,subs,q001,g1,g2,g3,n1,n2,n3,w,hm,p1,p2,p3,apoB,okEl,q01f,x0,x1,k7,q1]
   ·simp only [k5,k6,k7,if_false,Int.add_zero] at p1 p2 p3
    simp [-getElem?_pos,hlt,hix,q004,subs,q001,g1,g2,g3,n1,n2,n3,w,hm,p1,p2,p3,apoB,okEl,q01f,x0,x1,k5,k6,k7]
theorem q0zb (l:List Item) (fs:List Float) (hl:l.length<=1000000):evD EE q17z (anE l fs 0)=some (anX l fs):=by
 unfold q17z
 refine Eq.trans (q00u l (fun (_:Unit) i=>anE l fs i) (fun _ _=>True) (fun _ _ _=>()) (fun _=>anX l fs) (fun _ _=>rfl) ?_ ?_ () 0 trivial (Zj _)) rfl
 ·rintro _ i x-hx
  obtain ⟨c',h1,h2⟩:=q0za l fs hl i x hx
  simp only [q17z,IC.loop.injEq] at h1
  obtain ⟨-,-,rfl⟩:=h1
  exact ⟨h2,trivial⟩
 ·rintro _-
  simp [anE,anX]
theorem q0vj (l:List Item) (fs:List Float) (hl:l.length<=1000000):zR (clD EE (.p (.fn 51)) [q006 l,q005 fs] [])=some (vMapW l fs):=by
 rw [q002 _ _ _ _ _ _ (noP _) fn51]
 have c:=q05o l hl
 have k:=q0zb l fs hl
 have e1:upV ((preL q01a l 1).map encI)=[[vI 0]]:=by simp [preL,upV,encI,q01a,cnt]
 have e2:upV ((preL (q00n fs) l 1).map encC3)=[[vI 0,vI 0,vI 0]]:=by simp [preL,upV,encC3,q00n]
 have e3:upV ((preL (dueP fs) l 1).map encC3)=[[vI 0,vI 0,vI 0]]:=by simp [preL,upV,encC3,dueP]
 simp only [anE,anX,anH,Zs,e1,e2,e3] at k
 simp at k
 have f1:=fun T=>q04f (H:=DObj.row 1 (upV ((preL q01a l (l.length+1)).map encI))::T) (id:=0) (n:=l.length+1) rfl (by simp [q04d])
 have f2:=fun R T=>q04f (H:=R::DObj.row 3 (upV ((preL (q00n fs) l (l.length+1)).map encC3))::T) (id:=1) (n:=l.length+1) rfl (by simp [q04d])
 have f3:=fun R R' T=>q04f (H:=R::R'::DObj.row 3 (upV ((preL (dueP fs) l (l.length+1)).map encC3))::T) (id:=2) (n:=l.length+1) rfl (by simp [q04d])
 simp [zEc,solN,sd,c,k,allO,vMapW,f1,f2,f3,rowI,okEl]
theorem q0zc (env:List (Nat×V)) (loc:List (Nat×List V)) (H:Heap) (l:List Note) (x:Note) (hm:l.length+1<most):
  appV ⟨env,loc,H++rowsG 2 q00e l,H.length,[]⟩ (q00k H.length l) (.p (.sl [q00e x])) 2=some (q00k H.length (l++[x]),⟨env,loc,H++rowsG 2 q00e (l++[x]),H.length,[]⟩):=
 q08t env loc H H.length [] 2 q00e l x rfl hm (Zm _)
def q0n6:List V:=[vI 0,vI 0,vI 0,vI 0,vI 0,vI 0,vI 0,vI 0,vI 0,vI 0,vI 0,vI 0,vI 0,vI 0,vI 0,vI 0,vI 0,vI 0,vB false,.nils,.nils,.nils]
def cpE (j:Job) (H:Heap) (M:List Note) (i:Nat):St:=
 ⟨[(2,.lptr 2 0),(3,.lptr 3 0),(16,q00b j.notes),(17,vI j.notes.length),(18,vI i)],[(2,q0n6),(3,cGeom j.g++[q006 j.items,q00k H.length M,q005 j.floats])],H++rowsG 2 q00e M,H.length,[]⟩
def cpX (j:Job) (H:Heap):Ex×St:=
 (.exit 0,⟨[(2,.lptr 2 0),(3,.lptr 3 0),(16,q00b j.notes),(17,vI j.notes.length),(18,vI j.notes.length),(19,vB false)],[(2,q0n6),(3,cGeom j.g++[q006 j.items,q00k H.length j.notes,q005 j.floats])],H++rowsG 2 q00e j.notes,H.length,[]⟩)
theorem cp_lp (j:Job) (n2:j.notes.length<=1000000) (hn: ∀n∈j.notes,n.lines.length<=1000000/\n.pens.length<=1000000) (H:Heap):evD EE q16l (cpE j H [] 0)=some (cpX j H):=by
 unfold q16l
 refine Eq.trans (q00u j.notes (fun (_:Unit) i=>cpE j H (j.notes.take i) i) (fun _ _=>True) (fun _ _ _=>()) (fun _=>cpX j H) (fun _ _=>rfl) ?_ ?_ () 0 trivial (Zj _)) rfl
 ·rintro _ i x-hx
  refine ⟨?_,trivial⟩
  have hlt:=(Za.1 hx).1
  have w:IntKind.i64.wrap ((i:Int)+1)=((i+1:Nat):Int):=w64 (by omega) (by omega)
  have hix:=fun H k=>q00c H q00e (k:=k) (s:=2) hx rfl
  obtain ⟨l1,l2⟩:=hn x (Zp hx)
  have c1:=q0rj x.lines l1
  have c2:=q0ob x.pens l2
  have hlen:(j.notes.take i).length=i:=by rw [ZC];omega
  have ha:=fun env loc=>q0zc env loc H (j.notes.take i) x (by rw [hlen];unfold most;omega)
  rw [q03n hx]
  generalize j.notes.take i=M at*
  simp only [q00e] at hix ha
  simp only [cpE,cGeom,Zd,Zf]
  simp [-q08l,hlt,hix,subs,q001,solN,sd,w,c1,c2,ha]
 ·rintro _-
  simp only [cpE,cpX,List.take_length]
  simp [subs]
theorem q0vk (j:Job) (n1:j.items.length<=1000000) (n2:j.notes.length<=1000000) (n3:j.floats.length<=1000000) (hn: ∀n∈j.notes,n.lines.length<=1000000/\n.pens.length<=1000000) (H:Heap):clD EE (.p (.fn 47)) [vJob j] H=some (vJob j,none):=by
 rw [q002 _ _ _ _ _ _ (noP _) fn47]
 have c1:=q05o j.items n1
 have c2:=q0jx j.floats n3
 have k:=cp_lp j n2 hn H
 have f2:=fun env loc=>q07b env loc (H++rowsG 2 q00e j.notes) H.length [] H.length 2 q00e j.notes (by
  have:=q09q 2 q00e H [] j.notes
  simpa using this) (Zm _)
 simp only [cpE,cpX,q0n6,cGeom,Zd,Zf] at k
 simp only [vJob,cGeom,Zd,Zf]
 generalize hu:q00k H.length j.notes=u at*
 have o:u.oneB=true:=by rw [<-hu];simp
 have p:u.cells=[u]:=by rw [<-hu];simp
 clear hu
 generalize H++rowsG 2 q00e j.notes=G at*
 simp at k
 simp [zEc,solN,sd,c1,c2,k,f2,o,p]
def encNp (n:Note):List Int×List Int:=(n.lines,n.pens)
theorem q0n7 (l:List Note):q037 (l.map encNp)=lineN l:=by
 induction l with
 |nil=>rfl
 |cons n r ih=>simp only [Zo,q037,List.foldr_cons,lineN,List.sum_cons] at ih⊢;rw [ih];rfl
theorem q0n8 (l:List Note) (H:Heap) (hl:l.length<=1000000) (hs:lineN l<=9223372036854775807):clD EE (.p (.fn 53)) [q00b l] H=some (vI (lineN l),none):=by
 have h:=q0yl (l.map encNp) H (by simpa using hl) (by rw [q0n7];exact hs)
 rw [q0n7] at h
 unfold notes at h
 rw [List.map_map] at h
 exact h
theorem q0zd (l:List Note) (h: ∀n∈l,n.lines.length<=1000000):0<=lineN l/\lineN l<=1000000*l.length:=by
 induction l with
 |nil=>simp [lineN]
 |cons n r ih=>
  have h1:=h n ZE
  have h2:=ih fun m hm=>h m (Zv _ hm)
  simp only [lineN,Zo,List.sum_cons,Zg] at h2⊢
  omega
def cutV {α:Type} (enc:α->List PV) (l:List α) (p:Nat):V:=if p=0 then .nils else .p (.sl ((l.take p).map enc))
section
variable {α:Type} (enc:α->List PV) (l:List α) (p:Nat)
@[simp] theorem q0R9:(cutV enc l p).oneB=true:=by unfold cutV;split<;>rfl
@[simp] theorem q0Nu:(cutV enc l p).cells=[cutV enc l p] :=by unfold cutV;split<;>rfl
@[simp] theorem q0Ra:(cutV enc l p).notL=true:=by unfold cutV;split<;>rfl
@[simp] theorem q0Nv:normC (cutV enc l p)= .p (.sl ((l.take p).map enc)):=by
  unfold cutV;split
  ·rename_i h0;subst h0;rfl
  ·rfl
theorem q0ze (s:Nat) (hs: ∀x,(enc x).length=s) (H:Heap) (k:IntKind) (h:p<=l.length):slcI H s (.p (.sl (l.map enc))) none (some (.p (.int k (p:Int))))=some (.p (.sl ((l.take p).map enc))):=by
 have hh:q066 s (l.map enc)=true:=by
  cases l with
  |nil=>rfl
  |cons x r=>simp [q066,hs]
 have h2:(p:Int)<=l.length:=by omega
 simp [slcI,slcV,hh,h2]
end
abbrev textH (j:Job):Heap:=[DObj.box [q00d j.items,q00r j.items,vMapW j.items j.floats]]
def nwS (j:Job) (i:Nat):St:=
 ⟨[(1,.lptr 1 0),(6,.lptr 35 0),(53,vI (j.notes.length+1)),(54,vI i)],[(1,cJobW j),(35,.ptr 0 0::(cJobW j++[q00k 1 ((List.range i).map fun k=>lineN (j.notes.take k)),vI (allS j).a,vI (allS j).b,vI (allS j).c]))],
   textH j++rowsG 1 encI ((List.range i).map fun k=>lineN (j.notes.take k)),0,[]⟩
def nwX (j:Job):Ex×St:=
 (.exit 0,⟨[(1,.lptr 1 0),(6,.lptr 35 0),(53,vI (j.notes.length+1)),(54,vI (j.notes.length+1)),(55,vB false)],[(1,cJobW j),(35,.ptr 0 0::(cJobW j++[q00k 1 (preN j.notes),vI (allS j).a,vI (allS j).b,vI (allS j).c]))],
  textH j++rowsG 1 encI (preN j.notes),0,[]⟩)
theorem nw_lp (j:Job) (n2:j.notes.length<=1000000) (hn: ∀n∈j.notes,n.lines.length<=1000000):evD EE q197 (nwS j 0)=some (nwX j):=by
 unfold q197
 refine Eq.trans (q00u (List.range (j.notes.length+1)) (fun (_:Unit) i=>nwS j i) (fun _ _=>True) (fun _ _ _=>()) (fun _=>nwX j) (fun _ _=>rfl) ?_ ?_ () 0 trivial (Zj _)) rfl
 ·rintro _ i x-hx
  refine ⟨?_,trivial⟩
  have hlt:i<j.notes.length+1:=by have:=(Za.1 hx).1;simpa using this
  have w:IntKind.i64.wrap ((i:Int)+1)=((i+1:Nat):Int):=w64 (by omega) (by omega)
  have hl2:(i:Int)<(j.notes.length:Int)+1:=by omega
  have sc:=fun H k=>q0ze q00e j.notes i 2 (fun _=>rfl) H k (by omega)
  have lb:=q0zd (j.notes.take i) (fun n h=>hn n (Z6 h))
  have ll:(j.notes.take i).length<=1000000:=by rw [ZC];omega
  have nl:=fun H=>q0n8 (j.notes.take i) H ll (by omega)
  have ha:=fun env loc=>q08t env loc (textH j) 0 [] 1 encI ((List.range i).map fun k=>lineN (j.notes.take k)) (lineN (j.notes.take i)) rfl (by simp;unfold most;omega) (Zj _)
  have er:(List.range (i+1)).map (fun k=>lineN (j.notes.take k))=(List.range i).map (fun k=>lineN (j.notes.take k))++[lineN (j.notes.take i)]:=by simp [List.range_succ]
  unfold nwS
  rw [er]
  generalize (List.range i).map (fun k=>lineN (j.notes.take k))=M at*
  generalize lineN (j.notes.take i)=y at*
  simp only [textH,Zg,Zq,Zs,encI] at ha
  simp only [q00b,List.map_take] at nl sc
  simp only [textH,cJobW,cGeom,Zd,Zf,encI] at ha⊢
  simp [-q08l,hl2,subs,q001,w,sc,nl,ha]
 ·rintro _-
  simp only [nwS,nwX,List.length_range,preN,cJobW,cGeom,Zd,Zf]
  simp
theorem q0Cs (j:Job) (ok:okJob j) (okS:okJob (snapG j)) (hp: ∀n∈(snapG j).notes,n.lines.length<=1000000/\n.pens.length<=1000000):
  zR (clD EE (.p (.fn 11)) [vJob j] [])=some (if (q02q j).1=0 then .tup [vW (snapG j),vB true] else .tup [.p .nilp,vB false]):=by
 rw [q002 _ _ _ _ _ _ (noP _) fn11]
 have hr:=fun H=>q0ju j ok (q0d7 ok.n3) H
 have hs:=fun H=>q0pi j ok H
 have hc:=fun H=>q0vk (snapG j) okS.n1 okS.n2 okS.n3 hp H
 by_cases h:(q02q j).1=0
 ·rw [if_pos h]
  have r:=(q0it j).1 h
  have hs2:=q0vi (snapG j).items (by rw [q0v4];have:=r.n1;omega) (q0iz r)
  have hv:=q0rk (snapG j).items okS.n1
  have ha:=q0vj (snapG j).items (snapG j).floats okS.n1
  have hal:=fun H=>q09v (snapG j).items (snapG j).floats (snapG j).items.length H
  have e:q00n (snapG j).floats ((snapG j).items.take (putN (snapG j).items (snapG j).items.length))=allS (snapG j):=by
   rw [q0Ce (Zm _),List.take_length];rfl
  simp only [e] at hal
  have k:=nw_lp (snapG j) okS.n2 (fun n hn=>(hp n hn).1)
  have w:IntKind.i64.wrap (((snapG j).notes.length:Int)+1)=((snapG j).notes.length:Int)+1:=w64 (by have:=okS.n2;omega) (by have:=okS.n2;omega)
  simp only [h,decide_true] at hr
  have hne:preN (snapG j).notes≠[]:=by simp [preN]
  have hlen:(preN (snapG j).notes).length=(snapG j).notes.length+1:=by simp [preN]
  generalize snapG j=J at*
  have f1:=fun R T=>q04f (H:=R::DObj.row 1 (upV ((preN J.notes).map encI))::T) (id:=1) (n:=(preN J.notes).length) rfl (by simp)
  simp only [nwS,nwX,textH,cJobW,cGeom,Zd,Zf,q00k,rowsG,if_neg hne,List.range_zero,ZL,if_true] at k
  simp only [vJob,cGeom,Zd,Zf] at hr hs hc⊢
  simp at k
  simp [zEc,solN,sd,hr,hs,hc,hs2,hv,ha,hal,w,k,allO,f1,vW,q00o]
 ·rw [if_neg h]
  have hb:decide ((q02q j).1=0)=false:=by simpa using h
  rw [hb] at hr
  simp only [vJob,cGeom,Zd,Zf] at hr⊢
  simp [zEc,hr,allO]
section
variable (j:Job) (w:okW j)
end
def fairN (x:Int):Bool:=decide (0<=x)&&decide (x<=1073741823)
def q0Ew (j:Job):List Int:=[j.g.grid,j.g.high,j.g.first,j.g.rule,j.g.sep]++j.items.map (·.h)++j.notes.flatMap (·.lines)++j.floats.map (·.h)
def fairF (j:Job):Bool:= !((q0Ew j).any fun x=> !fairN x)
theorem q0Ct {x:Item} (s:Int) (h:q079 x):q079 (itemG s x):=by
 have z:I64 0:=⟨by omega,by omega⟩
 unfold itemG
 split
 ·exact ⟨h.1,q06u h.2.1,h.2.2⟩
 ·split
  ·exact ⟨h.1,q0uc h.2.1,h.2.2.1,z,z,z,h.2.2.2.2.2.2⟩
  ·exact h
theorem q0vm {j:Job} (h:jobI j):jobI (snapG j):=by
 unfold snapG
 split
 ·exact h
 ·have hg:=h.g
  simp only [q0bg] at hg
  refine ⟨⟨hg.1,hg.2.1,hg.2.2.1,q0ba hg.2.2.2.1,q0ba hg.2.2.2.2.1,hg.2.2.2.2.2.1,q06u hg.2.2.2.2.2.2.1,q06u hg.2.2.2.2.2.2.2.1,hg.2.2.2.2.2.2.2.2⟩,?_,?_,?_⟩
  ·intro x hx
   obtain ⟨y,hy,rfl⟩:=ZJ.1 hx
   exact q0Ct _ (h.items y hy)
  ·intro n hn x hx
   obtain ⟨m,hm,rfl⟩:=ZJ.1 hn
   obtain ⟨y,hy,rfl⟩:=ZJ.1 hx
   exact q06u (h.notes m hm y hy)
  ·intro x hx
   obtain ⟨y,hy,rfl⟩:=ZJ.1 hx
   exact ⟨(h.floats y hy).1,q06u (h.floats y hy).2.1,(h.floats y hy).2.2⟩
section
variable {j:Job} (hf:fairF j=true)
include hf
end
theorem q0Ex {j:Job} (r:Right j) (sm:small (snapG j)):okW (snapG j):=by
 obtain ⟨f,hf,hk⟩:=q0fj j
 have hg:=q0bp r.g
 have hn:=q07c 5 j.notes.length j.items 0 0 (Zj _) r.r5
 have h5:cnt 5 (snapG j).items=cnt 5 j.items:=by rw [hf];exact q0pq 5 f (fun x=>(hk x).1) _
 refine ⟨by have:=sm.items;omega,by have:=sm.notes;omega,by have:=sm.floats;omega,fun n hn=>by have:=sm.each n hn;omega,?_,?_⟩
 ·rw [q0j1];exact ⟨⟨by omega,by omega⟩,by omega⟩
 ·rw [q0j0];unfold q01a;omega
theorem q0Vl (H:Heap) (l:List Int) (hl:l.length<=1000000) (st0:Int×Int):
  evD EE q17p (coE H (sli l) l.length st0 0)=some (coX H (sli l) l.length (fold coS st0 0 l)):=by
 unfold q17p
 refine q00u l (fun st i=>coE H (sli l) l.length st i) (fun _ _=>True) coS (fun st=>coX H (sli l) l.length st) (fun _ _=>rfl) ?_ ?_ st0 0 trivial (Zj _)
 ·rintro st i x-hx
  refine ⟨?_,trivial⟩
  have hlt:=(Za.1 hx).1
  have w:IntKind.i64.wrap ((i:Int)+1)=((i+1:Nat):Int):=w64 (by omega) (by omega)
  have hix:=fun H k=>q00c H encI (k:=k) (s:=1) hx rfl
  simp only [encI] at hix
  have p:=q0Uf H.length st.1 st.2 0 x (H++[.box [vI st.1,vI st.2]]) (by simp)
  rw [<-q0Tw] at p
  have ad:addD H.length H.length []=[]:=by unfold addD;rw [if_neg (by omega)]
  simp [coE,coS,hlt,hix,encI,subs,q001,w,p,ad]
 ·rintro st-
  refine ⟨?_,by simp [coX]⟩
  simp [coE,coX]
theorem q0Um (H:Heap) (over:Bool) (l:List Int) (hl:l.length<=1000000):
  clD EE (.p (.fn 100)) [vB over,sli l] H=some (vCost (q0Tp over l).1 (q0Tp over l).2,none):=by
 rw [q002 _ _ _ _ _ _ (noP _) fn100]
 have ad:addD H.length H.length []=[]:=by unfold addD;rw [if_neg (by omega)]
 have sc:=fun a b=>q0U0 H.length a b (H++[.box [vI a,vI b]]) (by simp)
 have a1:addM 0 1=1:=by decide
 have a0:addM 0 0=0:=by decide
 have k:=fun st=>q0Vl H l hl st
 unfold q0Tp
 cases over with
 |true=>
  have p:=q0Uf H.length 0 0 1 0 (H++[.box [vI 0,vI 0]]) (by simp)
  rw [<-q0Tw] at p
  have k1:=k (1,0)
  simp only [if_true]
  generalize fold coS (1,0) 0 l=q at*
  simp [coE,coX,coFn] at k1 p
  simp [zEc,p,a1,a0,ad,k1,sc]
 |false=>
  have k1:=k (0,0)
  simp only [Zh,if_false]
  generalize fold coS (0,0) 0 l=q at*
  simp [coE,coX,coFn] at k1
  simp [zEc,ad,k1,sc]
def overX (j:Job) (at_ to:Int):Bool:=decide ((q07f (sumT j.items at_ to) j.g.high false).how=3)
def textX (j:Job) (at_ to:Int):Option (Int×Int):=if overX j at_ to=true/\to≠q015 j.items at_ then none else some (q0Tp (overX j at_ to) [paraF j.g j.items to])
def trimX (l:List Item) (at_:Int):Bool:=decide (0<=at_)&&decide (at_<=l.length)&&decide ((trimF l at_:Int)=at_)
abbrev vCO (c:Option (Int×Int)):V:= .tup [vCost (c.getD (0,0)).1 (c.getD (0,0)).2,vB c.isSome]
section
variable (j:Job) (n1:j.items.length<=1000000) (hf: ∀x∈j.items,fairI x)
include n1 hf in
theorem q1b7 (at_ to:Int) (H:Heap):clD EE (.p (.fn 85)) [vW j,vI at_,vI to] H=some (vCO (textX j at_ to),none):=by
 rw [q002 _ _ _ _ _ _ (noP _) fn85]
 have pl:=fun H=>q07d j H
 have wl:=fun H=>q07e j H
 have ws:=fun H=>q0z0 j H
 have so:=fun H=>q0vd j.items n1 hf at_ to H
 have gs:=fun H=>q0vf (sumT j.items at_ to) j.g.high false H
 have fi:=fun H=>q0bs j.items n1 at_ H
 have pa:=fun H=>q12v j.g j.items n1 to H
 have co:=fun b H=>q0Um H b [paraF j.g j.items to] (by simp)
 unfold textX
 have e:overX j at_ to=decide ((q07f (sumT j.items at_ to) j.g.high false).how=3):=rfl
 generalize overX j at_ to=O at*
 generalize q07f (sumT j.items at_ to) j.g.high false=G at*
 generalize sumT j.items at_ to=T at*
 generalize paraF j.g j.items to=P at*
 generalize q015 j.items at_=F at*
 simp only [vJob,vGeom,cGeom,Zd,Zf,sli,Zo,ZL,encI] at pl pa co
 by_cases g:G.how=3
 ·rw [decide_eq_true g] at e
  subst e
  by_cases q:to=F
  ·subst q
   rw [if_neg (fun h=>h.2 rfl)]
   simp [zEc,fldvV,pl,wl,ws,so,gs,fi,pa,co,g]
  ·rw [if_pos ⟨rfl,q⟩]
   simp [zEc,fldvV,pl,wl,ws,so,gs,fi,g,q]
 ·rw [decide_eq_false g] at e
  subst e
  rw [if_neg (fun h=>by cases h.1)]
  simp [zEc,fldvV,pl,wl,ws,so,gs,pa,co,g]
include n1 in
theorem q1b8 (at_:Int) (H:Heap):clD EE (.p (.fn 83)) [vW j,vI at_] H=some (vB (trimX j.items at_),none):=by
 rw [q002 _ _ _ _ _ _ (noP _) fn83]
 have wl:=fun H=>q07e j H
 have l2:=fun H=>q021 j.items H
 have tr:=fun H=>q0Ci j.items at_ n1 H
 have nq:eqnV NK.ptr true (vW j)=some (vB true):=rfl
 unfold trimX
 by_cases a:0<=at_
 ·by_cases b:at_<=j.items.length
  ·simp [zEa,nq,wl,l2,tr,a,b]
  ·simp [zEa,nq,wl,l2,a,b]
 ·simp [zEa,nq,a]
end
theorem q18m (l:List Item) (a:Int):(brkF l a).length<=l.length:=by
 unfold brkF brkN
 rw [Z0]
 refine Nat.le_trans (List.length_filter_le _ _) ?_
 rw [List.length_range'];omega
section
variable (j:Job) (n1:j.items.length<=1000000) (hf: ∀x∈j.items,fairI x)
end
theorem q0Ur (a:Int) (H:Heap):clD EE (.p (.fn 374)) [vI a] H=some (vB false,none):=by
 rw [q002 _ _ _ _ _ _ (noP _) fn374]
 simp [zEa]
theorem q0Vd (a b:Int) (H:Heap):clD EE (.p (.fn 305)) [vI a,vI b] H=some (vI (cmp1 a b),none):=by
 rw [q002 _ _ _ _ _ _ (noP _) fn305]
 have n1:=fun H=>q0Ur a H
 have n2:=fun H=>q0Ur b H
 unfold cmp1
 by_cases h1:a<b
 ·simp [zEa,n1,n2,h1]
 ·by_cases h2:b<a
  ·simp [zEa,n1,n2,h1,h2]
  ·simp [zEa,n1,n2,h1,h2]
def orE (l:List Int) (H:Heap) (i:Nat):St:=⟨[(3,vI 0),(6,sli l),(7,vI l.length),(8,vI i)],[],H,H.length,[]⟩
def orX (l:List Int) (H:Heap):Ex×St:=(.exit 0,⟨[(3,vI 0),(6,sli l),(7,vI l.length),(8,vI l.length),(9,vB false)],[],H,H.length,[]⟩)
def orS (H:Heap) (_:Unit) (_:Nat) (x:Int):Unit⊕(Ex×St):=if x=0 then .inl () else .inr (.ret,⟨[(2,vI x)],[],H,H.length,[]⟩)
theorem or_lp (l:List Int) (H:Heap) (hl:l.length<=1000000):evD EE q18s (orE l H 0)=some (rng (orS H) (fun _=>orX l H) () 0 l):=by
 unfold q18s
 refine q013 l (fun (_:Unit) i=>orE l H i) (fun _ _=>True) (orS H) (fun _=>orX l H) (fun _ _=>rfl) ?_ ?_ () 0 trivial (Zj _)
 ·rintro _ i x-hx
  have hlt:=(Za.1 hx).1
  have w:IntKind.i64.wrap ((i:Int)+1)=((i+1:Nat):Int):=w64 (by omega) (by omega)
  have hix:=fun H k=>q00c H encI (k:=k) (s:=1) hx rfl
  by_cases h:x=0
  ·simp only [orS,if_pos h]
   simp [orE,hlt,hix,encI,subs,w,h]
  ·simp only [orS,if_neg h]
   simp [orE,hlt,hix,encI,subs,w,h]
 ·rintro _-
  simp [orE,orX]
theorem q0Us (H:Heap) (fin:Ex×St): ∀(l:List Int) (i:Nat),rng (orS H) (fun _=>fin) () i l=if orL l=0 then fin else (.ret,⟨[(2,vI (orL l))],[],H,H.length,[]⟩)
 |[],_=>by simp [rng,orL]
 |x::r,i=>by
  simp only [rng,orS,orL]
  by_cases h:x=0
  ·simp only [if_pos h];exact q0Us H fin r (i+1)
  ·simp only [if_neg h]
theorem q0V3 (l:List Int) (H:Heap) (hl:l.length<=1000000):clD EE (.p (.fn 304)) [sli l] H=some (vI (orL l),none):=by
 rw [q002 _ _ _ _ _ _ (noP _) fn304]
 have k:=or_lp l H hl
 rw [q0Us] at k
 by_cases h:orL l=0
 ·rw [if_pos h] at k
  simp [orE,orX] at k
  simp [zEa,k,h]
 ·rw [if_neg h] at k
  simp [orE] at k
  simp [zEa,k]
def encCo (c:Int×Int):List PV:=[.int .i64 c.1,.int .i64 c.2]
@[simp] theorem q0Vn (c:Int×Int):(encCo c).length=2:=rfl
def cmpCo (a b:Int×Int):Int:=lexC [a.1,a.2] [b.1,b.2]
theorem q0Ug (a:Int) (H:Heap):clD EE (.p (.fn 375)) [vI a] H=some (vB false,none):=by
 rw [q002 _ _ _ _ _ _ (noP _) fn375]
 simp [zEa]
theorem q0Ut (a b:Int) (H:Heap):clD EE (.p (.fn 306)) [vI a,vI b] H=some (vI (cmp1 a b),none):=by
 rw [q002 _ _ _ _ _ _ (noP _) fn306]
 have n1:=fun H=>q0Ug a H
 have n2:=fun H=>q0Ug b H
 unfold cmp1
 by_cases h1:a<b
 ·simp [zEa,n1,n2,h1]
 ·by_cases h2:b<a
  ·simp [zEa,n1,n2,h1,h2]
  ·simp [zEa,n1,n2,h1,h2]
theorem q0Uu (a b:Int×Int) (H:Heap):clD EE (.p (.fn 194)) [vCost a.1 a.2,vCost b.1 b.2] H=some (vI (cmpCo a b),none):=by
 rw [q002 _ _ _ _ _ _ (noP _) fn194]
 have c1:=fun H=>q0Vd a.1 b.1 H
 have c2:=fun H=>q0Ut a.2 b.2 H
 have o:=fun H=>q0V3 [cmp1 a.1 b.1,cmp1 a.2 b.2] H (by simp)
 have e:orL [cmp1 a.1 b.1,cmp1 a.2 b.2]=cmpCo a b:=by
  unfold cmpCo
  simp only [orL,lexC]
 rw [e] at o
 simp only [sli,Zo,ZL,encI] at o
 simp [zEc,c1,c2,o]
def leS (l:List (Int×Int)) (a:Int) (i:Nat) (x:Int×Int):Int:=if a<0\/cmpCo x (rd l a)<0 then i else a
def leO (o:Option (Int×Int)) (_:Nat) (x:Int×Int):Option (Int×Int):=match o with|none=>some x|some y=>if cmpCo x y<0 then some x else some y
def q17c (l:List (Int×Int)):Int:=fold (leS l) (-1) 0 l
def q177 (l:List (Int×Int)):Option (Int×Int):=fold leO none 0 l
theorem q183 (l:List (Int×Int)):(q17c l= -1/\q177 l=none)\/(0<=q17c l/\q17c l<l.length/\q177 l=some (rd l (q17c l))):=by
 have key: ∀n,n<=l.length->(fold (leS l) (-1) 0 (l.take n)= -1/\fold leO none 0 (l.take n)=none)\/(0<=fold (leS l) (-1) 0 (l.take n)/\fold (leS l) (-1) 0 (l.take n)<n/\fold leO none 0 (l.take n)=some (rd l (fold (leS l) (-1) 0 (l.take n)))):=by
  intro n
  induction n with
  |zero=>intro _;left;simp [fold]
  |succ n ih=>
   intro hn
   have hx:l[n]? =some l[n]:=Zl (by omega)
   rw [q0fn _ l _ 0 n _ hx,q0fn _ l _ 0 n _ hx,Zs]
   have hr:rd l (n:Int)=l[n]:=by
    have:=q026 l (n:Int) (by omega) (by omega)
    simp at this
    rw [hx] at this;simpa using this.symm
   rcases ih (by omega) with ⟨h1,h2⟩|⟨h1,h2,h3⟩
   ·rw [h1,h2]
    right
    unfold leS leO
    rw [if_pos (.inl (by omega)),hr]
    exact ⟨by omega,by omega,rfl⟩
   ·rw [h3]
    right
    unfold leS leO
    simp only
    by_cases c:cmpCo l[n] (rd l (fold (fun a i x=>if a<0\/cmpCo x (rd l a)<0 then (i:Int) else a) (-1) 0 (l.take n)))<0
    ·rw [if_pos (.inr c),if_pos c,hr];exact ⟨by omega,by omega,rfl⟩
    ·rw [if_neg (fun h=>by rcases h with h|h;exact absurd h1 (by unfold leS;omega);exact c h),if_neg c]
     exact ⟨h1,by unfold leS at h2;omega,rfl⟩
 have h:=key l.length (Zm _)
 rw [List.take_length] at h
 exact h
def lsCE (v:V) (n:Nat) (H:Heap) (a:Int) (i:Nat):St:=⟨[(0,v),(1,.p (.fn 194)),(5,vI a),(8,v),(9,vI n),(10,vI i)],[],H,H.length,[]⟩
def lsCX (v:V) (n:Nat) (H:Heap) (a:Int):Ex×St:=(.exit 0,⟨[(0,v),(1,.p (.fn 194)),(5,vI a),(8,v),(9,vI n),(10,vI n),(11,vB false)],[],H,H.length,[]⟩)
theorem ls_lp (l:List (Int×Int)) (hl:l.length<=1000000) (id:Nat) (H:Heap) (hr:Go.Eng.rowAt H id=some (2,upV (l.map encCo))):
  evD EE q08d (lsCE (.row id l.length 0 l.length) l.length H (-1) 0)=some (lsCX (.row id l.length 0 l.length) l.length H (q17c l)):=by
 unfold q08d
 refine q00u l (fun a i=>lsCE (.row id l.length 0 l.length) l.length H a i) (fun a i=> -1<=a/\a<i) (leS l) (fun a=>lsCX (.row id l.length 0 l.length) l.length H a) (fun _ _=>rfl) ?_ ?_ (-1) 0 ⟨by omega,by omega⟩ (Zj _)
 ·rintro a i x ⟨h0,h1⟩ hx
  have hlt:=(Za.1 hx).1
  have w:IntKind.i64.wrap ((i:Int)+1)=((i+1:Nat):Int):=w64 (by omega) (by omega)
  have hix: ∀(n:Nat),n<l.length->ixsI H (.row id l.length 0 l.length) (vI n) 2=some (.rptr id l.length n 0):=fun n hn=>by
   rw [q01f,hr,q0Qw];simp [upV,hn]
  have hgx: ∀(n:Nat) (y:Int×Int),l[n]? =some y-> ∀h:n<(upV (l.map encCo)).length,(upV (l.map encCo))[n]'h=[vI y.1,vI y.2]:=fun n y hy h=>by
   have:(upV (l.map encCo))[n]? =some [vI y.1,vI y.2]:=by simp [upV,encCo,hy]
   exact (Za.1 this).2
  have g1:=hix i hlt
  have g2:=hgx i x hx
  have hul:(upV (l.map encCo)).length=l.length:=by simp [upV]
  refine ⟨?_,by unfold leS;split<;>omega⟩
  unfold leS
  by_cases c:a<0
  ·rw [if_pos (.inl c)]
   simp [lsCE,hlt,g1,g2,hr,hul,subs,q001,w,c]
  ·have ea:((a.toNat:Nat):Int)=a:=by omega
   have hy:=q026 l a (by omega) (by omega)
   have g3:=hix a.toNat (by omega)
   have g4:=hgx a.toNat _ hy
   rw [ea] at g3
   have oc:=fun H=>q0Uu x (rd l a) H
   have ha:a.toNat<l.length:=by omega
   by_cases d:cmpCo x (rd l a)<0
   ·rw [if_pos (.inr d)]
    simp [lsCE,hlt,ha,g1,g2,g3,g4,hr,hul,subs,q001,w,c,oc,d]
   ·rw [if_neg (by rintro (h|h);exact c h;exact d h)]
    simp [lsCE,hlt,ha,g1,g2,g3,g4,hr,hul,subs,q001,w,c,oc,d]
 ·rintro a-
  refine ⟨?_,by simp [lsCX]⟩
  simp [lsCE,lsCX]
theorem q1b9 (l:List (Int×Int)) (hl:l.length<=1000000) (id:Nat) (H:Heap) (hr:Go.Eng.rowAt H id=some (2,upV (l.map encCo))):
  clD EE (.p (.fn 87)) [.row id l.length 0 l.length] H=some (vI (q17c l),none):=by
 rw [q002 _ _ _ _ _ _ (noP _) fn87]
 have k:clD EE (.p (.fn 193)) [.row id l.length 0 l.length,.p (.fn 194)] H=some (vI (q17c l),none):=by
  rw [q002 _ _ _ _ _ _ (noP _) fn193]
  have k:=ls_lp l hl id H hr
  simp [lsCE,lsCX] at k
  simp [zEa,k]
 simp [zEa,k]
def encM (T:List (Int×(Int×Int))):List (V×V):=T.map fun e=>(vI e.1,vCost e.2.1 e.2.2)
def lookT:List (Int×(Int×Int))->Int->Option (Int×Int)
 |[],_=>none
 |e::r,k=>if k=e.1 then some e.2 else lookT r k
theorem q17o (k:Int): ∀(T:List (Int×(Int×Int))) (i:Nat),∃n,findM none (vI k) (encM T) i=some ((lookT T k).map fun c=>(n,vCost c.1 c.2))
 |[],i=>⟨0,rfl⟩
 |e::r,i=>by
  obtain ⟨n,h⟩:=q17o k r (i+1)
  unfold encM at h⊢
  simp only [Zo,findM,lookT]
  by_cases c:k=e.1
  ·refine ⟨i,?_⟩
   simp [eqKey,c]
  ·refine ⟨n,?_⟩
   simp [eqKey,c,h]
theorem lk_ev (H:Heap) (p:Nat) (T:List (Int×(Int×Int))) (k:Int) (h:mapAt H p=some (encM T)):lkmV H (.map p) (vI k) none (vCost 0 0) false=some (vCost ((lookT T k).getD (0,0)).1 ((lookT T k).getD (0,0)).2):=by
 obtain ⟨n,hn⟩:=q17o k T 0
 simp only [lkmV,keyB,mapEs,h,if_true,Ze,hn]
 cases lookT T k<;>rfl
theorem q1bp (H:Heap) (p:Nat) (T:List (Int×(Int×Int))) (k:Int) (h:mapAt H p=some (encM T)):lkmV H (.map p) (vI k) none (vCost 0 0) true=some (.tup [vCost ((lookT T k).getD (0,0)).1 ((lookT T k).getD (0,0)).2,vB (lookT T k).isSome]):=by
 obtain ⟨n,hn⟩:=q17o k T 0
 simp only [lkmV,keyB,mapEs,h,if_true,Ze,hn]
 cases lookT T k<;>rfl
theorem q1ar (H:Heap) (p:Nat) (T:List (Int×(Int×Int))) (k:Int) (c:Int×Int) (h:mapAt H p=some (encM T)) (hk:lookT T k=none):stmH H (vI k) (vCost c.1 c.2) none 2 (.map p)=some (.tup [],some (H.set p (.map (encM (T++[(k,c)]))),[p])):=by
 obtain ⟨n,hn⟩:=q17o k T 0
 rw [hk] at hn
 simp only [stmH,stmE,h,hn,Option.map_none,q0Mv,q0Mw]
 simp [encM,keyB]
end Go.EnvOf
