/- The program's functions and the document's, evaluated. -/
import Derived.Test.YthghkndmgdiaoaaGreatText7
import Derived.Test.YthghkndmgdiaoaaGreatText3
import Derived.Test.YthghkndmgdiaoaaGreatText6
import Derived.Test.YthghkndmgdiaoaaGreatText5
set_option linter.unusedSimpArgs false
set_option linter.unusedVariables false
namespace Go.EnvOf
open Go Go.Eng
set_option maxRecDepth 100000
def lookC (T:List (Int×(Int×Int))) (k:Int):Int×Int:=(lookT T k).getD (0,0)
def addCo (a b:Int×Int):Int×Int:=(addM a.1 b.1,addM a.2 b.2)
def candT (j:Job) (T:List (Int×(Int×Int))) (at_:Int) (L:List Int):List (Int×Int):=L.filterMap fun to=>(textX j at_ to).map fun c=>addCo c (lookC T (trimF j.items to))
def fromT (j:Job):Nat->List (Int×(Int×Int))
 |0=>[((j.items.length:Int),((0,0):Int×Int))]
 |i+1=>if trimX j.items ((j.items.length:Int)-1-i)=true then (match q177 (candT j (fromT j i) ((j.items.length:Int)-1-i) (brkF j.items ((j.items.length:Int)-1-i))) with|none=>fromT j i|some c=>fromT j i++[((j.items.length:Int)-1-i,c)]) else fromT j i
theorem q184 {K:Heap} (T:Heap) {p:Nat} {es:List (V×V)} (h:mapAt K p=some es):mapAt (K++T) p=some es:=by
 unfold mapAt at h⊢
 have:p<K.length:=by
  rcases Z2 p K.length with g|g
  ·exact g
  ·rw [ZF g] at h;cases h
 rw [Zw this];exact h
theorem q1ba {K:Heap} {p:Nat} {es:List (V×V)} (h:mapAt K p=some es):p<K.length:=by
 unfold mapAt at h
 rcases Z2 p K.length with g|g
 ·exact g
 ·rw [ZF g] at h;cases h
theorem q19s (K:Heap) (id p:Nat) (o:DObj) (h:id≠p):mapAt (K.set id o) p=mapAt K p:=by unfold mapAt;rw [Zr h]
theorem q1as (K:Heap) (p:Nat) (es:List (V×V)) (h:p<K.length):mapAt (K.set p (.map es)) p=some es:=by unfold mapAt;simp [h]
theorem q194 {K:Heap} {p:Nat} {x:Nat×List (List V)} (h:Go.Eng.rowAt K p=some x):p<K.length:=by
 unfold Go.Eng.rowAt at h
 rcases Z2 p K.length with g|g
 ·exact g
 ·rw [ZF g] at h;cases h
section
variable (j:Job) (n1:j.items.length<=1000000) (hf: ∀x∈j.items,fairI x) (p B:Nat)
def ciE (at_ i:Int) (L:List Int) (K:Heap) (id:Nat) (acc:List (Int×Int)) (k:Nat):St:=
 ⟨[(0,vW j),(3,.lptr 16 0),(4,vI j.items.length),(6,vI at_),(7,.row id acc.length 0 acc.length),(29,vI j.items.length),(30,vI i),(44,sli L),(45,vI L.length),(46,vI k)],[(16,[vW j,.map p])],K,B,[]⟩
def ciR (T:List (Int×(Int×Int))) (at_ i:Int) (L:List Int) (id:Nat) (fin:List (Int×Int)) (k:Nat) (S:St):Prop:=
 ∃K acc,S=ciE j p B at_ i L K id acc k/\mapAt K p=some (encM T)/\Go.Eng.rowAt K id=some (2,upV (acc.map encCo))/\acc.length<=k/\acc++candT j T at_ (L.drop k)=fin
def ciF (T:List (Int×(Int×Int))) (at_ i:Int) (L:List Int) (id:Nat) (fin:List (Int×Int)) (r:Ex×St):Prop:=
 ∃K,r=(.exit 2,⟨[(0,vW j),(3,.lptr 16 0),(4,vI j.items.length),(6,vI at_),(7,.row id fin.length 0 fin.length),(29,vI j.items.length),(30,vI i),(44,sli L),(45,vI L.length),(46,vI L.length),(47,vB false)],[(16,[vW j,.map p])],K,B,[]⟩)/\mapAt K p=some (encM T)/\Go.Eng.rowAt K id=some (2,upV (fin.map encCo))
include n1 hf in
theorem ci_lp (T:List (Int×(Int×Int))) (at_ i:Int) (L:List Int) (hL:L.length<=1000000) (id:Nat) (hB:B<=id) (hip:id≠p) (fin:List (Int×Int)) (S:St) (hS:ciR j p B T at_ i L id fin 0 S):
  ∃r,evD EE q0Xy S=some r/\ciF j p B T at_ i L id fin r:=by
 unfold q0Xy
 refine q0j2 L (ciR j p B T at_ i L id fin) (ciF j p B T at_ i L id fin) (by rintro k S ⟨K,acc,rfl,-⟩;rfl) ?_ ?_ _ 0 S rfl hS (Zj _)
 ·rintro k x S ⟨K,acc,rfl,hm,hr,hn,he⟩ hx
  have hlt:=(Za.1 hx).1
  have w:IntKind.i64.wrap ((k:Int)+1)=((k+1:Nat):Int):=w64 (by omega) (by omega)
  have hix:=fun H k=>q00c H encI (k:=k) (s:=1) hx rfl
  simp only [encI] at hix
  have hd:L.drop k=x::L.drop (k+1):=by rw [ZA hlt];congr 1;exact (Za.1 hx).2
  have tx:=fun H=>q1b7 j n1 hf at_ x H
  rw [hd] at he
  unfold candT at he
  rw [List.filterMap_cons] at he
  cases ht:textX j at_ x with
  |none=>
   rw [ht] at he tx
   refine ⟨ciE j p B at_ i L K id acc (k+1),?_,K,acc,rfl,hm,hr,by omega,he⟩
   simp [ciE,hlt,hix,encI,subs,q001,w,tx]
  |some c=>
   rw [ht] at he tx
   have wl:=fun H=>q07e j H
   have tr:=fun H=>q0Ci j.items x n1 H
   have lk:=lk_ev K p T (trimF j.items x) hm
   have ad:=fun H=>q0Uk c.1 c.2 (lookC T (trimF j.items x)).1 (lookC T (trimF j.items x)).2 H
   change lkmV K _ _ _ _ _=some (vCost (lookC T (trimF j.items x)).1 (lookC T (trimF j.items x)).2) at lk
   have hid:=q194 hr
   have hmo:acc.length+1<most:=by unfold most;omega
   have aD:addD B id []=[]:=by unfold addD;rw [if_neg (by omega)]
   refine ⟨ciE j p B at_ i L (K.set id (.row 2 (upV ((acc++[addCo c (lookC T (trimF j.items x))]).map encCo)))) id (acc++[addCo c (lookC T (trimF j.items x))]) (k+1),?_,_,_,rfl,?_,?_,by simp;omega,?_⟩
   ·unfold addCo
    generalize lookC T (trimF j.items x)=q at*
    generalize addM c.1 q.1=q1 at*
    generalize addM c.2 q.2=q2 at*
    simp [-q0Rz,ciE,hlt,hix,encI,subs,q001,w,tx,wl,tr,lk,ad,hr,hmo,aD,hid,hB,encCo]
   ·rw [q19s _ _ _ _ hip];exact hm
   ·exact q0hx _ _ _ _ hid
   ·rw [<-he];simp [candT]
 ·rintro S ⟨K,acc,rfl,hm,hr,hn,he⟩
  rw [List.drop_length] at he
  have e:acc=fin:=by rw [<-he];simp [candT]
  subst e
  refine ⟨_,?_,?_,K,rfl,hm,hr⟩
  ·simp [ciE]
  ·simp
def rnE (K:Heap) (i:Nat):St:=⟨[(0,vW j),(3,.lptr 16 0),(4,vI j.items.length),(29,vI j.items.length),(30,vI i)],[(16,[vW j,.map p])],K,B,[]⟩
def rnR (i:Nat) (S:St):Prop:= ∃K,S=rnE j p B K i/\mapAt K p=some (encM (fromT j i))/\B<=K.length
def rnF (r:Ex×St):Prop:= ∃K,r=(.exit 0,⟨[(0,vW j),(3,.lptr 16 0),(4,vI j.items.length),(29,vI j.items.length),(30,vI j.items.length),(31,vB false)],[(16,[vW j,.map p])],K,B,[]⟩)/\mapAt K p=some (encM (fromT j j.items.length))
theorem q17d (k:Int): ∀T:List (Int×(Int×Int)),(∀e∈T,e.1≠k)->lookT T k=none
 |[],_=>rfl
 |e::r,h=>by
  rw [lookT,if_neg (fun q=>h e ZE q.symm)]
  exact q17d k r fun e he=>h e (Zv _ he)
theorem q17e: ∀(i:Nat),∀e∈fromT j i,(j.items.length:Int)-i<=e.1/\e.1<=j.items.length
 |0,e,h=>by simp [fromT] at h;subst h;simp
 |i+1,e,h=>by
  have ih:=q17e i
  rw [fromT] at h
  split at h
  ·split at h
   ·have:=ih e h;constructor<;>push_cast<;>omega
   ·rename_i c hc
    rcases ZY.1 h with h|h
    ·have:=ih e h;constructor<;>push_cast<;>omega
    ·simp at h;subst h;constructor<;>simp only<;>push_cast<;>omega
  ·have:=ih e h;constructor<;>push_cast<;>omega
include n1 hf in
theorem rn_lp (hpB:B<=p) (S:St) (hS:rnR j p B 0 S): ∃r,evD EE q198 S=some r/\rnF j p B r:=by
 unfold q198
 refine q0j2 (List.range j.items.length) (rnR j p B) (rnF j p B) (by rintro k S ⟨K,rfl,-⟩;rfl) ?_ ?_ _ 0 S rfl hS (Zj _)
 ·rintro i x S ⟨K,rfl,hm,hBK⟩ hx
  have hlt:i<j.items.length:=by have:=(Za.1 hx).1;simpa using this
  have w:IntKind.i64.wrap ((i:Int)+1)=((i+1:Nat):Int):=w64 (by omega) (by omega)
  have w1:IntKind.i64.wrap ((j.items.length:Int)-1)=(j.items.length:Int)-1:=w64 (by omega) (by omega)
  have w2:IntKind.i64.wrap ((j.items.length:Int)-1-i)=(j.items.length:Int)-1-i:=w64 (by omega) (by omega)
  have tr:=fun H=>q1b8 j n1 ((j.items.length:Int)-1-i) H
  have br:=fun H=>q0vh j.items n1 ((j.items.length:Int)-1-i) H
  have wl:=fun H=>q07e j H
  have hbl:=q18m j.items ((j.items.length:Int)-1-i)
  have hT:fromT j (i+1)=if trimX j.items ((j.items.length:Int)-1-i)=true then (match q177 (candT j (fromT j i) ((j.items.length:Int)-1-i) (brkF j.items ((j.items.length:Int)-1-i))) with|none=>fromT j i|some c=>fromT j i++[((j.items.length:Int)-1-i,c)]) else fromT j i:=rfl
  have hmiss:lookT (fromT j i) ((j.items.length:Int)-1-i)=none:=q17d _ _ fun e he=>by have:=q17e j i e he;omega
  generalize hat:(j.items.length:Int)-1-i=at_ at*
  cases q:trimX j.items at_ with
  |false=>
   rw [q] at tr hT
   simp only [Zh,if_false] at hT
   refine ⟨rnE j p B K (i+1),?_,K,rfl,by rw [hT];exact hm,hBK⟩
   simp [rnE,hlt,w,w1,w2,hat,tr]
  |true=>
   rw [q] at tr hT
   simp only [if_true] at hT
   have hr0:Go.Eng.rowAt (K++[.row 2 []]) K.length=some (2,upV ((([]:List (Int×Int))).map encCo)):=by simp [Go.Eng.rowAt]
   have hp:=q1ba hm
   obtain ⟨r1,k1,K2,rfl,hm2,hr2⟩:=ci_lp j n1 hf p B (fromT j i) at_ i (brkF j.items at_) (by omega) K.length hBK (by omega) (candT j (fromT j i) at_ (brkF j.items at_)) _ ⟨K++[.row 2 []],[],rfl,q184 _ hm,hr0,by simp,by simp⟩
   have hcl:(candT j (fromT j i) at_ (brkF j.items at_)).length<=1000000:=by
    have:(candT j (fromT j i) at_ (brkF j.items at_)).length<=(brkF j.items at_).length:=by unfold candT;exact List.length_filterMap_le _ _
    omega
   have le:=q1b9 (candT j (fromT j i) at_ (brkF j.items at_)) hcl K.length K2 hr2
   have rel:=q183 (candT j (fromT j i) at_ (brkF j.items at_))
   generalize candT j (fromT j i) at_ (brkF j.items at_)=C at*
   generalize q17c C=I at*
   simp only [ciE] at k1
   simp at k1
   have hK2:K.length<K2.length:=q194 hr2
   rcases rel with ⟨rfl,h2⟩|⟨h1,h2,h3⟩
   ·rw [h2] at hT
    simp only at hT
    refine ⟨rnE j p B K2 (i+1),?_,K2,rfl,by rw [hT];exact hm2,by omega⟩
    simp [rnE,hlt,w,w1,w2,hat,tr,wl,br,k1,le]
   ·rw [h3] at hT
    simp only at hT
    have ea:((I.toNat:Nat):Int)=I:=by omega
    have hy:=q026 C I (by omega) (by omega)
    generalize rd C I=y at*
    have hul:(upV (C.map encCo)).length=C.length:=by simp [upV]
    have hix:ixsI K2 (.row K.length C.length 0 C.length) (vI I) 2=some (.rptr K.length C.length I.toNat 0):=by
     have e0:(vI I)= .p (.int .i64 ((I.toNat:Nat):Int)):=by rw [ea]
     rw [e0,q01f,hr2,q0Qw,if_pos ⟨hul,rfl,by omega⟩,Zs]
    have hgx: ∀h:I.toNat<(upV (C.map encCo)).length,(upV (C.map encCo))[I.toNat]'h=[vI y.1,vI y.2]:=fun h=>by
     have:(upV (C.map encCo))[I.toNat]? =some [vI y.1,vI y.2]:=by simp [upV,encCo,hy]
     exact (Za.1 this).2
    have hIl:I.toNat<C.length:=by omega
    have st:=q1ar K2 p (fromT j i) at_ y hm2 hmiss
    have aD:addD B p []=[]:=by unfold addD;rw [if_neg (by omega)]
    refine ⟨rnE j p B (K2.set p (.map (encM (fromT j i++[(at_,y)])))) (i+1),?_,_,rfl,?_,by simp;omega⟩
    ·generalize encM (fromT j i++[(at_,y)])=M at*
     simp [-q0Q3,rnE,hlt,w,w1,w2,hat,tr,wl,br,k1,le,h1,hix,hr2,hul,hIl,hgx,subs,q001,st,aD,hpB]
    ·rw [hT];exact q1as _ _ _ (by omega)
 ·rintro S ⟨K,rfl,hm,hBK⟩
  rw [List.length_range] at hm
  refine ⟨_,?_,?_,K,rfl,hm⟩
  ·rw [List.length_range];simp [rnE]
  ·simp
include n1 hf in
theorem q1bq (H:Heap): ∃K q p,clD EE (.p (.fn 25)) [vW j] H=some (.ptr q 0,some (K,[]))/\Eng.boxAt K q=some [vW j,.map p]/\mapAt K p=some (encM (fromT j j.items.length)):=by
 have wl:=fun H=>q07e j H
 have l2:=fun H=>q021 j.items H
 have nq:eqnV NK.ptr false (vW j)=some (vB false):=rfl
 have st:=q1ar (H++[.map []]) H.length [] j.items.length (0,0) (by unfold mapAt;simp;rfl) rfl
 have e0:[]++[((j.items.length:Int),((0,0):Int×Int))]=fromT j 0:=rfl
 rw [e0] at st
 have aD:addD H.length H.length []=[]:=by unfold addD;rw [if_neg (by omega)]
 obtain ⟨r,k,K,rfl,hm⟩:=rn_lp j n1 hf H.length H.length (Zm _) (rnE j H.length H.length (H++[.map (encM (fromT j 0))]) 0) ⟨_,rfl,by unfold mapAt;simp,by simp⟩
 refine ⟨K++[.box [vW j,.map H.length]],K.length,H.length,?_,by simp,q184 _ hm⟩
 rw [q002 _ _ _ _ _ _ (noP _) fn25]
 generalize encM (fromT j 0)=M at*
 simp [rnE] at k
 simp [-q0Q3] at st
 simp [-q0Q3,zEc,nq,wl,l2,st,aD,k]
theorem q1bb (K:Heap) (q p:Nat) (T:List (Int×(Int×Int))) (a:V) (at_:Int) (h1:Eng.boxAt K q=some [a,.map p]) (h2:mapAt K p=some (encM T)):
  clD EE (.p (.fn 80)) [.ptr q 0,vI at_] K=some (vCO (lookT T at_),none):=by
 rw [q002 _ _ _ _ _ _ (noP _) fn80]
 have lk:=q1bp K p T at_ h2
 generalize lookT T at_=c at*
 cases c<;>simp [-q0Rz,zEc,h1,lk]
end
theorem q0U6 (a b:Int×Int) (H:Heap):clD EE (.p (.fn 30)) [vCost a.1 a.2,vCost b.1 b.2] H=some (vI (cmpCo a b),none):=by
 rw [q002 _ _ _ _ _ _ (noP _) fn30]
 obtain ⟨a1,a2⟩:=a
 obtain ⟨b1,b2⟩:=b
 unfold cmpCo
 simp only [lexC,cmp1]
 by_cases h1:a1<b1
 ·simp [zEc,h1]
 ·by_cases h2:b1<a1
  ·have h3: ¬a1=b1:=by omega
   simp [zEc,h1,h2,h3]
  ·have h3:a1=b1:=by omega
   subst h3
   by_cases h4:a2<b2
   ·simp [zEc,h4]
   ·by_cases h5:b2<a2
    ·have h6: ¬a2=b2:=by omega
     simp [zEc,h4,h5,h6]
    ·have h6:a2=b2:=by omega
     subst h6
     simp [zEc]
theorem q185 (k:Int): ∀(A B:List (Int×(Int×Int))),lookT (A++B) k=match lookT A k with|some c=>some c|none=>lookT B k
 |[],B=>rfl
 |e::r,B=>by
  simp only [Zd,lookT]
  by_cases c:k=e.1
  ·simp [c]
  ·simp only [if_neg c];exact q185 k r B
theorem q1ab (j:Job) (i:Nat) (k:Int) (hk:(j.items.length:Int)-i<=k):lookT (fromT j (i+1)) k=lookT (fromT j i) k:=by
 have hm: ∀c:Int×Int,lookT [((j.items.length:Int)-1-i,c)] k=none:=fun c=>by simp [lookT];omega
 rw [fromT]
 split
 ·split
  ·rfl
  ·rename_i c hc
   rw [q185,hm]
   cases lookT (fromT j i) k<;>rfl
 ·rfl
theorem q18p (j:Job) (i:Nat) (k:Int) (hk:(j.items.length:Int)-i<=k): ∀m,lookT (fromT j (i+m)) k=lookT (fromT j i) k
 |0=>rfl
 |m+1=>by
  rw [<-Z3,q1ab j (i+m) k (by push_cast;omega)]
  exact q18p j i k hk m
def fromX (j:Job) (k:Int):Option (Int×Int):=lookT (fromT j j.items.length) k
theorem q17y (j:Job) (i:Nat) (hi:i<=j.items.length) (k:Int) (hk:(j.items.length:Int)-i<=k):lookT (fromT j i) k=fromX j k:=by
 have:=q18p j i k hk (j.items.length-i)
 rw [show i+(j.items.length-i)=j.items.length by omega] at this
 exact this.symm
theorem q1at (j:Job):fromX j j.items.length=some (0,0):=by
 rw [<-q17y j 0 (by omega) _ (by simp)]
 simp [fromT,lookT]
theorem q1au (j:Job) (k:Int) (h:k<0\/(j.items.length:Int)<k):fromX j k=none:=
 q17d _ _ fun e he=>by have:=q17e j j.items.length e he;omega
theorem q1bc (l:List Item) (n:Int):(putN l n:Int)<=trimF l n/\trimF l n<=l.length:=by
 have h1:=q08v l n
 have h2:=(List.takeWhile_sublist q04c (l:=l.drop (putN l n))).length_le
 rw [List.length_drop] at h2
 unfold trimF trimN
 constructor<;>omega
theorem q17w {α β:Type} (f g:α->Option β): ∀l:List α,(∀x∈l,f x=g x)->l.filterMap f=l.filterMap g
 |[],_=>rfl
 |x::r,h=>by
  rw [List.filterMap_cons,List.filterMap_cons,h x ZE,q17w f g r fun y hy=>h y (Zv _ hy)]
def addO (j:Job) (at_ to:Int):Option (Int×Int):=(textX j at_ to).map fun c=>addCo c ((fromX j (trimF j.items to)).getD (0,0))
theorem q19t (j:Job) (k:Int) (h0:0<=k) (h1:k<j.items.length):fromX j k=if trimX j.items k=true then q177 ((brkF j.items k).filterMap (addO j k)) else none:=by
 obtain ⟨i,hi⟩: ∃i:Nat,k=(j.items.length:Int)-1-i:=⟨(j.items.length-1-k.toNat),by omega⟩
 subst hi
 have hil:i<j.items.length:=by omega
 rw [<-q17y j (i+1) (by omega) _ (by push_cast;omega)]
 have hmiss:lookT (fromT j i) ((j.items.length:Int)-1-i)=none:=q17d _ _ fun e he=>by have:=q17e j i e he;omega
 have hc:candT j (fromT j i) ((j.items.length:Int)-1-i) (brkF j.items ((j.items.length:Int)-1-i))=(brkF j.items ((j.items.length:Int)-1-i)).filterMap (addO j ((j.items.length:Int)-1-i)):=by
  unfold candT
  refine q17w _ _ _ fun x hx=> ?_
  unfold addO lookC
  have hx': ∃m:Nat,x=m/\(j.items.length:Int)-1-i<m/\(m:Int)<=j.items.length:=by
   unfold brkF brkN at hx
   obtain ⟨m,hm,rfl⟩:=ZJ.1 hx
   have:=List.mem_range'_1.1 (List.mem_filter.1 hm).1
   unfold pos at this
   exact ⟨m,rfl,by omega,by omega⟩
  obtain ⟨m,rfl,hm1,hm2⟩:=hx'
  have tg:=q1bc j.items m
  have pn:putN j.items m=m:=by unfold putN;omega
  rw [q17y j i (by omega) _ (by omega)]
 rw [fromT,hc]
 by_cases q:trimX j.items ((j.items.length:Int)-1-i)=true
 ·rw [if_pos q,if_pos q]
  cases q177 ((brkF j.items ((j.items.length:Int)-1-i)).filterMap (addO j ((j.items.length:Int)-1-i))) with
  |none=>exact hmiss
  |some c=>simp only;rw [q185,hmiss];simp [lookT]
 ·rw [if_neg q,if_neg q];exact hmiss
structure Lin where
 ov:Bool
 x1:Int
 x2:Int
 x3:Int
 x4:Int
 x5:Int
 x6:Int
 x7:Int
 x8:Int
 deriving Inhabited,DecidableEq
def q0To (x:Lin):List PV:=[.bool x.ov,.int .i64 x.x1,.int .i64 x.x2,.int .i64 x.x3,.int .i64 x.x4,.int .i64 x.x5,.int .i64 x.x6,.int .i64 x.x7,.int .i64 x.x8]
@[simp] theorem q0Vm (x:Lin):(q0To x).length=9:=rfl
theorem q136 (n:Int):IntKind.i64.wrap n<=9223372036854775807:=by
 have e:IntKind.i64.wrap n=if n%18446744073709551616≥9223372036854775808 then n%18446744073709551616-18446744073709551616 else n%18446744073709551616:=by
  simp [IntKind.wrap,IntKind.bits,IntKind.signed]
 rw [e];split<;>omega
theorem shr18 (a:Int):binV .shr (.p (.int .i64 a)) (.p (.int .u64 18))=some (.p (.int .i64 (a/262144))):=by
 have e:(2:Int)^(min (18:Int).toNat (IntKind.bits .i64))=262144:=by decide
 simp only [binV,intOp]
 rw [if_pos (by simp),if_neg (by decide),e,Int.fdiv_eq_ediv_of_nonneg _ (by decide)]
 rfl
def W64 (n:Int):Int:=IntKind.i64.wrap n
def quarQ (need has:Int):Int:=
 min (if need<1 then 0 else if has<1 then 1291 else if need<=7230584 then W64 ((W64 (need*297)).tdiv has) else if 1663497<=has then W64 (need.tdiv (W64 (has.tdiv 297))) else need) 1291
def cubeQ (r:Int):Int:=if 1290<r then 10000 else if r<1 then 0 else (r*r*r+131072)/262144
def badQ (need has:Int):Int:=cubeQ (quarQ need has)
theorem q13g (a b:Int) (H:Heap):clD EE (.p (.fn 410)) [vI a,vI b] H=some (vB (decide (a<1)),none):=by
 rw [q002 _ _ _ _ _ _ (noP _) fn410];simp [zEa]
theorem q13h (a b:Int) (H:Heap):clD EE (.p (.fn 411)) [vI a,vI b] H=some (vI 0,none):=by
 rw [q002 _ _ _ _ _ _ (noP _) fn411];simp [zEa]
theorem q13i (a b:Int) (H:Heap):clD EE (.p (.fn 412)) [vI a,vI b] H=some (vB (decide (b<1)),none):=by
 rw [q002 _ _ _ _ _ _ (noP _) fn412];simp [zEa]
theorem q13j (a b:Int) (H:Heap):clD EE (.p (.fn 413)) [vI a,vI b] H=some (vI 1291,none):=by
 rw [q002 _ _ _ _ _ _ (noP _) fn413];simp [zEa]
theorem q13k (a b:Int) (H:Heap):clD EE (.p (.fn 414)) [vI a,vI b] H=some (vB (decide (a<=7230584)),none):=by
 rw [q002 _ _ _ _ _ _ (noP _) fn414];simp [zEa]
theorem q13l (a b:Int) (hb:1<=b) (H:Heap):clD EE (.p (.fn 415)) [vI a,vI b] H=some (vI (W64 ((W64 (a*297)).tdiv b)),none):=by
 rw [q002 _ _ _ _ _ _ (noP _) fn415]
 have h: ¬b=0:=by omega
 unfold W64
 simp [zEa,h]
theorem q13m (a b:Int) (H:Heap):clD EE (.p (.fn 416)) [vI a,vI b] H=some (vB (decide (1663497<=b)),none):=by
 rw [q002 _ _ _ _ _ _ (noP _) fn416];simp [zEa]
theorem q13n (a b:Int) (hb:1663497<=b) (hB:b<=9223372036854775807) (H:Heap):clD EE (.p (.fn 417)) [vI a,vI b] H=some (vI (W64 (a.tdiv (W64 (b.tdiv 297)))),none):=by
 rw [q002 _ _ _ _ _ _ (noP _) fn417]
 have e:b.tdiv 297=b/297:=Int.tdiv_eq_ediv_of_nonneg (by omega)
 have w:IntKind.i64.wrap (b.tdiv 297)=b.tdiv 297:=by rw [e];exact w64 (by omega) (by omega)
 have h: ¬b.tdiv 297=0:=by rw [e];omega
 unfold W64
 simp [zEa,w,h]
theorem q12x (H:Heap):clD EE (.p (.fn 377)) [] H=some (.p (.sl [[.fn 410,.fn 411],[.fn 412,.fn 413],[.fn 414,.fn 415],[.fn 416,.fn 417]]),none):=by
 rw [q002 _ _ _ _ _ _ (noP _) fn377]
 simp [zEc]
theorem q137 (need has:Int) (hh:has<=9223372036854775807) (H:Heap):clD EE (.p (.fn 310)) [vI need,vI has] H=some (vI (quarQ need has),none):=by
 rw [q002 _ _ _ _ _ _ (noP _) fn310]
 have r:=fun H=>q12x H
 have r1:=fun H=>q13g need has H
 have r2:=fun H=>q13h need has H
 have r3:=fun H=>q13i need has H
 have r4:=fun H=>q13j need has H
 have r5:=fun H=>q13k need has H
 have r7:=fun H=>q13m need has H
 have w1:IntKind.i64.wrap 1=1:=by decide
 have w2:IntKind.i64.wrap 2=2:=by decide
 have w3:IntKind.i64.wrap 3=3:=by decide
 have w4:IntKind.i64.wrap 4=4:=by decide
 unfold quarQ
 by_cases c1:need<1
 ·simp [zEc,q17i,q003,ixsI,ixsV,w1,w2,w3,w4,r,r1,r2,c1]
 ·by_cases c2:has<1
  ·simp [zEc,q17i,q003,ixsI,ixsV,w1,w2,w3,w4,r,r1,r3,r4,c1,c2]
  ·by_cases c3:need<=7230584
   ·have r6:=fun H=>q13l need has (by omega) H
    simp [zEc,q17i,q003,ixsI,ixsV,w1,w2,w3,w4,r,r1,r3,r5,r6,c1,c2,c3]
   ·by_cases c4:1663497<=has
    ·have r8:=fun H=>q13n need has c4 hh H
     simp [zEc,q17i,q003,ixsI,ixsV,w1,w2,w3,w4,r,r1,r3,r5,r7,r8,c1,c2,c3,c4]
    ·simp [zEc,q17i,q003,ixsI,ixsV,w1,w2,w3,w4,r,r1,r3,r5,r7,c1,c2,c3,c4]
theorem q138 (r:Int) (H:Heap):clD EE (.p (.fn 309)) [vI r] H=some (vI (cubeQ r),none):=by
 rw [q002 _ _ _ _ _ _ (noP _) fn309]
 unfold cubeQ
 by_cases c1:1290<r
 ·simp [zEa,c1]
 ·by_cases c2:r<1
  ·simp [zEa,c1,c2]
  ·have b2:r*r<=1290*1290:=Int.mul_le_mul (by omega) (by omega) (by omega) (by omega)
   have b2':0<=r*r:=Int.mul_nonneg (by omega) (by omega)
   have b3:r*r*r<=1290*1290*1290:=Int.mul_le_mul b2 (by omega) (by omega) (by omega)
   have b3':0<=r*r*r:=Int.mul_nonneg b2' (by omega)
   have w2:IntKind.i64.wrap (r*r)=r*r:=w64 (by omega) (by omega)
   have w3:IntKind.i64.wrap (r*r*r)=r*r*r:=w64 (by omega) (by omega)
   have w4:IntKind.i64.wrap (r*r*r+131072)=r*r*r+131072:=w64 (by omega) (by omega)
   have w5:IntKind.i64.wrap ((r*r*r+131072)/262144)=(r*r*r+131072)/262144:=w64 (by omega) (by omega)
   simp [zEa,c1,c2,w2,w3,w4,shr18]
theorem q122 (need has:Int) (hh:has<=9223372036854775807) (H:Heap):clD EE (.p (.fn 199)) [vI need,vI has] H=some (vI (badQ need has),none):=by
 rw [q002 _ _ _ _ _ _ (noP _) fn199]
 have q:=fun H=>q137 need has hh H
 have c:=fun H=>q138 (quarQ need has) H
 unfold badQ
 simp [zEa,q,c]
def badG (s:Setg) (spare:Int) (last:Bool):Int:=
 if s.how=0 then (if s.left=0\/last=true then 0 else badQ s.left (min (max spare 0) 1125899906842624))
 else if s.how=1 then (if 0<s.ord then 0 else badQ s.by_ (W64 (s.of_+min (max spare 0) 1125899906842624)))
 else if s.how=2 then badQ s.by_ s.of_ else 10000
theorem q12k (s:Setg) (spare:Int) (last:Bool) (h:s.of_<=9223372036854775807) (H:Heap):clD EE (.p (.fn 91)) [vSet s,vI spare,vB last] H=some (vI (badG s spare last),none):=by
 rw [q002 _ _ _ _ _ _ (noP _) fn91]
 have b1:=fun H=>q122 s.left (min (max spare 0) 1125899906842624) (by omega) H
 have b3:=fun H=>q122 s.by_ s.of_ h H
 have b2:=fun H=>q122 s.by_ (W64 (s.of_+min (max spare 0) 1125899906842624)) (q136 _) H
 unfold badG
 unfold W64 at b2⊢
 by_cases h0:s.how=0
 ·by_cases l0:s.left=0
  ·simp [zEc,h0,l0]
  ·cases last<;>simp [zEc,h0,l0,b1]
 ·by_cases h1:s.how=1
  ·by_cases o:0<s.ord
   ·simp [zEc,h1,o]
   ·simp [zEc,h1,o,b2]
  ·by_cases h2:s.how=2
   ·simp [zEc,h2,b3]
   ·simp [zEc,h0,h1,h2]
abbrev cFcts (f:Fcts):List V:=[vI f.notes,vI f.floats,vI f.room,vB f.last,vB f.over,vI f.set_.how,vI f.set_.ord,vI f.set_.by_,vI f.set_.of_,vI f.set_.left]
abbrev cColm (c:Colm):List V:=[vI c.k,vI c.frm,vI c.to,q00v c.notes,sli c.top,sli c.bot]
abbrev cStt (s:Stt):List V:=[vI s.at_,vI s.col,vI s.note,vI s.line,vI s.h.a,vI s.h.b,vI s.h.c]
section
variable (j:Job) (H:Heap)
theorem q12y (f:Fcts) (hf:f.set_.of_<=9223372036854775807) (p q:Nat) (h1:Eng.boxAt H p=some (cFcts f)) (h2:Eng.boxAt H q=some (cJobW j)):
  clD EE (.fn (.func 90) [] [.ptr p 0,.ptr q 0]) [] H=some (vI (badG f.set_ j.g.grid f.last),none):=by
 rw [q02m,q002 _ _ _ _ _ _ (noP _) fn90]
 have b:=fun H=>q12k f.set_ j.g.grid f.last hf H
 simp only [cJobW,cGeom,Zd,Zf] at h2
 simp [zEc,h1,h2,b]
theorem q12z (hl:j.items.length<=1000000) (c:Colm) (q w r:Nat) (h2:Eng.boxAt H q=some (cJobW j)) (h3:Eng.boxAt H w=some [vW j]) (h4:Eng.boxAt H r=some (cColm c)):
  clD EE (.fn (.func 92) [] [.ptr q 0,.ptr w 0,.ptr r 0]) [] H=some (vI (paraF j.g j.items c.to),none):=by
 rw [q02m,q002 _ _ _ _ _ _ (noP _) fn92]
 have b:=fun H=>q12v j.g j.items hl c.to H
 have l:=fun H=>q07e j H
 have e:subs [vW j] 0 1=some [vW j]:=rfl
 simp only [vGeom,cGeom] at b
 simp only [cJobW,cGeom,Zd,Zf] at h2
 simp [zEc,h2,h3,h4,b,l]
theorem q130 (q:Nat) (h2:Eng.boxAt H q=some (cJobW j)):clD EE (.fn (.func 94) [] [.ptr q 0]) [] H=some (vI j.g.spare,none):=by
 rw [q02m,q002 _ _ _ _ _ _ (noP _) fn94]
 simp only [cJobW,cGeom,Zd,Zf] at h2
 simp [zEc,h2]
theorem q131 (hn: ∀n∈j.notes,n.lines.length<=1000000) (c:Colm) (hc:0<c.notes.length) (hc2:c.notes.length<=1000000) (q r:Nat) (h2:Eng.boxAt H q=some (cJobW j)) (h4:Eng.boxAt H r=some (cColm c)):
  clD EE (.fn (.func 95) [] [.ptr q 0,.ptr r 0]) [] H=some (vI (W64 (j.g.split+tornF j.notes c.notes)),none):=by
 rw [q02m,q002 _ _ _ _ _ _ (noP _) fn95]
 have b:=fun H=>q12w j c.notes hc hc2 hn H
 simp only [vJob,cGeom,Zd,Zf] at b
 simp only [cJobW,cGeom,Zd,Zf] at h2
 unfold W64
 simp [zEc,h2,h4,b]
theorem q132 (o:okW j) (t:Stt) (q w r:Nat) (h2:Eng.boxAt H q=some (cJobW j)) (h3:Eng.boxAt H w=some [vW j]) (h4:Eng.boxAt H r=some (cStt t)):
  clD EE (.fn (.func 97) [] [.ptr q 0,.ptr w 0,.ptr r 0]) [] H=some (vI (W64 (j.g.defer*sumC (q120 j t))),none):=by
 rw [q02m,q002 _ _ _ _ _ _ (noP _) fn97]
 have b:=fun H=>q12j j o t H
 have s:=fun H=>q13d (q120 j t) H
 have e:subs [vW j] 0 1=some [vW j]:=rfl
 simp only [cJobW,cGeom,Zd,Zf] at h2
 unfold W64
 generalize sumC (q120 j t)=z at*
 simp [zEc,h2,h3,h4,b,s]
end
def q12c (j:Job) (s:Stt) (c:Colm):List Int:=
 (if c.k=1/\(q02r j s c).over=false then [badG (q02r j s c).set_ j.g.grid (q02r j s c).last] else [])++
 (if c.k=1 then [paraF j.g j.items c.to] else [])++
 (if c.k=1 then [] else [j.g.spare])++
 (if 0<c.notes.length/\0<(nextS j s c).line then [W64 (j.g.split+tornF j.notes c.notes)] else [])++
 [W64 (j.g.defer*sumC (q120 j (nextS j s c)))]
def costC (j:Job) (s:Stt) (c:Colm):Int×Int:=if q01g j s=true then q0Tp (q02r j s c).over (q12c j s c) else (0,0)
theorem q11z (x y:List PV) (r:List (List PV)):upV (x::y::r)=upV [x]++upV (y::r):=rfl
theorem q139 {t:Tot} (h:q03k t=true) (o:Int):strT t o<=1125899906842624:=by
 unfold q03k fairL at h
 simp at h
 unfold strT
 (repeat' split)<;>omega
theorem q13a (j:Job) (s:Stt) (c:Colm):(q02r j s c).set_.of_<=9223372036854775807:=by
 have z: ∀t h l,(q07f t h l).of_<=9223372036854775807:=by
  intro t h l
  unfold q07f
  by_cases r:q04u t h=true
  ·have bd:=q0j5 r
   have f:q03k t=true:=by unfold q04u at r;simp at r;exact r.1.1
   have sb:=q139 f (ordT t)
   rw [if_pos r]
   (repeat' split)<;>simp only [zeroG]<;>omega
  ·rw [if_neg r];simp [zeroG]
 unfold q02r
 split
 ·simp only
  split
  ·exact z _ _ _
  ·simp [zeroG]
 ·simp [zeroF,zeroG]
theorem q133 (j:Job) (w:okW j) (hf: ∀x∈j.items,fairI x) (s:Stt) (c:Colm) (c1:c.notes.length<=1000000) (c2:c.top.length<=9223372036854775807) (c3:c.bot.length<=9223372036854775807) (H:Heap):
  clD EE (.p (.fn 27)) [vW j,vStt s,vColm c] H=some (vCost (costC j s c).1 (costC j s c).2,none):=by
 rw [q002 _ _ _ _ _ _ (noP _) fn27]
 have r:=fun H=>q03r j w s H
 have pl:=fun H=>q07d j H
 have fa:=fun H=>q0Xp j w hf s c c1 c2 c3 H
 have nx:=fun H=>q100 j w s c c1 c2 c3 H
 unfold costC
 have e:subs [vW j] 0 1=some [vW j]:=rfl
 cases b:q01g j s with
 |false=>
  rw [b] at r
  simp [zEc,r]
 |true=>
  rw [b] at r
  have k1:=fun H p q=>q12y j H (q02r j s c) (q13a j s c) p q
  have k2:=fun H p q r=>q12z j H w.n1 c p q r
  have k3:=fun H p=>q130 j H p
  have k4:=fun h H p q=>q131 j H w.lines c h c1 p q
  have k5:=fun H p q r=>q132 j H w (nextS j s c) p q r
  have po:q12c j s c=(if c.k=1/\(q02r j s c).over=false then [badG (q02r j s c).set_ j.g.grid (q02r j s c).last] else [])++
   (if c.k=1 then [paraF j.g j.items c.to] else [])++(if c.k=1 then [] else [j.g.spare])++
   (if 0<c.notes.length/\0<(nextS j s c).line then [W64 (j.g.split+tornF j.notes c.notes)] else [])++[W64 (j.g.defer*sumC (q120 j (nextS j s c)))]:=rfl
  generalize badG (q02r j s c).set_ j.g.grid (q02r j s c).last=v1 at*
  generalize paraF j.g j.items c.to=v2 at*
  generalize W64 (j.g.split+tornF j.notes c.notes)=v4 at*
  generalize W64 (j.g.defer*sumC (q120 j (nextS j s c)))=v5 at*
  generalize q02r j s c=F at*
  generalize nextS j s c=N at*
  generalize q12c j s c=P at*
  have K1:=fun T=>k1 (H++(DObj.box [vW j]::DObj.box [vI c.k,vI c.frm,vI c.to,q00v c.notes,sli c.top,sli c.bot]::DObj.box [vI F.notes,vI F.floats,vI F.room,vB F.last,vB F.over,vI F.set_.how,vI F.set_.ord,vI F.set_.by_,vI F.set_.of_,vI F.set_.left]::DObj.box (cJobW j)::DObj.box [vI N.at_,vI N.col,vI N.note,vI N.line,vI N.h.a,vI N.h.b,vI N.h.c]::T)) (H.length+2) (H.length+3) (by simp) (by simp)
  have K2:=fun T=>k2 (H++(DObj.box [vW j]::DObj.box [vI c.k,vI c.frm,vI c.to,q00v c.notes,sli c.top,sli c.bot]::DObj.box [vI F.notes,vI F.floats,vI F.room,vB F.last,vB F.over,vI F.set_.how,vI F.set_.ord,vI F.set_.by_,vI F.set_.of_,vI F.set_.left]::DObj.box (cJobW j)::DObj.box [vI N.at_,vI N.col,vI N.note,vI N.line,vI N.h.a,vI N.h.b,vI N.h.c]::T)) (H.length+3) H.length (H.length+1) (by simp) (by simp) (by simp)
  have K3:=fun T=>k3 (H++(DObj.box [vW j]::DObj.box [vI c.k,vI c.frm,vI c.to,q00v c.notes,sli c.top,sli c.bot]::DObj.box [vI F.notes,vI F.floats,vI F.room,vB F.last,vB F.over,vI F.set_.how,vI F.set_.ord,vI F.set_.by_,vI F.set_.of_,vI F.set_.left]::DObj.box (cJobW j)::DObj.box [vI N.at_,vI N.col,vI N.note,vI N.line,vI N.h.a,vI N.h.b,vI N.h.c]::T)) (H.length+3) (by simp)
  have K4:=fun h T=>k4 h (H++(DObj.box [vW j]::DObj.box [vI c.k,vI c.frm,vI c.to,q00v c.notes,sli c.top,sli c.bot]::DObj.box [vI F.notes,vI F.floats,vI F.room,vB F.last,vB F.over,vI F.set_.how,vI F.set_.ord,vI F.set_.by_,vI F.set_.of_,vI F.set_.left]::DObj.box (cJobW j)::DObj.box [vI N.at_,vI N.col,vI N.note,vI N.line,vI N.h.a,vI N.h.b,vI N.h.c]::T)) (H.length+3) (H.length+1) (by simp) (by simp)
  have K5:=fun T=>k5 (H++(DObj.box [vW j]::DObj.box [vI c.k,vI c.frm,vI c.to,q00v c.notes,sli c.top,sli c.bot]::DObj.box [vI F.notes,vI F.floats,vI F.room,vB F.last,vB F.over,vI F.set_.how,vI F.set_.ord,vI F.set_.by_,vI F.set_.of_,vI F.set_.left]::DObj.box (cJobW j)::DObj.box [vI N.at_,vI N.col,vI N.note,vI N.line,vI N.h.a,vI N.h.b,vI N.h.c]::T)) (H.length+3) H.length (H.length+4) (by simp) (by simp) (by simp)
  have CS:=fun (P':List Int) (hl:P'.length<=1000000)=>q12r (H++(DObj.box [vW j]::DObj.box [vI c.k,vI c.frm,vI c.to,q00v c.notes,sli c.top,sli c.bot]::DObj.box [vI F.notes,vI F.floats,vI F.room,vB F.last,vB F.over,vI F.set_.how,vI F.set_.ord,vI F.set_.by_,vI F.set_.of_,vI F.set_.left]::DObj.box (cJobW j)::DObj.box [vI N.at_,vI N.col,vI N.note,vI N.line,vI N.h.a,vI N.h.b,vI N.h.c]::[DObj.row 1 (upV (P'.map encI))])) F.over P' hl (H.length+5) (by simp [Go.Eng.rowAt])
  clear k1 k2 k3 k4 k5
  simp only [vJob,cJobW,cGeom,Zd,Zf] at pl K1 K2 K3 K4 K5 CS
  have w1:IntKind.i64.wrap 1=1:=by decide
  have w2:IntKind.i64.wrap 2=2:=by decide
  have w3:IntKind.i64.wrap 3=3:=by decide
  have w4:IntKind.i64.wrap 4=4:=by decide
  have w5:IntKind.i64.wrap 5=5:=by decide
  have m1:1<most:=by decide
  have m2:2<most:=by decide
  have m3:3<most:=by decide
  have m4:4<most:=by decide
  have m5:5<most:=by decide
  by_cases q1:c.k=1
  ·have fa1:=fa
   have nx1:=nx
   simp only [vColm,q1] at fa1 nx1
   simp only [q1] at K1 K2 K3 K4 K5 CS
   cases ov:F.over with
   |true=>
    simp only [vFcts,ov] at fa1
    simp only [ov] at K1 K2 K3 K4 K5 CS
    by_cases n0:0<c.notes.length
    ·have K4':=K4 n0
     by_cases n1:0<N.line
     ·have cs:=CS [v2,v4,v5] (by simp)
      have eP:P=[v2,v4,v5]:=by rw [po];simp [q1,ov,n0,n1]
      subst eP
      generalize q0Tp true [v2,v4,v5]=Q at*
      simp only [Zg,Zq,Zo,ZL,Zs,Nat.reduceAdd,encI,q11z] at cs
      simp [zEc,r,pl,fa1,nx1,q1,ov,n0,n1,e,q0Z9,q003,ixsI,ixsV,w1,w2,w3,w4,w5,m1,m2,m3,m4,m5,K1,K2,K3,K4',K5,cs]
     ·have cs:=CS [v2,v5] (by simp)
      have eP:P=[v2,v5]:=by rw [po];simp [q1,ov,n0,n1]
      subst eP
      generalize q0Tp true [v2,v5]=Q at*
      simp only [Zg,Zq,Zo,ZL,Zs,Nat.reduceAdd,encI,q11z] at cs
      simp [zEc,r,pl,fa1,nx1,q1,ov,n0,n1,e,q0Z9,q003,ixsI,ixsV,w1,w2,w3,w4,w5,m1,m2,m3,m4,m5,K1,K2,K3,K4',K5,cs]
    ·have cs:=CS [v2,v5] (by simp)
     have eP:P=[v2,v5]:=by rw [po];simp [q1,ov,n0]
     subst eP
     generalize q0Tp true [v2,v5]=Q at*
     simp only [Zg,Zq,Zo,ZL,Zs,Nat.reduceAdd,encI,q11z] at cs
     simp [zEc,r,pl,fa1,nx1,q1,ov,n0,e,q0Z9,q003,ixsI,ixsV,w1,w2,w3,w4,w5,m1,m2,m3,m4,m5,K1,K2,K3,K5,cs]
   |false=>
    simp only [vFcts,ov] at fa1
    simp only [ov] at K1 K2 K3 K4 K5 CS
    by_cases n0:0<c.notes.length
    ·have K4':=K4 n0
     by_cases n1:0<N.line
     ·have cs:=CS [v1,v2,v4,v5] (by simp)
      have eP:P=[v1,v2,v4,v5]:=by rw [po];simp [q1,ov,n0,n1]
      subst eP
      generalize q0Tp false [v1,v2,v4,v5]=Q at*
      simp only [Zg,Zq,Zo,ZL,Zs,Nat.reduceAdd,encI,q11z] at cs
      simp [zEc,r,pl,fa1,nx1,q1,ov,n0,n1,e,q0Z9,q003,ixsI,ixsV,w1,w2,w3,w4,w5,m1,m2,m3,m4,m5,K1,K2,K3,K4',K5,cs]
     ·have cs:=CS [v1,v2,v5] (by simp)
      have eP:P=[v1,v2,v5]:=by rw [po];simp [q1,ov,n0,n1]
      subst eP
      generalize q0Tp false [v1,v2,v5]=Q at*
      simp only [Zg,Zq,Zo,ZL,Zs,Nat.reduceAdd,encI,q11z] at cs
      simp [zEc,r,pl,fa1,nx1,q1,ov,n0,n1,e,q0Z9,q003,ixsI,ixsV,w1,w2,w3,w4,w5,m1,m2,m3,m4,m5,K1,K2,K3,K4',K5,cs]
    ·have cs:=CS [v1,v2,v5] (by simp)
     have eP:P=[v1,v2,v5]:=by rw [po];simp [q1,ov,n0]
     subst eP
     generalize q0Tp false [v1,v2,v5]=Q at*
     simp only [Zg,Zq,Zo,ZL,Zs,Nat.reduceAdd,encI,q11z] at cs
     simp [zEc,r,pl,fa1,nx1,q1,ov,n0,e,q0Z9,q003,ixsI,ixsV,w1,w2,w3,w4,w5,m1,m2,m3,m4,m5,K1,K2,K3,K5,cs]
  ·by_cases n0:0<c.notes.length
   ·have K4':=K4 n0
    by_cases n1:0<N.line
    ·have cs:=CS [j.g.spare,v4,v5] (by simp)
     have eP:P=[j.g.spare,v4,v5]:=by rw [po];simp [q1,n0,n1]
     subst eP
     generalize q0Tp F.over [j.g.spare,v4,v5]=Q at*
     simp only [Zg,Zq,Zo,ZL,Zs,Nat.reduceAdd,encI,q11z] at cs
     simp [zEc,r,pl,fa,nx,q1,n0,n1,e,q0Z9,q003,ixsI,ixsV,w1,w2,w3,w4,w5,m1,m2,m3,m4,m5,K1,K2,K3,K4',K5,cs]
    ·have cs:=CS [j.g.spare,v5] (by simp)
     have eP:P=[j.g.spare,v5]:=by rw [po];simp [q1,n0,n1]
     subst eP
     generalize q0Tp F.over [j.g.spare,v5]=Q at*
     simp only [Zg,Zq,Zo,ZL,Zs,Nat.reduceAdd,encI,q11z] at cs
     simp [zEc,r,pl,fa,nx,q1,n0,n1,e,q0Z9,q003,ixsI,ixsV,w1,w2,w3,w4,w5,m1,m2,m3,m4,m5,K1,K2,K3,K4',K5,cs]
   ·have cs:=CS [j.g.spare,v5] (by simp)
    have eP:P=[j.g.spare,v5]:=by rw [po];simp [q1,n0]
    subst eP
    generalize q0Tp F.over [j.g.spare,v5]=Q at*
    simp only [Zg,Zq,Zo,ZL,Zs,Nat.reduceAdd,encI,q11z] at cs
    simp [zEc,r,pl,fa,nx,q1,n0,e,q0Z9,q003,ixsI,ixsV,w1,w2,w3,w4,w5,m1,m2,m3,m4,m5,K1,K2,K3,K5,cs]
theorem q13b (j:Job) (w:okW j) (hf: ∀x∈j.items,fairI x) (s:Stt) (c:Colm) (c1:c.notes.length<=1000000) (c2:c.top.length<=1000000) (c3:c.bot.length<=1000000) (H:Heap):
  clD EE (.p (.fn 27)) [vW j,vStt s,vColm c] H=some (vCost (costC j s c).1 (costC j s c).2,none):=q133 j w hf s c c1 (by omega) (by omega) H
def tearB (j:Job) (s:Stt) (c:Colm):Prop:=0<c.notes.length/\0<(nextS j s c).line
instance (j:Job) (s:Stt) (c:Colm):Decidable (tearB j s c):=inferInstanceAs (Decidable (_/\_))
end Go.EnvOf
namespace Go.EnvOf
open Go Go.Eng
set_option maxRecDepth 100000
section
variable (j:Job) (w:okW j)
end
end Go.EnvOf
namespace Go.EnvOf
open Go Go.Eng
set_option maxRecDepth 100000
def Keep (A:List Nat) (H H':Heap):Prop:=H.length<=H'.length/\ ∀k,k<H.length->k∉A->H'[k]? =H[k]?
def Stay (A:List Nat) (H H':Heap):Prop:=H.length<=H'.length/\ ∀k∈A,H'[k]? =H[k]?
theorem Keep.refl (A:List Nat) (H:Heap):Keep A H H:=⟨Zm _,fun _ _ _=>rfl⟩
theorem Keep.app (A:List Nat) (H T:Heap):Keep A H (H++T):=⟨by simp,fun _ h _=>Zw h⟩
theorem Stay.app (A:List Nat) (H T:Heap) (h: ∀k∈A,k<H.length):Stay A H (H++T):=⟨by simp,fun k hk=>Zw (h k hk)⟩
theorem Keep.set (A:List Nat) (H:Heap) (i:Nat) (o:DObj) (h:i∈A\/H.length<=i):Keep A H (H.set i o):=by
 refine ⟨by simp,fun k hk hA=>Zr ?_⟩
 rintro rfl
 rcases h with h|h
 ·exact hA h
 ·omega
theorem Stay.set (A:List Nat) (H:Heap) (i:Nat) (o:DObj) (h:i∉A):Stay A H (H.set i o):=⟨by simp,fun k hk=>Zr (by rintro rfl;exact h hk)⟩
theorem Stay.trans {A:List Nat} {H K L:Heap} (h:Stay A H K) (g:Stay A K L):Stay A H L:=⟨Nat.le_trans h.1 g.1,fun k hk=>(g.2 k hk).trans (h.2 k hk)⟩
theorem Keep.trans {A B:List Nat} {H K L:Heap} (h:Keep A H K) (g:Keep B K L) (hB: ∀k∈B,k∈A\/H.length<=k):Keep A H L:=by
 refine ⟨Nat.le_trans h.1 g.1,fun k hk hA=> ?_⟩
 rw [g.2 k (by have:=h.1;omega) ?_,h.2 k hk hA]
 intro hb
 rcases hB k hb with h|h
 ·exact hA h
 ·omega
theorem Keep.row {A:List Nat} {H K:Heap} (h:Keep A H K) {id s:Nat} {es:List (List V)} (hr:Eng.rowAt H id=some (s,es)) (hA:id∉A):Eng.rowAt K id=some (s,es):=by
 unfold Eng.rowAt at*
 rw [h.2 id (q09d (H:=H) (by unfold Eng.rowAt;exact hr)) hA];exact hr
theorem Keep.box {A:List Nat} {H K:Heap} (h:Keep A H K) {id:Nat} {cs:List V} (hr:Eng.boxAt H id=some cs) (hA:id∉A):Eng.boxAt K id=some cs:=by
 have hl:=q02y hr
 unfold Eng.boxAt at*
 rw [h.2 id hl hA];exact hr
theorem Stay.row {A:List Nat} {H K:Heap} (h:Stay A H K) {id s:Nat} {es:List (List V)} (hr:Eng.rowAt H id=some (s,es)) (hA:id∈A):Eng.rowAt K id=some (s,es):=by
 unfold Eng.rowAt at*
 rw [h.2 id hA];exact hr
theorem Stay.box {A:List Nat} {H K:Heap} (h:Stay A H K) {id:Nat} {cs:List V} (hr:Eng.boxAt H id=some cs) (hA:id∈A):Eng.boxAt K id=some cs:=by
 unfold Eng.boxAt at*
 rw [h.2 id hA];exact hr
structure Eats {α:Type} (rep:α->V->Heap->List Nat->Prop) (q:Nat) (L:List α) (R:Nat->List Nat->Heap->Prop) (F:List Nat->Heap->Prop):Prop where
 stay: ∀i A H H',R i A H->Stay A H H'->R i A H'
 bel: ∀i A H,R i A H-> ∀k∈A,k<H.length
 step: ∀i A H x v B,L[i]? =some x->R i A H->rep x v H B->(∀k∈B,k∉A/\q<k)->
  ∃b H' ds A',clD EE (.yld q) [v] H=some (vB b,some (H',ds))/\q∈ds/\Keep A H H'/\(∀k∈ds,k∈A\/H.length<=k)/\(∀k∈A',k∈A\/k∈B\/H.length<=k)/\
   (b=true->R (i+1) A' H')/\(b=false->F A' H')
def Gave {α:Type} (L:List α) (R:Nat->List Nat->Heap->Prop) (F:List Nat->Heap->Prop) (A:List Nat) (H:Heap) (r:Option (Heap×List Nat)):Prop:=
 ∃A',Keep A H (hpOf H r)/\(∀k∈dsOf r,k∈A\/H.length<=k)/\(∀k∈A',k∈A\/H.length<=k)/\(R L.length A' (hpOf H r)\/F A' (hpOf H r))
theorem q0vo {α:Type} {E:Env} {ks kl:List Nat} {c:IC} (L:List α) (R:Nat->St->Prop) (F:Ex×St->Prop)
  (hk: ∀i S,R i S->S.keep ks kl=S)
  (hstep: ∀i x S,R i S->L[i]? =some x->(∃S',evD E c S=some (.normal,S')/\R (i+1) S')\/ ∃r,evD E c S=some r/\r.1≠ .normal/\F r)
  (hend: ∀S,R L.length S-> ∃r,evD E c S=some r/\r.1≠ .normal/\F r):
  ∀(n i:Nat) S,L.length-i=n->R i S->i<=L.length-> ∃r,evD E (.loop ks kl c) S=some r/\F r:=by
 have stop: ∀S i,R i S->(∃r,evD E c S=some r/\r.1≠ .normal/\F r)-> ∃r,evD E (.loop ks kl c) S=some r/\F r:=by
  rintro S i hR ⟨⟨x,S'⟩,h1,h2,h3⟩
  refine ⟨(x,S'),?_,h3⟩
  rw [q003,hk _ _ hR,h1]
  cases x with
  |normal=>exact absurd rfl h2
  |_=>rfl
 intro n
 induction n with
 |zero=>
  intro i S hn hR hi
  have e:i=L.length:=by omega
  subst e
  exact stop S _ hR (hend S hR)
 |succ n ih=>
  intro i S hn hR hi
  have hlt:i<L.length:=by omega
  rcases hstep i _ S hR (Zl hlt) with ⟨S',h1,h2⟩|h
  ·rw [q003,hk _ _ hR,h1,q061]
   exact ih (i+1) S' (by omega) h2 hlt
  ·exact stop S _ hR h
def exSt:LSt->Ex
 | .done x=>x
 |_=> .normal
theorem q0n9 {env:List (Nat×V)} {loc:List (Nat×List V)} {hp:Heap} {base:Nat} {dirty:List Nat} {x:Arg} {ps:List Nat} {a b:IC} {it:V} (hv:(∃f,it= .p (.fn f))\/ ∃f u v,it= .fn (.func f) u v)
  (hx:St.arg ⟨env,loc,hp,base,dirty⟩ x=it) {r:Option (Heap×List Nat)} (h:clD EE it [.yld hp.length] (hp++[DObj.loop .ready (outE env) ps a b])=some (.tup [],r))
  {st:LSt} {e:List (Nat×V)} {ps':List Nat} {a' b':IC} (hq:(hpOf (hp++[DObj.loop .ready (outE env) ps a b]) r)[hp.length]? =some (.loop st e ps' a' b')) (hst:st≠ .busy):
  evD EE (.rangeFunc x ps a b) ⟨env,loc,hp,base,dirty⟩=some (exSt st,⟨env,loc,(hpOf (hp++[DObj.loop .ready (outE env) ps a b]) r).set hp.length .dead,base,(dsOf r).foldr (addD base) dirty⟩):=by
 have key:q03a ⟨env,loc,hp,base,dirty⟩ (some (.tup [],r))=some (exSt st,⟨env,loc,(hpOf (hp++[DObj.loop .ready (outE env) ps a b]) r).set hp.length .dead,base,(dsOf r).foldr (addD base) dirty⟩):=by
  cases r with
  |none=>
   simp only [hpOf,dsOf] at hq⊢
   simp at hq
   obtain ⟨rfl,-⟩:=hq
   simp [exSt]
  |some r=>
   obtain ⟨H,ds⟩:=r
   simp only [hpOf,dsOf] at hq⊢
   rw [q0k4,hq]
   cases st with
   |ready=>rfl
   |busy=>exact absurd rfl hst
   |done x=>rfl
 rw [q0k3,hx]
 rcases hv with ⟨f,rfl⟩|⟨f,u,v,rfl⟩
 ·rw [q0q8,h];exact key
 ·rw [q0s4,h];exact key
theorem q0e5 {q:Nat} {H:Heap} {env:List (Nat×V)} {ps:List Nat} {a b:IC} (h:H[q]? =some (.loop .ready env ps a b)) {args:List V} (hl:args.length=ps.length) {env1:List (Nat×V)} {loc1:List (Nat×List V)}
  (ha:evD EE a ⟨bindE env ps args,[],H,H.length,[]⟩=some (.normal,⟨env1,loc1,H,H.length,[]⟩)) {x:Ex} {env2:List (Nat×V)} {loc2:List (Nat×List V)} {H2:Heap} {d2:List Nat}
  (hb:evD EE b ⟨env1,loc1,H.set q (.loop .busy env ps a b),H.length,[q]⟩=some (x,⟨env2,loc2,H2,H.length,d2⟩)) (hs:H2[q]? =some (.loop .busy env ps a b)):
  clD EE (.yld q) args H=some (vB (decide (x= .normal)),some (H2.set q (.loop (if x= .normal then .ready else .done x) env ps a b),d2)):=by
 have hq:q<H.length:=(Za.1 h).1
 have hd:addD H.length q []=[q]:=by unfold addD;rw [if_pos hq]
 rw [q0zm,h,q0k5,if_pos hl,ha,q0je,h,q0k6,hd,hb,q0k7,hs,q0nj]
theorem q0bt {B:Nat}: ∀ {ds d:List Nat},(∀k∈ds,B<=k)->ds.foldr (addD B) d=d
 |[],_,_=>rfl
 |x::ds,d,h=>by
  rw [List.foldr_cons,q0bt fun k hk=>h k (by simp [hk])]
  unfold addD
  rw [if_neg (by have:=h x (by simp);omega)]
theorem q0vp (E:Env) (f:FuncId) (s:Nat) (z:List V) (H:Heap) (id:Nat) (es:List (List V)) (hp:E.prims f=none) (hf:E.fns f=some (q05m s z)) (hr:Eng.rowAt H id=some (s,es)) (hn:es≠[]) (hs:es.all (okEl s)=true) (hm:es.length<most):
  clD E (.p (.fn f)) [.row id es.length 0 es.length] H=some (.row H.length es.length 0 es.length,some (H++[.row s es],[])):=by
 have hh:q05c [.row id es.length 0 es.length]=false:=by cases es with|nil=>exact absurd rfl hn|cons e r=>rfl
 rw [q0k1 E f _ _ _ H hp hf hh]
 have h0:(0:Nat)<most:=by unfold most;omega
 have he:elems H (.row id es.length 0 es.length)=some es:=by simp [elems,hr]
 cases es with
 |nil=>exact absurd rfl hn
 |cons e r=>
  simp only [Zg] at he hm⊢
  simp [-List.all_eq_true,zEa,he,hs,hm,h0]
end Go.EnvOf
namespace Go.EnvOf
open Go Go.Eng
theorem q10k {p:Int->Bool}: ∀(n:Nat) (a:Int),∀x∈sel p a n,a<=x/\x<a+n/\p x=true
 |0,_,x,h=>by simp [sel] at h
 |n+1,a,x,h=>by
  simp only [sel,ZY] at h
  rcases h with h|h
  ·split at h
   ·simp at h;subst h;exact ⟨ZS _,by omega,by assumption⟩
   ·cases h
  ·have:=q10k n (a+1) x h
   exact ⟨by omega,by omega,this.2.2⟩
end Go.EnvOf
namespace Go.EnvOf
open Go Go.Eng
theorem q0pt {p:Int->Bool} {x:Int} (hp:p x=true): ∀(n:Nat) (a:Int),a<=x->x<a+n->x∈sel p a n
 |0,a,h1,h2=>by omega
 |n+1,a,h1,h2=>by
  simp only [sel,ZY]
  by_cases e:a=x
  ·subst e;simp [hp]
  ·exact .inr (q0pt hp n (a+1) (by omega) (by omega))
theorem q0pu {L M:List Int} (h:q01o L M=false):1<=L.length/\L.length<=64/\ ∀x∈L,1<=x/\x<=1073741823:=by
 unfold q01o q03x bad at h
 simp at h
 obtain ⟨⟨⟨⟨h1,h2⟩,h3⟩,h4⟩,h5⟩:=h
 exact ⟨by omega,by omega,fun x hx=>h4 x hx⟩
def openN (l:List Note) (s:Spot):Nat:=if s.note<0\/s.line<0 then 0 else (max (max (min s.begun l.length) 0-s.note) 0).toNat
def q01j (l:List Note):Nat->Int->Int->List Piece
 |0,_,_=>[]
 |k+1,a,line=>⟨a,line,(rd l a).lines.length⟩::q01j l k (a+1) 0
def q01k (x:Note) (frm:Int):List Int:=sel (q02f x.lines x.pens frm) 0 (x.lines.length+1)
def lastP (s:Spot) (n:Nat):Int:=s.note+n-1
def fromP (s:Spot) (n:Nat):Int:=if n=1 then s.line else 0
def oneP (l:List Note) (s:Spot) (n:Nat) (t:Int):List Piece:=q01j l (n-1) s.note s.line++[⟨lastP s n,fromP s n,t⟩]
def q00j (l:List Note) (s:Spot):List (List Piece):=
 (if openN l s=0\/s.fresh=false then [[]] else [])++
 if openN l s=0 then [] else (q01k (rd l (lastP s (openN l s))) (fromP s (openN l s))).map (oneP l s (openN l s))
def q05q (l:List Note) (s:Spot):List Piece:=(q00j l s).headD []
def mayPc (l:List Note) (s:Spot) (p:List Piece):Bool:=(q00j l s).any fun q=>decide (q=p)
def q02h (s:Spot):Spot:=⟨s.note,s.line,s.begun,true⟩
theorem q08w {l:List Note} {s:Spot} (hb:s.begun<=l.length) (hn:0<=s.note) (hl:0<=s.line):openN l s=(s.begun-s.note).toNat:=by
 unfold openN;rw [if_neg (by omega)];omega
theorem q0pv {s:Spot} (h:s.note<s.begun):lastP s (s.begun-s.note).toNat=s.begun-1:=by unfold lastP;omega
theorem q0Cu {s:Spot}:fromP s (s.begun-s.note).toNat=if s.note+1=s.begun then s.line else 0:=by
 unfold fromP
 by_cases d:s.note+1=s.begun
 ·rw [if_pos d,if_pos (by omega)]
 ·rw [if_neg d,if_neg (by omega)]
theorem q0Yk {l:List Note} {s:Spot} {p:List Piece} (hb:s.begun<=l.length) (hn:0<=s.note) (hl:0<=s.line) (h:p∈q00j l s):
  (p=[]/\(s.begun<=s.note\/s.fresh=false))\/
  (s.note<s.begun/\ ∃q t,p=q++[⟨s.begun-1,if s.note+1=s.begun then s.line else 0,t⟩]/\(if s.note+1=s.begun then s.line else 0)<t/\t<=(rd l (s.begun-1)).lines.length/\mayF (rd l (s.begun-1)).lines (rd l (s.begun-1)).pens t=true):=by
 unfold q00j at h
 rw [q08w hb hn hl] at h
 rcases ZY.1 h with h|h
 ·by_cases c:(s.begun-s.note).toNat=0\/s.fresh=false
  ·rw [if_pos c] at h
   refine .inl ⟨by simpa using h,?_⟩
   rcases c with c|c
   ·exact .inl (by omega)
   ·exact .inr c
  ·rw [if_neg c] at h;simp at h
 ·by_cases c:(s.begun-s.note).toNat=0
  ·rw [if_pos c] at h;simp at h
  ·rw [if_neg c] at h
   have hlt:s.note<s.begun:=by omega
   obtain ⟨t,ht,rfl⟩:=ZJ.1 h
   rw [q0pv hlt,q0Cu] at ht
   have:=q10k _ _ t ht
   unfold q02f at this
   simp only [Zb,decide_eq_true_eq] at this
   refine .inr ⟨hlt,q01j l ((s.begun-s.note).toNat-1) s.note s.line,t,?_,this.2.2.1,by omega,this.2.2.2⟩
   unfold oneP
   rw [q0pv hlt,q0Cu]
theorem q0Ye (l:List Note) (s:Spot):nextF l s []=(s.note,s.line):=rfl
theorem q102 (l:List Note) (s:Spot) (q:List Piece) (x:Piece):nextF l s (q++[x])=nextP l x:=by unfold nextF;simp
theorem q0Z4 {α:Type} {l:List α} {d:α} (h:l≠[]):l.headD d∈l:=by
 cases l with
 |nil=>exact absurd rfl h
 |cons x r=>simp
theorem q0fs {l:List Note} {s:Spot} (hb:s.begun<=l.length) (hn:0<=s.note) (hl:0<=s.line) (hw: ∀n∈l,1<=n.lines.length)
  (ho:s.note+1=s.begun->s.line<(rd l s.note).lines.length):q00j l s≠[]:=by
 unfold q00j
 rw [q08w hb hn hl]
 by_cases c:(s.begun-s.note).toNat=0\/s.fresh=false
 ·rw [if_pos c];simp
 ·rw [if_neg c,if_neg (fun h=>c (.inl h)),Zf]
  have hlt:s.note<s.begun:=by omega
  rw [q0pv hlt,q0Cu]
  have hm:(rd l (s.begun-1))∈l:=q05a (by omega) (by omega)
  have h1:=hw _ hm
  have key:(((rd l (s.begun-1)).lines.length:Nat):Int)∈q01k (rd l (s.begun-1)) (if s.note+1=s.begun then s.line else 0):=by
   unfold q01k
   refine q0pt ?_ _ _ (by omega) (by omega)
   unfold q02f mayF
   simp only [Zb,decide_eq_true_eq,Z4]
   refine ⟨?_,.inl trivial⟩
   by_cases d:s.note+1=s.begun
   ·rw [if_pos d]
    have:=ho d
    have e:s.begun-1=s.note:=by omega
    rw [e];exact this
   ·rw [if_neg d];omega
  intro h
  rw [List.map_eq_nil_iff] at h
  rw [h] at key
  cases key
theorem q0Z5 {l:List Note} {s:Spot} (hb:s.begun<=l.length) (hn:0<=s.note) (hl:0<=s.line) (hw: ∀n∈l,1<=n.lines.length)
  (ho:s.note+1=s.begun->s.line<(rd l s.note).lines.length):q05q l s∈q00j l s:=q0Z4 (q0fs hb hn hl hw ho)
theorem q0ja (l:List Note) (s:Spot) (p:List Piece):mayPc l s p=true↔p∈q00j l s:=by
 unfold mayPc
 rw [List.any_eq_true]
 constructor
 ·rintro ⟨q,h,e⟩
  have:q=p:=by simpa using e
  exact this▸h
 ·intro h;exact ⟨p,h,by simp⟩
theorem q0Y0 (l:List Note) (n:Int) (h0:0<=n) (h1:n<l.length):lineN (l.take (n+1).toNat)=lineN (l.take n.toNat)+(rd l n).lines.length:=by
 have e:(n+1).toNat=n.toNat+1:=by omega
 rw [e,q03n (q026 l n h0 h1),q0Ys]
theorem q0Yt (l:List Note) (a:Nat): ∀k:Nat,lineN (l.take a)<=lineN (l.take (a+k))
 |0=>ZS _
 |k+1=>by
  have ih:=q0Yt l a k
  rcases Z2 (a+k) l.length with h|h
  ·have:=q03n (Zl h)
   rw [<-Z3,this,q0Ys];omega
  ·rw [Zy (show l.length<=a+(k+1) by omega)]
   rw [Zy h] at ih
   exact ih
theorem q0Yb (l:List Note) {a b:Int} (h:a<=b):lineN (l.take a.toNat)<=lineN (l.take b.toNat):=by
 have:=q0Yt l a.toNat (b.toNat-a.toNat)
 rw [show a.toNat+(b.toNat-a.toNat)=b.toNat by omega] at this
 exact this
def progN (l:List Note) (note line:Int):Int:=lineN (l.take note.toNat)+line
theorem q0Z6 (l:List Item) (a:Nat):l.take (trimN l a)=l.take a++(l.drop a).takeWhile q04c:=by
 unfold trimN
 rw [List.take_add,q0Yv]
theorem q0Zs {x:Item} (h:q04c x=true):x.k=2\/x.k=3:=by simpa [q04c] using h
theorem q0Yf (l:List Item) (n:Int):putN l (trimF l n)=trimN l (putN l n):=q0Ce (q0Zi l n)
theorem q103 (l r:List Item):q01a (l++r)=q01a l+cnt 5 r:=by
 unfold q01a cnt
 simp [List.filter_append]
theorem q104 (j:Job) (n:Int):q00z j (trimF j.items n)=q00z j n:=by
 unfold q00z
 rw [q0Yf,q0Z6,q103,q10x]
 ·simp
 ·intro x hx
  have:=q0Zs (q0Y4 hx)
  omega
theorem q0Yl (fs:List Float): ∀(r:List Item) (c:C3),(∀x∈r,x.k≠6)->r.foldl (addAt fs) c=c
 |[],_,_=>rfl
 |x::r,c,h=>by
  have h1:addAt fs c x=c:=by unfold addAt;rw [if_neg (h x (by simp))]
  simp only [ZT,h1]
  exact q0Yl fs r c fun y hy=>h y (by simp [hy])
theorem q0Yu (fs:List Float) (l r:List Item):q00n fs (l++r)=r.foldl (addAt fs) (q00n fs l):=by simp [q00n]
theorem q105 (j:Job) (n:Int):q01i j (trimF j.items n)=q01i j n:=by
 unfold q01i
 rw [q0Yf,q0Z6,q0Yu,q0Yl]
 intro x hx
 have:=q0Zs (q0Y4 hx)
 omega
theorem q0Z7 (l:List Item) {a b:Int} (h:a<=b):putN l a<=putN l b:=by unfold putN;omega
theorem q106 (j:Job) {a b:Int} (h:a<=b):q00z j a<=q00z j b:=by
 unfold q00z q01a
 have:=q0d8 5 (j.items.take (putN j.items b)) (putN j.items a)
 rw [List.take_take,Nat.min_eq_left (q0Z7 j.items h)] at this
 omega
def leC (x y:C3):Prop:=x.a<=y.a/\x.b<=y.b/\x.c<=y.c
theorem q0pw (x y:C3):inC x y=true↔leC x y:=by unfold inC leC;simp only [Zb,decide_eq_true_eq,and_assoc]
theorem q0e6 (x:C3):leC x x:=⟨ZS _,ZS _,ZS _⟩
theorem q0bu {x y z:C3} (h:leC x y) (g:leC y z):leC x z:=⟨Int.le_trans h.1 g.1,Int.le_trans h.2.1 g.2.1,Int.le_trans h.2.2 g.2.2⟩
theorem q0na (fs:List Float) (c:C3) (x:Item):leC c (addAt fs c x):=by
 unfold addAt ofS bump leC
 (repeat' split)<;>(try simp only)<;>omega
theorem q0Z8 (fs:List Float): ∀(r:List Item) (c:C3),leC c (r.foldl (addAt fs) c)
 |[],c=>q0e6 c
 |x::r,c=>q0bu (q0na fs c x) (q0Z8 fs r _)
theorem q107 (j:Job) {a b:Int} (h:a<=b):leC (q01i j a) (q01i j b):=by
 unfold q01i
 have e:j.items.take (putN j.items b)=j.items.take (putN j.items a)++(j.items.take (putN j.items b)).drop (putN j.items a):=by
  have:=List.take_append_drop (putN j.items a) (j.items.take (putN j.items b))
  rw [List.take_take,Nat.min_eq_left (q0Z7 j.items h)] at this
  exact this.symm
 rw [e,q0Yu]
 exact q0Z8 _ _ _
theorem q0vq (fs:List Float) (l:List Item):leC (dueP fs l) (q00n fs l):=by
 have key: ∀n,n<=l.length->leC (dueP fs (l.take n)) (q00n fs (l.take n)):=by
  intro n
  induction n with
  |zero=>intro _;rw [List.take_zero];exact q0e6 _
  |succ n ih=>
   intro h
   rw [q03n (Zl (show n<l.length by omega)),q0bo,q0db]
   split
   ·exact q0na _ _ _
   ·exact q0bu (ih (by omega)) (q0na _ _ _)
 have:=key l.length (Zm _)
 rwa [List.take_length] at this
def cF (fs:List Float) (n:Nat):C3:=⟨(figOf 0 0 (fs.take n)).length,(figOf 1 0 (fs.take n)).length,(figOf 2 0 (fs.take n)).length⟩
theorem q0bv (c:Int): ∀(a b:List Float) (i:Nat),figOf c i (a++b)=figOf c i a++figOf c (i+a.length) b
 |[],b,i=>by simp [figOf]
 |x::a,b,i=>by
  simp only [Zd,figOf,q0bv c a b (i+1),Zg,Zx]
  rw [show i+1+a.length=i+(a.length+1) by omega]
theorem q0Cv (fs:List Float) (n:Nat) (f:Float) (h:fs[n]? =some f):cF fs (n+1)=bump (cF fs n) f.c:=by
 unfold cF bump
 rw [q03n h]
 simp only [q0bv,figOf,Zt,List.append_nil]
 by_cases c0:f.c=0
 ·simp [c0]
 ·by_cases c1:f.c=1
  ·simp [c1]
  ·by_cases c2:f.c=2
   ·simp [c2]
   ·simp [c0,c1,c2]
theorem q0ci (fs:List Float) (m:Nat) (hm:m<=fs.length): ∀(l:List Item) (i n:Nat),n<=m->refF 6 m i n l<0->l.foldl (addAt fs) (cF fs n)=cF fs m
 |[],i,n,hn,h=>by
  simp only [refF] at h
  by_cases c:n<m
  ·rw [if_pos c] at h;omega
  ·have:n=m:=by omega
   subst this;rfl
 |x::r,i,n,hn,h=>by
  simp only [refF] at h
  simp only [ZT]
  by_cases hk:x.k=6
  ·rw [if_pos hk] at h
   by_cases hx:x.n=n/\n<m
   ·rw [if_pos hx] at h
    have hf:fs[n]? =some (fs[n]'(by omega)):=Zl (by omega)
    have e:addAt fs (cF fs n) x=cF fs (n+1):=by
     rw [q0Cv fs n _ hf]
     unfold addAt ofS
     rw [if_pos hk,hx.1]
     have ha:atF fs (n:Int)=some (fs[n]'(by omega)):=by
      unfold atF
      rw [if_pos ⟨by omega,by omega⟩,rd_of hf]
     rw [ha]
    rw [e]
    exact q0ci fs m hm r (i+1) (n+1) (by omega) h
   ·rw [if_neg hx] at h;omega
  ·rw [if_neg hk] at h
   have e:addAt fs (cF fs n) x=cF fs n:=by unfold addAt;rw [if_neg hk]
   rw [e]
   exact q0ci fs m hm r (i+1) n hn h
theorem q06g (c:Int) (fs:List Float) (n:Nat):(figOf c 0 (fs.take n)).length<=(figOf c 0 fs).length:=by
 conv=>rhs;rw [<-List.take_append_drop n fs,q0bv,Zt]
 omega
def allC (fs:List Float):C3:=⟨(figOf 0 0 fs).length,(figOf 1 0 fs).length,(figOf 2 0 fs).length⟩
theorem cF_le (fs:List Float) (n:Nat):leC (cF fs n) (allC fs):=by
 have a:=q06g 0 fs n
 have b:=q06g 1 fs n
 have c:=q06g 2 fs n
 unfold leC cF allC
 simp only
 omega
theorem q0jb {j:Job} (h:refF 6 j.floats.length 0 0 j.items<0) (n:Int):leC (q01i j n) (allC j.floats):=by
 unfold q01i
 have h1:=q0bm 6 j.floats.length j.items 0 0 (putN j.items n) h
 have h2:=q07c 6 j.floats.length j.items 0 0 (Zj _) h
 have h3:=q0d8 6 j.items (putN j.items n)
 rw [Zs] at h1
 have:=q0ci j.floats (cnt 6 (j.items.take (putN j.items n))) (by omega) _ 0 0 (Zj _) h1
 have e:cF j.floats 0=⟨0,0,0⟩:=rfl
 rw [e] at this
 unfold q00n
 rw [this]
 exact cF_le _ _
theorem q0od (j:Job) (s:Stt):q03q j s=true↔(s.line=0/\s.note=q00z j s.at_)\/
  (1<=s.line/\s.note=q00z j s.at_-1/\0<=s.note/\s.line<(rd j.notes s.note).lines.length/\mayF (rd j.notes s.note).lines (rd j.notes s.note).pens s.line=true):=by
 unfold q03q
 by_cases h:s.line=0
 ·rw [if_pos h,decide_eq_true_eq]
  constructor
  ·intro e;exact .inl ⟨h,e⟩
  ·rintro (e|e)
   ·exact e.2
   ·omega
 ·rw [if_neg h]
  by_cases g:s.note≠q00z j s.at_-1\/s.note<0\/s.line<1
  ·rw [if_pos g]
   constructor
   ·intro e;cases e
   ·rintro (e|e)<;>omega
  ·rw [if_neg g]
   simp only [Zb,decide_eq_true_eq]
   constructor
   ·rintro ⟨a,b⟩;exact .inr ⟨by omega,by omega,by omega,a,b⟩
   ·rintro (e|⟨_,_,_,a,b⟩)
    ·omega
    ·exact ⟨a,b⟩
structure rightP (j:Job) (s:Stt):Prop where
 at0:0<=s.at_
 at1:s.at_<=j.items.length
 trim:(trimF j.items s.at_:Int)=s.at_
 col0:0<=s.col
 col1:s.col<=j.g.cols
 car:q03q j s=true
 h0:leC zeroC s.h
 h1:leC s.h (q01i j s.at_)
theorem q02k (j:Job) (s:Stt):q01g j s=true↔rightP j s:=by
 unfold q01g
 by_cases g:s.at_<0\/(j.items.length:Int)<s.at_\/(trimF j.items s.at_:Int)≠s.at_\/s.col<0\/j.g.cols<s.col
 ·rw [if_pos g]
  constructor
  ·intro e;cases e
  ·rintro ⟨a,b,c,d,e,-,-,-⟩;omega
 ·rw [if_neg g]
  simp only [Zb,q0pw]
  constructor
  ·rintro ⟨⟨a,b⟩,c⟩;exact ⟨by omega,by omega,by omega,by omega,by omega,a,b,c⟩
  ·intro h;exact ⟨⟨h.car,h.h0⟩,h.h1⟩
structure wfJ (j:Job):Prop where
 w:okW j
 notes: ∀n∈j.notes,1<=n.lines.length
 five:q01a j.items=j.notes.length
 six:refF 6 j.floats.length 0 0 j.items<0
 fl: ∀f∈j.floats,(0<=f.c/\f.c<=2)/\0<=f.h/\f.h<=j.g.first
 hi0:0<=j.g.first
 high:j.g.first<=j.g.high/\j.g.high<=4294967296
 sep:0<=j.g.sep/\j.g.sep<=4294967296
 many:0<=j.g.topMany/\0<=j.g.botMany/\0<=j.g.topMost/\0<=j.g.botMost
 cols:1<=j.g.cols
theorem q09w {j:Job} (w:wfJ j) {s:Stt} (r:rightP j s):0<=s.note/\0<=s.line/\s.note<=j.notes.length/\(s.line≠0->s.note<j.notes.length/\s.line<(rd j.notes s.note).lines.length):=by
 have b:=q0bq j s.at_
 have b2:=q03o w.w s.at_
 rcases (q0od j s).1 r.car with ⟨h1,h2⟩|⟨h1,h2,h3,h4,-⟩
 ·refine ⟨by omega,by omega,by omega,fun h=>absurd h1 h⟩
 ·exact ⟨by omega,by omega,by omega,fun _=>⟨by omega,h4⟩⟩
theorem q10l {j:Job} (w:wfJ j) {s:Stt} (r:rightP j s) {b:Int} {fr:Bool} {p:List Piece} (hb:q00z j s.at_<=b) (hb2:b<=j.notes.length) (hf:fr=false->b<=q00z j s.at_)
  (hp:p∈q00j j.notes ⟨s.note,s.line,b,fr⟩):
  (((nextF j.notes ⟨s.note,s.line,b,fr⟩ p).2=0/\(nextF j.notes ⟨s.note,s.line,b,fr⟩ p).1=b)\/
    (1<=(nextF j.notes ⟨s.note,s.line,b,fr⟩ p).2/\(nextF j.notes ⟨s.note,s.line,b,fr⟩ p).1=b-1/\0<=(nextF j.notes ⟨s.note,s.line,b,fr⟩ p).1/\
     (nextF j.notes ⟨s.note,s.line,b,fr⟩ p).2<(rd j.notes (nextF j.notes ⟨s.note,s.line,b,fr⟩ p).1).lines.length/\mayF (rd j.notes (nextF j.notes ⟨s.note,s.line,b,fr⟩ p).1).lines (rd j.notes (nextF j.notes ⟨s.note,s.line,b,fr⟩ p).1).pens (nextF j.notes ⟨s.note,s.line,b,fr⟩ p).2=true))/\
  progN j.notes s.note s.line<=progN j.notes (nextF j.notes ⟨s.note,s.line,b,fr⟩ p).1 (nextF j.notes ⟨s.note,s.line,b,fr⟩ p).2/\
  (p≠[]->progN j.notes s.note s.line<progN j.notes (nextF j.notes ⟨s.note,s.line,b,fr⟩ p).1 (nextF j.notes ⟨s.note,s.line,b,fr⟩ p).2):=by
 obtain ⟨n0,l0,n1,n2⟩:=q09w w r
 rcases q0Yk (s:=⟨s.note,s.line,b,fr⟩) hb2 n0 l0 hp with ⟨rfl,h⟩|⟨h,q,t,rfl,ht,ht2,hm⟩
 ·rw [q0Ye]
  simp only at h⊢
  refine ⟨?_,ZS _,fun h=>absurd rfl h⟩
  have hbb:b<=s.note\/b<=q00z j s.at_:=h.imp id hf
  rcases (q0od j s).1 r.car with ⟨h1,h2⟩|⟨h1,h2,h3,h4,h5⟩
  ·exact .inl ⟨h1,by omega⟩
  ·exact .inr ⟨h1,by omega,h3,h4,h5⟩
 ·rw [q102]
  simp only at h ht ht2 hm⊢
  have hpr:progN j.notes s.note s.line<lineN (j.notes.take (b-1).toNat)+t:=by
   unfold progN
   by_cases d:s.note+1=b
   ·rw [if_pos d] at ht
    have e:b-1=s.note:=by omega
    rw [e];omega
   ·rw [if_neg d] at ht
    have h1:=q0Y0 j.notes s.note n0 (by omega)
    have h2:=q0Yb j.notes (show s.note+1<=b-1 by omega)
    have h3:s.line<=(rd j.notes s.note).lines.length:=by
     by_cases z:s.line=0
     ·omega
     ·have:=(n2 z).2;omega
    omega
  have ht0:0<t:=by
   by_cases d:s.note+1=b
   ·rw [if_pos d] at ht;omega
   ·rw [if_neg d] at ht;exact ht
  unfold nextP
  by_cases c:0<=b-1/\b-1<j.notes.length/\t=(rd j.notes (b-1)).lines.length
  ·rw [if_pos c]
   have e:=q0Y0 j.notes (b-1) c.1 c.2.1
   rw [show b-1+1=b by omega] at e⊢
   have:progN j.notes s.note s.line<progN j.notes b 0:=by
    have hx:progN j.notes b 0=lineN (j.notes.take b.toNat)+0:=rfl
    rw [hx,e];omega
   exact ⟨.inl ⟨rfl,rfl⟩,by simp only;omega,fun _=>this⟩
  ·rw [if_neg c]
   simp only
   exact ⟨.inr ⟨by omega,trivial,by omega,by omega,hm⟩,by unfold progN at*;omega,fun _=>hpr⟩
end Go.EnvOf
namespace Go.EnvOf
open Go Go.Eng
set_option maxRecDepth 100000
def sameC (a b:Colm):Bool:=decide (a.k=b.k)&&decide (a.frm=b.frm)&&decide (a.to=b.to)&&decide (a.notes=b.notes)&&decide (a.top=b.top)&&decide (a.bot=b.bot)
theorem q10j (a b:Colm):sameC a b=true↔a=b:=by
 obtain ⟨a1,a2,a3,a4,a5,a6⟩:=a
 obtain ⟨b1,b2,b3,b4,b5,b6⟩:=b
 simp [sameC,and_assoc]
theorem q0Xm (a b:Colm) (h1:a.notes.length<=1000000) (h2:a.top.length<=9223372036854775807) (h3:a.bot.length<=9223372036854775807) (H:Heap):clD EE (.p (.fn 177)) [vColm a,vColm b] H=some (vB (sameC a b),none):=by
 rw [q002 _ _ _ _ _ _ (noP _) fn177]
 have s:=fun H=>q0bn a.notes b.notes h1 H
 have t:=fun H=>q0Wb a.top b.top H h2
 have u:=fun H=>q0Wb a.bot b.bot H h3
 unfold sameC
 by_cases c1:a.k=b.k
 ·by_cases c2:a.frm=b.frm
  ·by_cases c3:a.to=b.to
   ·by_cases c4:a.notes=b.notes
    ·by_cases c5:a.top=b.top
     ·simp only [c4,c5] at s t;simp [zEc,s,t,u,c1,c2,c3,c4,c5]
     ·simp only [c4] at s;simp [zEc,s,t,c1,c2,c3,c4,c5]
    ·simp [zEc,s,c1,c2,c3,c4]
   ·simp [zEc,c1,c2,c3]
  ·simp [zEc,c1,c2]
 ·simp [zEc,c1]
theorem q0vn (a b:Colm) (h1:a.notes.length<=1000000) (h2:a.top.length<=1000000) (h3:a.bot.length<=1000000) (H:Heap):clD EE (.p (.fn 177)) [vColm a,vColm b] H=some (vB (sameC a b),none):=q0Xm a b h1 (by omega) (by omega) H
end Go.EnvOf
