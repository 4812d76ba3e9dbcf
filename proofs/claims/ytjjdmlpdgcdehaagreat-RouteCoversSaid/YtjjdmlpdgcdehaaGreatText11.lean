/- The program's functions and the document's, evaluated. -/
import Derived.Test.YtjjdmlpdgcdehaaGreatText10
import Derived.Test.YtjjdmlpdgcdehaaGreatText7
import Derived.Test.YtjjdmlpdgcdehaaGreatText8
set_option linter.unusedSimpArgs false
set_option linter.unusedVariables false
namespace Go.EnvOf
open Go Go.Eng
set_option maxRecDepth 100000
theorem q0b3 {p:Nat->Bool}: ∀(k n m:Nat),n<=m->m<n+k->p m=true->seekP p k n≠ -1/\seekP p k n<=m
 |0,n,m,h1,h2,_=>by omega
 |k+1,n,m,h1,h2,h3=>by
  rw [seekP]
  by_cases q:p n=true
  ·rw [if_pos q];omega
  ·rw [if_neg q]
   have:n≠m:=fun e=>q (e▸h3)
   exact q0b3 k (n+1) m (by omega) (by omega) h3
theorem q0Be {l:List Item} (h:1<=l.length):mayN l l.length=true:=by
 unfold mayN mayV
 rw [if_neg (by omega)]
 have:q02g l (l.length:Int)=none:=by unfold q02g;rw [if_neg (by omega)]
 rw [this]
theorem q0wy {l:List Item} {n:Nat} (h1:1<=n) (h2:n<=l.length) (h:mustP l n=true):mayN l n=true:=by
 by_cases e:n=l.length
 ·subst e;exact q0Be h1
 ·have hx:l[n]? =some (l[n]'(by omega)):=Zl (by omega)
  unfold mustP at h
  rw [hx] at h
  unfold mayN mayV
  rw [if_neg (by omega),q06n,hx]
  simp only at h⊢
  unfold q05z at h
  simp only [Zb,decide_eq_true_eq] at h
  rw [if_neg (by omega),if_pos h.1]
  unfold forbX
  simp [h.1]
  omega
theorem q0tc {l:List Item} {a:Int} (h0:0<=a) (h1:a<l.length):q015 l a∈brkF l a:=by
 have hp:(pos a:Int)=a:=by unfold pos;omega
 have hF:=q0b3 (p:=mustP l) (l.length-pos a) (pos a+1) l.length (by omega) (by omega) (by unfold mustP;rw [ZF (Zm _)])
 have bF:=q07g (mustP l) (l.length-pos a) (pos a+1)
 change q010 l a≠ -1/\q010 l a<=_ at hF
 change q010 l a= -1\/_<=q010 l a/\q010 l a<_/\mustP l (q010 l a).toNat=true at bF
 rcases bF with bF|⟨b1,b2,b3⟩
 ·exact absurd bF hF.1
 have hm:=q0wy (n:=(q010 l a).toNat) (by omega) (by omega) b3
 have hB:=q0b3 (p:=mayN l) (l.length-pos a) (pos a+1) (q010 l a).toNat (by omega) (by omega) hm
 have bB:=q07g (mayN l) (l.length-pos a) (pos a+1)
 change q015 l a≠ -1/\q015 l a<=_ at hB
 change q015 l a= -1\/_<=q015 l a/\q015 l a<_/\mayN l (q015 l a).toNat=true at bB
 rcases bB with bB|⟨c1,c2,c3⟩
 ·exact absurd bB hB.1
 unfold brkF
 refine ZJ.2 ⟨(q015 l a).toNat,?_,by simp only [Int.ofNat_eq_natCast];omega⟩
 unfold brkN
 rw [List.mem_filter,List.mem_range']
 refine ⟨⟨(q015 l a).toNat-(pos a+1),by omega,by omega⟩,?_⟩
 simp only [Zb,decide_eq_true_eq]
 exact ⟨by omega,c3⟩
theorem q0hy {j:Job} (w:wfJ j) {s:Stt} (r:rightP j s):leC s.h (allC j.floats):=q0bu r.h1 (q0jb w.six _)
theorem q04a (j:Job) (s:Stt):openS j s=true↔rightP j s/\doneS j s=false:=by
 unfold openS
 rw [Zb,q02k,Bool.not_eq_true']
theorem q0lx (k:Int) (m:Nat) (f:Item->Item) (hf: ∀x,(f x).k=x.k/\(f x).n=x.n): ∀(l:List Item) (i n:Nat),refF k m i n (l.map f)=refF k m i n l
 |[],_,_=>rfl
 |x::r,i,n=>by
  simp only [Zo,refF,(hf x).1,(hf x).2,q0lx k m f hf r]
theorem dn_eq {n s:Int} (h0:0<=n) (h1:n<=1073741823) (hs:1<=s):downG n s=s*(n/s):=by
 have a:=Int.emod_nonneg n (show s≠0 by omega)
 have b:=Int.emod_add_mul_ediv n s
 have c:0<=s*(n/s):=Int.mul_nonneg (by omega) (Int.ediv_nonneg h0 (by omega))
 unfold downG downF
 rw [if_neg (by omega)]
 unfold subF
 rw [if_pos (by omega)]
 simp only [orN]
 omega
theorem q0u2 {a b s:Int} (h0:0<=a) (h:a<=b) (h1:b<=1073741823) (hs:1<=s):downG a s<=downG b s:=by
 rw [dn_eq h0 (by omega) hs,dn_eq (by omega) h1 hs]
 exact Int.mul_le_mul_of_nonneg_left (Int.ediv_le_ediv (by omega) h) (by omega)
theorem q0u3 {g:Geom} (h:geomF g=0):1<=g.first/\g.first<=g.high/\0<=g.topMost/\0<=g.botMost/\0<=g.topMany/\0<=g.botMany/\g.topMany<=4/\g.botMany<=4/\0<=g.noteMost:=by
 unfold geomF at h
 by_cases q1:inR 1 8 [g.cols]=false
 ·rw [if_pos q1] at h;omega
 rw [if_neg q1] at h
 by_cases q2:inR 1 1073741823 [g.wide,g.high]=false
 ·rw [if_pos q2] at h;omega
 rw [if_neg q2] at h
 by_cases q3:inR 0 1073741823 [g.gap,g.noteMost,g.topMost,g.botMost]=false
 ·rw [if_pos q3] at h;omega
 rw [if_neg q3] at h
 by_cases q4:inR 0 536870912 [g.rule,g.sep,g.grid]=false
 ·rw [if_pos q4] at h;omega
 rw [if_neg q4] at h
 by_cases q5:inR 1 g.high [g.first]=false
 ·rw [if_pos q5] at h;omega
 rw [if_neg q5] at h
 by_cases q6:inR 0 g.first [g.grid]=false
 ·rw [if_pos q6] at h;omega
 rw [if_neg q6] at h
 by_cases q7:inR 0 4 [g.topMany,g.botMany]=false
 ·rw [if_pos q7] at h;omega
 have a1:=q04b q5 g.first (by simp)
 have a2:=q04b q3 g.topMost (by simp)
 have a3:=q04b q3 g.botMost (by simp)
 have a4:=q04b q7 g.topMany (by simp)
 have a5:=q04b q7 g.botMany (by simp)
 have a6:=q04b q3 g.noteMost (by simp)
 omega
theorem wf_of {j:Job} (r:Right j) (sm:small (snapG j)):wfJ (snapG j):=by
 have hg:=q0bp r.g
 have hm:=q0u3 r.g
 obtain ⟨f,hf,hk⟩:=q0fj j
 have h5:=q07c 5 j.notes.length j.items 0 0 (Zj _) r.r5
 have hgr:(snapG j).g.first<=(snapG j).g.high/\(snapG j).g.high<=4294967296/\0<=(snapG j).g.first/\0<=(snapG j).g.sep/\(snapG j).g.sep<=4294967296/\(snapG j).g.topMany=j.g.topMany/\(snapG j).g.botMany=j.g.botMany/\(snapG j).g.topMost=j.g.topMost/\(snapG j).g.botMost=j.g.botMost:=by
  unfold snapG
  split
  ·refine ⟨by omega,by omega,by omega,by omega,by omega,rfl,rfl,rfl,rfl⟩
  ·have b1:=q0u2 (a:=j.g.first) (b:=j.g.high) (s:=j.g.grid) (by omega) (by omega) (by omega) (by omega)
   have b2:=q09m (n:=j.g.high) (s:=j.g.grid) (by omega) (by omega) (by omega) (by omega)
   have b3:=q09m (n:=j.g.first) (s:=j.g.grid) (by omega) (by omega) (by omega) (by omega)
   have b4:=q09l (n:=j.g.sep) (s:=j.g.grid) (by omega) (by omega) (by omega) (by omega)
   exact ⟨b1,b2.2,b3.1,b4.1,b4.2,rfl,rfl,rfl,rfl⟩
 refine ⟨q0Ex r sm,?_,?_,?_,?_,hgr.2.2.1,⟨hgr.1,hgr.2.1⟩,⟨hgr.2.2.2.1,hgr.2.2.2.2.1⟩,?_,?_⟩
 ·intro n hn
  unfold snapG at hn
  split at hn
  ·exact (q0pu (r.notes n hn)).1
  ·obtain ⟨m,hm,rfl⟩:=ZJ.1 hn
   have:=(q0pu (r.notes m hm)).1
   simpa [noteG] using this
 ·rw [q0j0,hf]
  unfold q01a
  rw [q0pq 5 f (fun x=>(hk x).1)]
  omega
 ·rw [q0v3,hf,q0lx 6 _ f hk]
  exact r.r6
 ·intro x hx
  have ht:=r.tall x hx
  unfold snapG at hx
  split at hx
  ·rename_i hgr
   have ho:=r.floats x hx
   unfold q01l at ho
   simp only [Zb,decide_eq_true_eq] at ho
   exact ⟨by omega,by omega,by omega⟩
  ·obtain ⟨y,hy,rfl⟩:=ZJ.1 hx
   have ho:=r.floats y hy
   unfold q01l at ho
   simp only [Zb,decide_eq_true_eq] at ho
   have b:=q09l (n:=y.h) (s:=j.g.grid) (by omega) (by omega) (by omega) (by omega)
   exact ⟨⟨by simp only [q01h];omega,by simp only [q01h];omega⟩,by simp only [q01h];omega,by omega⟩
 ·rw [hgr.2.2.2.2.2.1,hgr.2.2.2.2.2.2.1,hgr.2.2.2.2.2.2.2.1,hgr.2.2.2.2.2.2.2.2]
  omega
 ·rw [q0j1];omega
def sumH:List Int->Int
 |[]=>0
 |x::r=>heldN x+sumH r
theorem q14c {n:Int} (h0:0<=n) (h1:n<=1125899906842624):heldN n=n:=by unfold heldN;omega
theorem q14a: ∀(a b:List Int),sumH (a++b)=sumH a+sumH b
 |[],b=>by simp [sumH]
 |x::r,b=>by simp only [Zd,sumH,q14a r b];omega
theorem q152: ∀l:List Int,0<=sumH l
 |[]=>ZS _
 |x::r=>by have:=q152 r;have:=q0Tq x;simp only [sumH];omega
theorem q153: ∀(l:List Int) (st:Int×Int) (i:Nat),0<=st.2->st.2<=1125899906842624->(fold coS st i l).2=min (st.2+sumH l) 1125899906842624
 |[],st,i,h0,h1=>by simp only [fold,sumH];omega
 |x::r,st,i,h0,h1=>by
  have b:=q0Tq x
  have e:(coS st i x).2=min (st.2+heldN x) 1125899906842624:=by
   unfold coS addM;simp only;rw [q14c h0 h1];unfold heldN at*;omega
  have g:=q152 r
  simp only [fold]
  rw [q153 r _ _ (by omega) (by omega),e]
  simp only [sumH]
  omega
theorem q14i (o:Bool) (l:List Int):(q0Tp o l).2=min (sumH l) 1125899906842624:=by
 unfold q0Tp
 rw [q153 _ _ _ (by split<;>simp) (by split<;>simp)]
 split<;>simp
structure priced (j:Job):Prop where
 club:0<=j.g.club/\j.g.club<=1048576
 widow:0<=j.g.widow/\j.g.widow<=1048576
 split:0<=j.g.split/\j.g.split<=1048576
 pens: ∀n∈j.notes,∀x∈n.pens,0<=x/\x<=10000
theorem q15h {g:Geom} (h:geomF g=0): ∀x∈[g.club,g.widow,g.split,g.defer,g.spare],0<=x/\x<=1048576:=by
 unfold geomF at h
 repeat (split at h;omega)
 rename_i q
 exact q04b q
theorem q166 {lo hi:Int} {l:List Int} (h:bad lo hi l=false): ∀x∈l,lo<=x/\x<=hi:=by
 intro x hx
 unfold bad at h
 simp at h
 have:=h x hx
 omega
theorem q15i {j:Job} (r:Right j):priced (snapG j):=by
 have g:=q15h r.g
 have p: ∀n∈j.notes,∀x∈n.pens,0<=x/\x<=10000:=fun n hn=>by
  have:=r.notes n hn
  unfold q01o at this
  simp only [Bool.or_eq_false_iff] at this
  exact q166 this.2
 unfold snapG
 split
 ·exact ⟨g _ (by simp),g _ (by simp),g _ (by simp),p⟩
 ·refine ⟨g j.g.club (by simp),g j.g.widow (by simp),g j.g.split (by simp),fun n hn=> ?_⟩
  obtain ⟨m,hm,rfl⟩:=ZJ.1 hn
  exact p m hm
theorem q15w {L M:List Int} (h: ∀x∈M,0<=x/\x<=10000) (n:Int):0<=penF L M n/\penF L M n<=10000:=by
 unfold penF
 split
 ·rename_i q
  unfold q0bi at q
  simp at q
  exact h _ (Zp (q026 M (n-1) (by omega) (by omega)))
 ·omega
theorem q15s {j:Job} (p:priced j) (l:List Piece):0<=tornF j.notes l/\tornF j.notes l<=10000:=by
 unfold tornF
 simp only
 split
 ·omega
 ·exact q15w (p.pens _ (Zp (q026 j.notes _ (by omega) (by omega)))) _
def q148 (c:Colm):List PV:=[.int .i64 c.k,.int .i64 c.frm,.int .i64 c.to,.sl (c.notes.map q00g),.sl (c.top.map encI),.sl (c.bot.map encI)]
@[simp] theorem q16e (c:Colm):(q148 c).length=6:=rfl
abbrev vCos (l:List Colm):V:= .p (.sl (l.map q148))
def repP (p:List Piece) (v:V) (H:Heap) (B:List Nat):Prop:=
 (v=q00v p/\B=[])\/ ∃id,v= .row id p.length 0 p.length/\Eng.rowAt H id=some (3,upV (p.map q00g))/\B=[id]
theorem q0Cx (l:List Note) (s:Spot) (hl:l.length<=1000000) (hn:s.note<=1000000) (H:Heap):clD EE (.p (.fn 338)) [vSpot s,q00b l] H=some (vI (openN l s),none):=by
 rw [q002 _ _ _ _ _ _ (noP _) fn338]
 unfold openN
 by_cases c1:s.note<0
 ·simp [zEc,c1]
 ·by_cases c2:s.line<0
  ·simp [zEc,c1,c2]
  ·have w:IntKind.i64.wrap (max (min s.begun l.length) 0-s.note)=max (min s.begun l.length) 0-s.note:=w64 (by omega) (by omega)
   have e:(((max (max (min s.begun (l.length:Int)) 0-s.note) 0).toNat:Nat):Int)=max (max (min s.begun (l.length:Int)) 0-s.note) 0:=by omega
   simp [zEc,c1,c2,w]
abbrev cSpot (s:Spot):List V:=[vI s.note,vI s.line,vI s.begun,vB s.fresh]
def allV (p:Nat):V:= .fn (.func 337) [] [.ptr (p+1) 0,.ptr p 0]
@[simp] theorem q0Nw (p:Nat):V.notL (allV p)=true:=_root_.id rfl
@[simp] theorem q0Jf (p k:Nat):q00s (allV p) k=true:=_root_.id rfl
@[simp] theorem q0Nx (p:Nat):V.outB (allV p)=true:=_root_.id rfl
@[simp] theorem q0Ny (p:Nat):outL (allV p)=allV p:=_root_.id rfl
@[simp] theorem q0Jg (p:Nat):normA (allV p)=allV p:=_root_.id rfl
theorem q0dc (l:List Note) (s:Spot) (H:Heap):clD EE (.p (.fn 272)) [q00b l,vSpot s] H=some (allV H.length,some (H++[.box [q00b l],.box (cSpot s)],[])):=by
 rw [q002 _ _ _ _ _ _ (noP _) fn272]
 simp [zEc,allV]
def q03y (s:Spot) (acc:List Piece) (i:Nat) (x:Note):List Piece:=acc++[⟨s.note+i,if i=0 then s.line else 0,x.lines.length⟩]
theorem q0dd (l:List Note) (s:Spot): ∀(k i:Nat) (acc:List Piece),i≠0->0<=s.note->s.note+i+k<=l.length->fold (q03y s) acc i ((l.drop (s.note+i).toNat).take k)=acc++q01j l k (s.note+i) 0
 |0,i,acc,_,_,_=>by simp [fold,q01j]
 |k+1,i,acc,hi,h0,h=>by
  have hlt:(s.note+i).toNat<l.length:=by omega
  have hx:=q026 l (s.note+i) (by omega) (by omega)
  have hd:l.drop (s.note+i).toNat=rd l (s.note+i)::l.drop (s.note+i+1).toNat:=by
   rw [ZA hlt]
   have e:l[(s.note+i).toNat]=rd l (s.note+i):=by
    rw [Zl hlt] at hx;simpa using hx
   rw [e,show (s.note+i).toNat+1=(s.note+i+1).toNat by omega]
  have ih:=q0dd l s k (i+1) (q03y s acc i (rd l (s.note+i))) (by omega) h0 (by push_cast;omega)
  rw [hd,ZZ,fold]
  rw [show (s.note+i+1).toNat=(s.note+(i+1:Nat)).toNat by push_cast;rw [Int.add_assoc],ih]
  unfold q03y
  rw [if_neg hi,q01j,Zx,List.singleton_append]
  rw [show s.note+((i+1:Nat):Int)=s.note+i+1 by push_cast;omega]
theorem q0ft (l:List Note) (s:Spot) (k:Nat) (h0:0<=s.note) (h:s.note+k<=l.length):fold (q03y s) [] 0 ((l.drop s.note.toNat).take k)=q01j l k s.note s.line:=by
 cases k with
 |zero=>simp [fold,q01j]
 |succ k=>
  have hlt:s.note.toNat<l.length:=by omega
  have hx:=q026 l s.note (by omega) (by omega)
  have hd:l.drop s.note.toNat=rd l s.note::l.drop (s.note+(1:Nat)).toNat:=by
   rw [ZA hlt]
   have e:l[s.note.toNat]=rd l s.note:=by
    rw [Zl hlt] at hx;simpa using hx
   rw [e,show s.note.toNat+1=(s.note+(1:Nat)).toNat by omega]
  rw [hd,ZZ,fold,q0dd l s k 1 _ (by omega) h0 (by push_cast at*;omega)]
  unfold q03y
  rw [if_pos rfl,q01j]
  simp
def alE (q p n:Nat) (s:Spot) (seg:List Note) (G:Heap) (B:Nat) (d:List Nat) (acc:List Piece) (i:Nat):St:=
 ⟨[(0,.yld q),(1,.ptr (p+1) 0),(2,.ptr p 0),(4,vI n),(5,.row G.length acc.length 0 acc.length),(6,vI (if i=0 then s.line else 0)),(42,q00b seg),(43,vI seg.length),(44,vI i)],[],G++[.row 3 (upV (acc.map q00g))],B,d⟩
def alX (q p n:Nat) (s:Spot) (seg:List Note) (G:Heap) (B:Nat) (d:List Nat) (acc:List Piece):Ex×St:=
 (.exit 0,⟨[(0,.yld q),(1,.ptr (p+1) 0),(2,.ptr p 0),(4,vI n),(5,.row G.length acc.length 0 acc.length),(6,vI (if seg.length=0 then s.line else 0)),(42,q00b seg),(43,vI seg.length),(44,vI seg.length),(45,vB false)],[],G++[.row 3 (upV (acc.map q00g))],B,d⟩)
theorem q0Ey (q p n:Nat) (s:Spot) (hs:0<=s.note/\s.note<=1000000) (seg:List Note) (hl:seg.length<=1000000) (hn: ∀x∈seg,x.lines.length<=1000000) (G:Heap) (B:Nat) (hB:B<=G.length) (d:List Nat) (b2:Eng.boxAt G (p+1)=some (cSpot s)):
  evD EE q0p1 (alE q p n s seg G B d [] 0)=some (alX q p n s seg G B d (fold (q03y s) [] 0 seg)):=by
 unfold q0p1
 refine Eq.trans (q00u seg (fun acc i=>alE q p n s seg G B d acc i) (fun acc i=>acc.length=i) (q03y s) (fun acc=>alX q p n s seg G B d acc) (fun _ _=>rfl) ?_ ?_ [] 0 rfl (Zj _)) (by rw [ZG])
 ·rintro acc i x hi hx
  refine ⟨?_,by simp [q03y,hi]⟩
  have hlt:=(Za.1 hx).1
  have w:IntKind.i64.wrap ((i:Int)+1)=((i+1:Nat):Int):=w64 (by omega) (by omega)
  have w2:IntKind.i64.wrap (s.note+(i:Int))=s.note+i:=w64 (by omega) (by omega)
  have hix:=fun H k=>q00c H q00e (k:=k) (s:=2) hx rfl
  simp only [q00e] at hix
  have hb:=fun T=>(q077 T (q02y b2)).trans b2
  have hm:acc.length+1<most:=by unfold most;omega
  have hd:addD B G.length d=d:=by unfold addD;rw [if_neg (by omega)]
  simp [alE,hlt,hix,hb,subs,q001,w,w2,hm,hd,hB,q03y,q00g]
 ·rintro acc hi
  simp [alE,alX]
def bE (q id k:Nat) (frm last:Int) (T:List Int) (B:Nat) (H:Heap) (d:List Nat) (i:Nat):St:=
 ⟨[(0,.yld q),(5,.row id k 0 k),(6,vI frm),(9,vI last),(72,sli T),(73,vI T.length),(74,vI i)],[],H,B,d⟩
structure Came (R:Nat->List Nat->Heap->Prop) (A:List Nat) (H0:Heap) (q c:Nat) (A':List Nat) (H':Heap) (d:List Nat):Prop where
 r:R c A' H'
 keep:Keep A H0 H'
 sub: ∀k∈A',k∈A\/H0.length<=k
 dirty: ∀k∈d,k∈A\/H0.length<=k
 q:q∈d\/(c=0/\A'=A)
def bR (R:Nat->List Nat->Heap->Prop) (A:List Nat) (H0:Heap) (q id c0:Nat) (w:List Piece) (frm last:Int) (T:List Int) (i:Nat) (S:St):Prop:=
 ∃A' H' d,S=bE q id w.length frm last T H0.length H' d i/\Came R A H0 q (c0+i) A' H' d/\Eng.rowAt H' id=some (3,upV (w.map q00g))/\id∉A'
def bF (R:Nat->List Nat->Heap->Prop) (F:List Nat->Heap->Prop) (A:List Nat) (H0:Heap) (q c:Nat) (r:Ex×St):Prop:=
 ∃A' H' d env,(r=(.exit 2,⟨env,[],H',H0.length,d⟩)/\Came R A H0 q c A' H' d)\/(r=(.ret,⟨env,[],H',H0.length,d⟩)/\F A' H'/\Keep A H0 H'/\(∀k∈A',k∈A\/H0.length<=k)/\(∀k∈d,k∈A\/H0.length<=k)/\q∈d)
theorem q0nb {P:Nat->Prop} {B:Nat} {ds d:List Nat} (h1: ∀k∈ds,P k) (h2: ∀k∈d,P k): ∀k∈ds.foldr (addD B) d,P k:=fun k hk=>by
 rcases q06d hk with h|h
 ·exact h1 k h
 ·exact h2 k h
theorem b_lp (L:List (List Piece)) (R:Nat->List Nat->Heap->Prop) (F:List Nat->Heap->Prop) (q:Nat) (he:Eats repP q L R F) (A:List Nat) (H0:Heap) (hq:q<H0.length) (id c0:Nat) (w:List Piece) (hw:w.length<=1000000) (frm last:Int) (T:List Int) (hT:T.length<=10000000)
  (hL: ∀i t,T[i]? =some t->L[c0+i]? =some (w++[⟨last,frm,t⟩])) (S:St) (hS:bR R A H0 q id c0 w frm last T 0 S):
  ∃r,evD EE q0Wm S=some r/\bF R F A H0 q (c0+T.length) r:=by
 unfold q0Wm
 refine q0vo T (bR R A H0 q id c0 w frm last T) (bF R F A H0 q (c0+T.length)) (by rintro i S ⟨A',H',d,rfl,-⟩;rfl) ?_ ?_ _ 0 S rfl hS (Zj _)
 ·rintro i x S ⟨A',H',d,rfl,hC,hr,hid⟩ hx
  have hlt:=(Za.1 hx).1
  have w1:IntKind.i64.wrap ((i:Int)+1)=((i+1:Nat):Int):=w64 (by omega) (by omega)
  have hix:=fun H k=>q00c H encI (k:=k) (s:=1) hx rfl
  simp only [encI] at hix
  have hbel:=he.bel _ _ _ hC.r
  have hidl:=q09d hr
  have hH0:=hC.keep.1
  have hr2:Eng.rowAt (H'++[.row 3 (upV ((w++[(⟨last,frm,x⟩:Piece)]).map q00g))]) H'.length=some (3,upV ((w++[(⟨last,frm,x⟩:Piece)]).map q00g)):=by simp [Eng.rowAt]
  obtain ⟨b,H3,ds,A3,hc,hqd,k3,d3,s3,ht,hf⟩:=he.step (c0+i) A' _ _ (.row H'.length (w++[(⟨last,frm,x⟩:Piece)]).length 0 (w++[(⟨last,frm,x⟩:Piece)]).length) [H'.length] (hL i x hx)
   (he.stay _ _ _ _ hC.r (Stay.app _ _ [.row 3 (upV ((w++[(⟨last,frm,x⟩:Piece)]).map q00g))] hbel)) (.inr ⟨_,rfl,hr2,rfl⟩) (fun k hk=>by
    simp at hk;subst hk
    exact ⟨fun h=>by have:=hbel _ h;omega,by omega⟩)
  have kk:Keep A H0 H3:=(hC.keep.trans (Keep.app A' H' _) (fun k hk=>hC.sub k hk)).trans k3 hC.sub
  have dd: ∀k∈ds.foldr (addD H0.length) d,k∈A\/H0.length<=k:=q0nb (fun k hk=>by
   rcases d3 k hk with h|h
   ·exact hC.sub k h
   ·simp at h;omega) hC.dirty
  have ss: ∀k∈A3,k∈A\/H0.length<=k:=fun k hk=>by
   rcases s3 k hk with h|h|h
   ·exact hC.sub k h
   ·simp at h;omega
   ·simp at h;omega
  have qq:q∈ds.foldr (addD H0.length) d:=q09u hqd hq
  have hd:addD H0.length H'.length d=d:=by unfold addD;rw [if_neg (by omega)]
  have hm:w.length+1<most:=by unfold most;omega
  have h1:1<most:=by decide
  have row3:Eng.rowAt H3 id=some (3,upV (w.map q00g)):=by
   refine Keep.row k3 ?_ hid
   rw [q03h _ hidl];exact hr
  have id3:id∉A3:=fun h=>by
   rcases s3 id h with h|h|h
   ·exact hid h
   ·simp at h;omega
   ·simp at h;omega
  have hcl:=fun H=>q0f0 EE 340 3 [vI 0,vI 0,vI 0] H (.row id 0 0 0) (noP _) fn340 rfl
  have hcr: ∀y ys,w=y::ys->clD EE (.p (.fn 340)) [.row id (ys.length+1) 0 (ys.length+1)] H'=some (.row H'.length (ys.length+1) 0 (ys.length+1),some (H'++[.row 3 (upV ((y::ys).map q00g))],[])):=by
   rintro y ys rfl
   have:=q0vp EE 340 3 [vI 0,vI 0,vI 0] H' id _ (noP _) fn340 hr (by simp [upV]) (q0lk q00g 3 (fun _=>rfl) _) (by simp [upV];simp at hm;omega)
   simpa [upV] using this
  cases b with
  |true=>
   refine .inl ⟨bE q id w.length frm last T H0.length H3 (ds.foldr (addD H0.length) d) (i+1),?_,A3,H3,_,rfl,⟨ht rfl,kk,ss,dd,.inl qq⟩,row3,id3⟩
   cases w with
   |nil=>
    simp [q00g] at hc
    simp [bE,hlt,hix,subs,q001,hcl,h1,hc,w1]
   |cons y ys=>
    have hcr:=hcr y ys rfl
    simp [q00g,q04x] at hc hcr hm
    simp [bE,hlt,hix,subs,q001,hcr,hm,hd,hH0,hc,w1,q04x,okEl,show¬H'.length<H0.length by omega]
  |false=>
   refine .inr ⟨(.ret,⟨[(0,.yld q),(5,.row id w.length 0 w.length),(6,vI frm),(9,vI last),(72,sli T),(73,vI T.length),(74,vI i),(89,vB true)],[],H3,H0.length,ds.foldr (addD H0.length) d⟩),?_,by simp,A3,H3,_,_,.inr ⟨rfl,hf rfl,kk,ss,dd,qq⟩⟩
   cases w with
   |nil=>
    simp [q00g] at hc
    simp [bE,hlt,hix,subs,q001,hcl,h1,hc,w1]
   |cons y ys=>
    have hcr:=hcr y ys rfl
    simp [q00g,q04x] at hc hcr hm
    simp [bE,hlt,hix,subs,q001,hcr,hm,hd,hH0,hc,w1,q04x,okEl,show¬H'.length<H0.length by omega]
 ·rintro S ⟨A',H',d,rfl,hC,hr,hid⟩
  refine ⟨(.exit 2,⟨[(0,.yld q),(5,.row id w.length 0 w.length),(6,vI frm),(9,vI last),(72,sli T),(73,vI T.length),(74,vI T.length),(75,vB false)],[],H',H0.length,d⟩),?_,by simp,A',H',d,_,.inl ⟨rfl,hC⟩⟩
  simp [bE]
theorem q0Ez (l:List Note) (a:Int) (n:Nat) (H:Heap) (h0:0<=a) (h:a+n<=l.length) (hn:1<=n):
  slcI H 2 (q00b l) (some (vI a)) (some (vI (a+n-1)))=some (q00b ((l.drop a.toNat).take (n-1))):=by
 have e:(a+n-1-a).toNat=n-1:=by omega
 have hh:q066 2 (l.map q00e)=true:=by cases l<;>rfl
 have g:a<=a+n-1:=by omega
 have g2:a+n-1<=(l.length:Int):=by omega
 simp [slcI,slcV,e,hh,h0,g,g2,List.map_take,List.map_drop]
theorem q0zf {R:Nat->List Nat->Heap->Prop} {F:List Nat->Heap->Prop} {L:List (List Piece)} {q:Nat} (he:Eats repP q L R F) {A A1:List Nat} {H H1:Heap} {c:Nat} {d:List Nat} (h:Came R A H q c A1 H1 d) (o:DObj):Came R A H q c A1 (H1++[o]) d:=
 ⟨he.stay _ _ _ _ h.r (Stay.app _ _ _ (he.bel _ _ _ h.r)),h.keep.trans (Keep.app A1 H1 [o]) h.sub,h.sub,h.dirty,h.q⟩
theorem q0a5 (l:List Note) (s:Spot) (hl:l.length<=1000000) (hx: ∀n∈l,n.lines.length<=1000000) (hb:s.begun<=l.length) (hn:0<=s.note) (hn2:s.note<=1000000) (hli:0<=s.line) (p q:Nat)
  {R:Nat->List Nat->Heap->Prop} {F:List Nat->Heap->Prop} {A:List Nat} {H:Heap} (he:Eats repP q (q00j l s) R F) (h0:R 0 A H) (hq:q<H.length)
  (b1:Eng.boxAt H p=some [q00b l]) (b2:Eng.boxAt H (p+1)=some (cSpot s)) (a1:p∉A) (a2:p+1∉A):
  ∃r,clD EE (allV p) [.yld q] H=some (.tup [],r)/\Gave (q00j l s) R F A H r:=by
 have op:=fun H=>q0Cx l s hl hn2 H
 have e:=q08w hb hn hli
 have hch:q00j l s=(if openN l s=0\/s.fresh=false then [[]] else [])++if openN l s=0 then [] else (q01k (rd l (lastP s (openN l s))) (fromP s (openN l s))).map (oneP l s (openN l s)):=rfl
 have first:(openN l s=0\/s.fresh=false)-> ∃b H' ds A',clD EE (.yld q) [.p (.sl [])] H=some (vB b,some (H',ds))/\q∈ds/\Keep A H H'/\(∀k∈ds,k∈A\/H.length<=k)/\(∀k∈A',k∈A\/H.length<=k)/\(b=true->R 1 A' H')/\(b=false->F A' H'):=by
  intro c
  have hL:(q00j l s)[0]? =some []:=by rw [hch,if_pos c];rfl
  obtain ⟨b,H',ds,A',g1,g2,g3,g4,g5,g6,g7⟩:=he.step 0 A H [] (q00v []) [] hL h0 (.inl ⟨rfl,rfl⟩) (by simp)
  exact ⟨b,H',ds,A',g1,g2,g3,g4,fun k hk=>by have:=g5 k hk;simpa using this,g6,g7⟩
 rw [allV,q02m,q002 _ _ _ _ _ _ (noP _) fn337]
 generalize hN:openN l s=n at*
 have ne_of: ∀ {ds:List Nat},q∈ds-> ¬ds.foldr (addD H.length) []=[]:=fun hd h0=>by
  have:=q09u (B:=H.length) (d:=[]) hd hq
  rw [h0] at this;cases this
 by_cases c0:n=0
 ·subst c0
  obtain ⟨b,H',ds,A',g1,g2,g3,g4,g5,g6,g7⟩:=first (.inl rfl)
  have hlen:(q00j l s).length=1:=by rw [hch];simp
  refine ⟨some (H',ds.foldr (addD H.length) []),?_,A',g3,fun k hk=> ?_,g5,?_⟩
  ·cases b<;>simp [zEc,b1,b2,op,g1,ne_of g2]
  ·rcases q06d hk with h|h
   ·exact g4 k h
   ·cases h
  ·rw [hlen]
   cases b with
   |true=>exact .inl (g6 rfl)
   |false=>exact .inr (g7 rfl)
 ·have hlt:s.note<s.begun:=by omega
  have hnn:(n:Int)=s.begun-s.note:=by omega
  have hlast:=q0pv hlt
  rw [<-e] at hlast
  have hlastN:s.note+n-1=s.begun-1:=by omega
  obtain ⟨seg,hseg⟩: ∃seg,seg=(l.drop s.note.toNat).take (n-1):=⟨_,rfl⟩
  have hsl:seg.length=n-1:=by rw [hseg,ZC,List.length_drop];omega
  have slc:=fun H=>q0Ez l s.note n H hn (by omega) (by omega)
  rw [<-hseg] at slc
  have hwf:=q0ft l s (n-1) hn (by omega)
  rw [<-hseg] at hwf
  have hfr:(if seg.length=0 then s.line else 0)=fromP s n:=by
   unfold fromP
   by_cases z:n=1
   ·rw [if_pos z,if_pos (by omega)]
   ·rw [if_neg z,if_neg (by omega)]
  have hfr2:(if seg=[] then s.line else 0)=fromP s n:=by
   rw [<-hfr]
   by_cases z:seg=[]
   ·rw [if_pos z,z];rfl
   ·rw [if_neg z,if_neg (fun h=>z (List.eq_nil_of_length_eq_zero h))]
  have hrl:=q026 l (s.note+n-1) (by omega) (by omega)
  have hix:=fun H k=>q024 H q00e (k:=k) (s:=2) (show 0<=s.note+n-1 by omega) hrl rfl
  simp only [q00e] at hix
  have hrm:rd l (s.note+n-1)∈l:=q05a (by omega) (by omega)
  have hst: ∀f H,clD EE (.p (.fn 339)) [vNote (rd l (s.note+n-1)),vI f] H=some (sli (q01k (rd l (s.note+n-1)) f),none):=fun f H=>by
   have:=q0ye (rd l (s.note+n-1)).lines (rd l (s.note+n-1)).pens f H (hx _ hrm)
   rw [q0r6] at this
   exact this
  have hTl:(q01k (rd l (s.note+n-1)) (fromP s n)).length<=10000000:=by
   have h1:=q0cd (q02f (rd l (s.note+n-1)).lines (rd l (s.note+n-1)).pens (fromP s n)) ((rd l (s.note+n-1)).lines.length+1) 0
   have:=hx _ hrm
   unfold q01k;omega
  have hch2:q00j l s=(if s.fresh=false then [[]] else [])++(q01k (rd l (s.note+n-1)) (fromP s n)).map (oneP l s n):=by
   rw [hch,if_neg c0]
   congr 1
   by_cases z:s.fresh=false
   ·rw [if_pos (.inr z),if_pos z]
   ·rw [if_neg (fun h=>h.elim c0 z),if_neg z]
  have hsegl:seg.length<=1000000:=by rw [hsl];omega
  have hsegx: ∀x∈seg,x.lines.length<=1000000:=fun x h=>hx x (by rw [hseg] at h;exact List.mem_of_mem_drop (Z6 h))
  have hwl:(q01j l (n-1) s.note s.line).length<=1000000:=by
   have: ∀(k:Nat) (a b:Int),(q01j l k a b).length=k:=by
    intro k
    induction k with
    |zero=>intro a b;rfl
    |succ k ih=>intro a b;simp [q01j,ih]
   rw [this];omega
  have rest: ∀(c:Nat) (A1:List Nat) (H1:Heap) (d:List Nat),Came R A H q c A1 H1 d->(q00j l s).length=c+(q01k (rd l (s.note+n-1)) (fromP s n)).length->
    (∀i t,(q01k (rd l (s.note+n-1)) (fromP s n))[i]? =some t->(q00j l s)[c+i]? =some (oneP l s n t))->
    evD EE q0p1 (alE q p n s seg H1 H.length d [] 0)=some (alX q p n s seg H1 H.length d (q01j l (n-1) s.note s.line))/\
    ∃r,evD EE q0Wm (bE q H1.length (q01j l (n-1) s.note s.line).length (fromP s n) (s.note+n-1) (q01k (rd l (s.note+n-1)) (fromP s n)) H.length (H1++[.row 3 (upV ((q01j l (n-1) s.note s.line).map q00g))]) d 0)=some r/\bF R F A H q (q00j l s).length r/\
     (∀T,Eng.boxAt (H1++T) p=some [q00b l])/\ ∀T,Eng.boxAt (H1++T) (p+1)=some (cSpot s):=by
   intro c A1 H1 d hC hlen hL
   have hb1:=hC.keep.box b1 a1
   have hb2:=hC.keep.box b2 a2
   refine ⟨?_,?_⟩
   ·have:=q0Ey q p n s ⟨hn,hn2⟩ seg hsegl hsegx H1 H.length hC.keep.1 d hb2
    rw [hwf] at this
    exact this
   ·have hC2:=q0zf he hC (.row 3 (upV ((q01j l (n-1) s.note s.line).map q00g)))
    obtain ⟨r,h1,h2⟩:=b_lp (q00j l s) R F q he A H hq H1.length c (q01j l (n-1) s.note s.line) hwl (fromP s n) (s.note+n-1) (q01k (rd l (s.note+n-1)) (fromP s n)) hTl
     (fun i t ht=>hL i t ht) _ ⟨A1,_,d,rfl,hC2,by simp [Eng.rowAt],fun h=>by have:=he.bel _ _ _ hC.r _ h;omega⟩
    rw [<-hlen] at h2
    exact ⟨r,h1,h2,fun T=>(q077 T (q02y hb1)).trans hb1,fun T=>(q077 T (q02y hb2)).trans hb2⟩
  have w1:IntKind.i64.wrap (s.note+n)=s.note+n:=w64 (by omega) (by omega)
  have w2:IntKind.i64.wrap (s.note+n-1)=s.note+n-1:=w64 (by omega) (by omega)
  have fin: ∀r,bF R F A H q (q00j l s).length r-> ∃(A':List Nat) (H':Heap) (d:List Nat) (env:List (Nat×V)),(r=(.exit 2,⟨env,[],H',H.length,d⟩)\/r=(.ret,⟨env,[],H',H.length,d⟩))/\Gave (q00j l s) R F A H (if d=[] then none else some (H',d)):=by
   rintro r ⟨A',H',d,env,⟨rfl,hC⟩|⟨rfl,h1,h2,h3,h4,h5⟩⟩
   ·refine ⟨A',H',d,env,.inl rfl,?_⟩
    by_cases z:d=[]
    ·rw [if_pos z]
     rcases hC.q with h|⟨h,-⟩
     ·rw [z] at h;cases h
     ·exact ⟨A,Keep.refl _ _,(fun k hk=>nomatch hk),fun k hk=> .inl hk,.inl (by rw [h];exact h0)⟩
    ·rw [if_neg z]
     exact ⟨A',hC.keep,hC.dirty,hC.sub,.inl hC.r⟩
   ·refine ⟨A',H',d,env,.inr rfl,?_⟩
    have z:d≠[]:=fun z=>by rw [z] at h5;cases h5
    rw [if_neg z]
    exact ⟨A',h2,h4,h3,.inr h1⟩
  have hcn: ¬(n:Int)=0:=by omega
  by_cases fr:s.fresh=false
  ·have op: ∀H,clD EE (.p (.fn 338)) [.agg [vI s.note,vI s.line,vI s.begun,vB false],q00b l] H=some (vI n,none):=fun H=>by rw [<-fr];exact op H
   obtain ⟨b,H',ds,A',g1,g2,g3,g4,g5,g6,g7⟩:=first (.inr fr)
   cases b with
   |false=>
    refine ⟨some (H',ds.foldr (addD H.length) []),?_,A',g3,fun k hk=> ?_,g5,.inr (g7 rfl)⟩
    ·simp [zEc,b1,b2,op,g1,ne_of g2,c0,hcn,fr]
    ·rcases q06d hk with h|h
     ·exact g4 k h
     ·cases h
   |true=>
    have hC:Came R A H q 1 A' H' (ds.foldr (addD H.length) []):=⟨g6 rfl,g3,g5,q0nb g4 (fun k hk=>nomatch hk),.inl (q09u g2 hq)⟩
    obtain ⟨k0,r,k1,k2,k3,k4⟩:=rest 1 A' H' _ hC (by rw [hch2,if_pos fr];simp;omega) (fun i t ht=>by rw [hch2,if_pos fr,ZD (by simp)];simp [ht])
    obtain ⟨A2,H2,d2,env,hr,hG⟩:=fin r k2
    refine ⟨_,?_,hG⟩
    rcases hr with rfl|rfl<;>
    ·simp [alE,alX,bE,hfr2] at k0 k1
     simp [zEc,b1,b2,op,g1,c0,hcn,fr,k0,k1,k3,k4,w1,w2,slc,hix,hst]
  ·have op: ∀H,clD EE (.p (.fn 338)) [.agg [vI s.note,vI s.line,vI s.begun,vB true],q00b l] H=some (vI n,none):=fun H=>by rw [<-(show s.fresh=true by simpa using fr)];exact op H
   have hC:Came R A H q 0 A H []:=⟨h0,Keep.refl _ _,fun k hk=> .inl hk,(fun k hk=>nomatch hk),.inr ⟨rfl,rfl⟩⟩
   obtain ⟨k0,r,k1,k2,k3,k4⟩:=rest 0 A H _ hC (by rw [hch2,if_neg fr];simp) (fun i t ht=>by rw [hch2,if_neg fr];simp [ht])
   obtain ⟨A2,H2,d2,env,hr,hG⟩:=fin r k2
   refine ⟨_,?_,hG⟩
   rcases hr with rfl|rfl<;>
   ·simp [alE,alX,bE,hfr2] at k0 k1
    simp [zEc,b1,b2,op,c0,hcn,fr,k0,k1,k3,k4,w1,w2,slc,hix,hst]
structure spotB (l:List Note) (s:Spot):Prop where
 l1:l.length<=1000000
 l2: ∀n∈l,n.lines.length<=1000000
 b:s.begun<=l.length
 n0:0<=s.note
 n1:s.note<=1000000
 li:0<=s.line
def lsEnv (h:Nat):List (Nat×V):=[(4,.ptr h 0),(8,allV (h+1))]
def q06a (st:LSt) (h:Nat):DObj:= .loop st (lsEnv h) [9] q0Vt q0Vu
def lsR (h:Nat) (i:Nat) (A:List Nat) (H:Heap):Prop:=i=0/\A=[h,h+3]/\h+3<H.length/\H[h+3]? =some (q06a .ready h)/\Eng.boxAt H h=some [.nils]
def lsF (L:List (List Piece)) (h:Nat) (A:List Nat) (H:Heap):Prop:= ∃p v B,L[0]? =some p/\repP p v H B/\(∀k∈B,h<=k)/\H[h+3]? =some (q06a (.done .ret) h)/\Eng.boxAt H h=some [v]/\h+3<H.length
theorem q07p {p:List Piece} {v:V} {H K:Heap} {B:List Nat} (h:repP p v H B) (g:Stay B H K):repP p v K B:=by
 rcases h with h|⟨id,h1,h2,rfl⟩
 ·exact .inl h
 ·exact .inr ⟨id,h1,g.row h2 (by simp),rfl⟩
theorem q0lp {p:List Piece} {v:V} {H:Heap} {B:List Nat} (h:repP p v H B):v.oneB=true/\v.cells=[v]/\v.notL=true/\outL v=v/\v.outB=true/\normA v=v:=by
 rcases h with ⟨rfl,-⟩|⟨id,rfl,-,-⟩<;>exact ⟨rfl,rfl,rfl,rfl,rfl,rfl⟩
theorem q0Bb (L:List (List Piece)) (h:Nat):Eats repP (h+3) L (lsR h) (lsF L h):=by
 refine ⟨?_,?_,?_⟩
 ·rintro i A H K ⟨rfl,rfl,h1,h2,h3⟩ g
  exact ⟨rfl,rfl,by have:=g.1;omega,by rw [g.2 _ (by simp)];exact h2,g.box h3 (by simp)⟩
 ·rintro i A H ⟨rfl,rfl,h1,h2,h3⟩ k hk
  have:=q02y h3
  simp at hk;omega
 ·rintro i A H x v B hL ⟨rfl,rfl,h1,h2,h3⟩ hr hB
  obtain ⟨o1,o2,o3,o4,o5,o6⟩:=q0lp hr
  have hh:=q02y h3
  have ne:h+3≠h:=by omega
  have b2: ∀o,Eng.boxAt (H.set (h+3) o) h=some [.nils]:=fun o=>(q01p H (h+3) h o ne).trans h3
  refine ⟨false,((H.set (h+3) (q06a .busy h)).set h (.box [v])).set (h+3) (q06a (.done .ret) h),[h,h+3],[h,h+3]++B,?_,by simp,?_,fun k hk=> .inl hk,fun k hk=> ?_,(fun e=>nomatch e),fun _=> ?_⟩
  ·have hs2: ∀o:DObj,((H.set (h+3) (q06a .busy h)).set h o)[h+3]? =some (q06a .busy h):=fun o=>by
    rw [Zr (by omega)];exact ZX h1
   refine q0e5 h2 rfl (env1:=[(4,.ptr h 0),(5,v)]) (loc1:=[]) ?_ (x:= .ret) (env2:=[(4,.ptr h 0)]) (loc2:=[]) (d2:=[h,h+3]) ?_ (hs2 _)
   ·simp [lsEnv,q0Vt]
   ·simp [q0Vu,o1,o2,b2,q001,hh]
    rfl
  ·exact ((Keep.set _ _ _ _ (.inl (by simp))).trans (Keep.set [h,h+3] _ _ _ (.inl (by simp))) (fun k hk=> .inl hk)).trans (Keep.set [h,h+3] _ _ _ (.inl (by simp))) (fun k hk=> .inl hk)
  ·simp only [ZY] at hk
   exact hk.imp id .inl
  ·refine ⟨x,v,B,hL,?_,fun k hk=> ?_,?_,?_,by simpa using h1⟩
   ·refine q07p hr ⟨by simp,fun k hk=> ?_⟩
    have:=hB k hk
    simp at this
    rw [Zr (by omega),Zr (by omega),Zr (by omega)]
   ·have:=(hB k hk).2;omega
   ·exact ZX (by simpa using h1)
   ·rw [q01p _ _ _ _ (by omega)]
    exact q07o _ _ _ (by simpa using hh)
theorem q0a2 (l:List Note) (s:Spot) (o:spotB l s) (H:Heap):clD EE (.p (.fn 260)) [q00b l,vSpot s] H=some (q00v (q05q l s),none):=by
 have al:=fun H=>q0dc l s H
 obtain ⟨H1,hH1⟩: ∃H1,H1=H++[DObj.box [.nils],.box [q00b l],.box (cSpot s)]:=⟨_,rfl⟩
 have hl1:H1.length=H.length+3:=by simp [hH1]
 have e0:lsR H.length 0 [H.length,H.length+3] (H1++[q06a .ready H.length]):=by
  refine ⟨rfl,rfl,by simp [hl1],?_,?_⟩
  ·rw [<-hl1];simp
  ·simp [hH1,Zx]
 obtain ⟨r,h1,A',hk,hd,hs,hR⟩:=q0a5 l s o.l1 o.l2 o.b o.n0 o.n1 o.li (H.length+1) (H.length+3) (q0Bb (q00j l s) H.length) e0 (by simp [hl1]) (by simp [hH1,Zx])
  (by rw [show H.length+1+1=H.length+2 by omega];simp [hH1,Zx]) (by simp) (by simp;omega)
 have hds:(dsOf r).foldr (addD H.length) []=[]:=q0bt fun k hk=>by
  rcases hd k hk with h|h
  ·simp at h;omega
  ·simp [hl1] at h;omega
 rw [q002 _ _ _ _ _ _ (noP _) fn260]
 have hv:(∃f,allV (H.length+1)= .p (.fn f))\/ ∃f u v,allV (H.length+1)= .fn (.func f) u v:= .inr ⟨_,_,_,rfl⟩
 have hloop:q06a .ready H.length= .loop .ready (outE [(4,.ptr H.length 0),(8,allV (H.length+1))]) [9] q0Vt q0Vu:=rfl
 rw [hloop,<-hl1] at h1
 rw [hloop] at hR
 have fin: ∀ {st e ps' a' b'},(hpOf (H1++[DObj.loop .ready (outE [(4,.ptr H.length 0),(8,allV (H.length+1))]) [9] q0Vt q0Vu]) r)[H.length+3]? =some (.loop st e ps' a' b')->st≠ .busy->
   evD EE (.rangeFunc (.t 8) [9] q0Vt q0Vu) ⟨[(4,.ptr H.length 0),(8,allV (H.length+1))],[],H++[DObj.box [.nils],.box [q00b l],.box (cSpot s)],H.length,[]⟩=
    some (exSt st,⟨[(4,.ptr H.length 0),(8,allV (H.length+1))],[],(hpOf (H1++[DObj.loop .ready (outE [(4,.ptr H.length 0),(8,allV (H.length+1))]) [9] q0Vt q0Vu]) r).set (H.length+3) .dead,H.length,[]⟩):=by
  intro st e ps' a' b' hq hst
  have rg:=q0n9 (env:=[(4,.ptr H.length 0),(8,allV (H.length+1))]) (loc:=[]) (hp:=H1) (base:=H.length) (dirty:=[]) (x:= .t 8) (ps:=[9]) hv rfl h1 (by rw [hl1];exact hq) hst
  rw [hds,hl1] at rg
  rw [<-hH1];exact rg
 generalize hpOf (H1++[DObj.loop .ready (outE [(4,.ptr H.length 0),(8,allV (H.length+1))]) [9] q0Vt q0Vu]) r=K at hR fin
 rcases hR with ⟨h0,-,hlt,hq,hb⟩|⟨p,v,B,hL,hr,hB,hq,hb,hlt⟩
 ·have rg:=fin hq (by simp)
  have hnil:q05q l s=[]:=by unfold q05q;rw [ZU.1 h0];rfl
  rw [hnil]
  have b2: ∀o,Eng.boxAt (K.set (H.length+3) o) H.length=some [.nils]:=fun o=>(q01p _ _ _ _ (by omega)).trans hb
  have hlt2:=q02y hb
  have b3: ∀o cs,Eng.boxAt ((K.set (H.length+3) o).set H.length (.box cs)) H.length=some cs:=fun o cs=>q07o _ _ _ (by simpa using hlt2)
  simp [zEc,al,rg,exSt,b2,b3,hlt2]
 ·have rg:=fin hq (by simp)
  have hp:q05q l s=p:=by
   unfold q05q
   cases hc:q00j l s with
   |nil=>rw [hc] at hL;cases hL
   |cons x r=>rw [hc] at hL;simpa using hL
  rw [hp]
  have b2: ∀o,Eng.boxAt (K.set (H.length+3) o) H.length=some [v]:=fun o=>(q01p _ _ _ _ (by omega)).trans hb
  rcases hr with ⟨rfl,-⟩|⟨id,rfl,h2,rfl⟩
  ·simp [zEc,al,rg,exSt,b2]
  ·have hid:H.length<=id:=hB id (by simp)
   have ne:id≠H.length+3:=by
    rintro rfl
    unfold Eng.rowAt at h2
    rw [hq] at h2;cases h2
   have hr2: ∀o,Eng.rowAt (K.set (H.length+3) o) id=some (3,upV (p.map q00g)):=fun o=>(q05l _ _ _ _ (Ne.symm ne)).trans h2
   simp [zEc,al,rg,exSt,b2,hr2,hid]
section
variable {α:Type} [DecidableEq α] {E:Env} (f:FuncId) (s:Nat) (sh:List Bool) (enc:α->List PV)
theorem q0Ds (hp:E.prims f=none) (hf:E.fns f=some (eqI s sh)) (hs: ∀x,(enc x).length=s) (hagg: ∀x,aggOr true ((enc x).map .p)=some (.agg ((enc x).map .p))) (heq: ∀x y,q00h sh ((enc x).map .p) ((enc y).map .p)=some (decide (x=y)))
  (a b:List α) (hn:a.length<=9223372036854775806) (H:Heap) (id:Nat) (hr:Eng.rowAt H id=some (s,upV (a.map enc))):clD E (.p (.fn f)) [.row id a.length 0 a.length,.p (.sl (b.map enc))] H=some (vB (decide (a=b)),none):=by
 rw [q002 E f _ _ _ _ hp hf]
 by_cases hl:a.length=b.length
 ·have key:evD E (eqL s sh) (eqE (.row id a.length 0 a.length) (.p (.sl (b.map enc))) a.length H H.length 0)=some (rng (step2 (fun x y=>decide (x=y)) b (eqBad H H.length)) (fun _=>eqX (.row id a.length 0 a.length) (.p (.sl (b.map enc))) a.length H H.length) () 0 a):=by
   unfold eqL
   refine q013 a (fun (_:Unit) i=>eqE (.row id a.length 0 a.length) (.p (.sl (b.map enc))) a.length H H.length i) (fun _ _=>True) _ (fun _=>eqX (.row id a.length 0 a.length) (.p (.sl (b.map enc))) a.length H H.length) (fun _ _=>rfl) ?_ ?_ () 0 trivial (Zj _)
   ·rintro _ i x-hx
    have hlt:=(Za.1 hx).1
    have hy:b[i]? =some (b[i]'(by omega)):=Zl (by omega)
    generalize (b[i]'(by omega))=y at hy
    have w:IntKind.i64.wrap ((i:Int)+1)=((i+1:Nat):Int):=w64 (by omega) (by omega)
    have hix:=fun k=>q01f H id a.length 0 a.length s k i
    have hg2:(upV (a.map enc))[i]? =some ((enc x).map .p):=by simp [upV,hx]
    have hg: ∀h,(upV (a.map enc))[i]'h=(enc x).map .p:=fun h=>by rw [Zl h] at hg2;exact Option.some.inj hg2
    have hiy:=fun H k=>q00c H enc (k:=k) (s:=s) hy (hs y)
    have hsub: ∀x,subs ((enc x).map V.p) 0 s=some ((enc x).map V.p):=fun x=>by simp [subs,hs x,Zy]
    rw [q04n hy]
    by_cases hxy:x=y
    ·simp [eqE,hlt,hix,hr,hg,hiy,hsub,hagg,heq,hxy,w]
    ·simp [eqE,eqBad,hlt,hix,hr,hg,hiy,hsub,hagg,heq,hxy]
   ·rintro _-
    simp [eqE,eqX]
  rw [q05w (fun x y=>decide (x=y)) b (eqBad H H.length) (eqX (.row id a.length 0 a.length) (.p (.sl (b.map enc))) a.length H H.length) a 0 (by omega),ZG,q06s a b hl] at key
  have hl':(a.length:Int)=b.length:=by omega
  by_cases h:a=b
  ·rw [if_pos (by simpa using h)] at key
   subst h
   simp [eqE,eqX] at key
   simp [zEa,key]
  ·rw [if_neg (by simpa using h)] at key
   have hl2:(b.length:Int)=a.length:=hl'.symm
   simp [eqE,eqBad] at key
   simp [zEa,hl2,key,h]
 ·have hl': ¬(a.length:Int)=b.length:=by omega
  have h:a≠b:=by rintro rfl;exact hl rfl
  simp [zEa,hl',h]
end
def syEnv (h:Nat):List (Nat×V):=[(5,.ptr h 0),(6,.ptr (h+1) 0),(10,allV (h+2))]
def q06b (st:LSt) (h:Nat):DObj:= .loop st (syEnv h) [11] q0Vq q0Vr
def syR (L:List (List Piece)) (x:List Piece) (h:Nat) (i:Nat) (A:List Nat) (H:Heap):Prop:=
 A=[h,h+1,h+4]/\h+4<H.length/\H[h+4]? =some (q06b .ready h)/\Eng.boxAt H h=some [q00v x]/\Eng.boxAt H (h+1)=some [vB false]/\ ∀k p,k<i->L[k]? =some p->p≠x
def syF (L:List (List Piece)) (x:List Piece) (h:Nat) (A:List Nat) (H:Heap):Prop:=
 A=[h,h+1,h+4]/\h+4<H.length/\H[h+4]? =some (q06b (.done .ret) h)/\Eng.boxAt H (h+1)=some [vB true]/\x∈L
theorem q0ww (p x:List Piece) (v:V) (H:Heap) (B:List Nat) (h:repP p v H B) (hp:p.length<=1000000):clD EE (.p (.fn 198)) [v,q00v x] H=some (vB (decide (p=x)),none):=by
 rcases h with ⟨rfl,-⟩|⟨id,rfl,hr,-⟩
 ·exact q0bn p x hp H
 ·rw [q002 _ _ _ _ _ _ (noP _) fn198]
  have:=q0Ds _ 3 _ q00g (noP _) q0d9 (fun _=>rfl) (fun _=>rfl) q083 p x (by omega) H id hr
  simp [zEa,this]
theorem q0Bc (L:List (List Piece)) (hL: ∀p∈L,p.length<=1000000) (x:List Piece) (h:Nat):Eats repP (h+4) L (syR L x h) (syF L x h):=by
 refine ⟨?_,?_,?_⟩
 ·rintro i A H K ⟨rfl,h1,h2,h3,h4,h5⟩ g
  exact ⟨rfl,by have:=g.1;omega,by rw [g.2 _ (by simp)];exact h2,g.box h3 (by simp),g.box h4 (by simp),h5⟩
 ·rintro i A H ⟨rfl,h1,h2,h3,h4,h5⟩ k hk
  have:=q02y h3
  simp at hk;omega
 ·rintro i A H p v B hLi ⟨rfl,h1,h2,h3,h4,h5⟩ hr hB
  obtain ⟨o1,o2,o3,o4,o5,o6⟩:=q0lp hr
  have hh:=q02y h4
  have b2: ∀o,Eng.boxAt (H.set (h+4) o) h=some [q00v x]:=fun o=>(q01p H (h+4) h o (by omega)).trans h3
  have b3: ∀o,Eng.boxAt (H.set (h+4) o) (h+1)=some [vB false]:=fun o=>(q01p H (h+4) (h+1) o (by omega)).trans h4
  have hpm:=Zp hLi
  have sm:=fun o=>q0ww p x v (H.set (h+4) o) B (q07p hr (Stay.set _ _ _ _ (fun hk=>(hB _ hk).1 (by simp)))) (hL p hpm)
  by_cases c:p=x
  ·refine ⟨false,((H.set (h+4) (q06b .busy h)).set (h+1) (.box [vB true])).set (h+4) (q06b (.done .ret) h),[h+1,h+4],[h,h+1,h+4],?_,by simp,?_,fun k hk=> .inl (by simp at hk⊢;omega),fun k hk=> .inl hk,(fun e=>nomatch e),fun _=> ?_⟩
   ·refine q0e5 h2 rfl (env1:=[(5,.ptr h 0),(6,.ptr (h+1) 0),(7,v)]) (loc1:=[]) ?_ (x:= .ret) (env2:=[(6,.ptr (h+1) 0)]) (loc2:=[]) (d2:=[h+1,h+4]) ?_ (by rw [Zr (by omega)];exact ZX h1)
    ·simp [syEnv,q0Vq]
    ·simp [q0Vr,b2,b3,sm,c,o5,o6,q001,subs,hh]
     rfl
   ·exact ((Keep.set _ _ _ _ (.inl (by simp))).trans (Keep.set [h,h+1,h+4] _ _ _ (.inl (by simp))) (fun k hk=> .inl hk)).trans (Keep.set [h,h+1,h+4] _ _ _ (.inl (by simp))) (fun k hk=> .inl hk)
   ·refine ⟨rfl,by simpa using h1,ZX (by simpa using h1),?_,c▸hpm⟩
    rw [q01p _ _ _ _ (by omega)]
    exact q07o _ _ _ (by simpa using hh)
  ·refine ⟨true,(H.set (h+4) (q06b .busy h)).set (h+4) (q06b .ready h),[h+4],[h,h+1,h+4],?_,by simp,?_,fun k hk=> .inl (by simp at hk⊢;omega),fun k hk=> .inl hk,fun _=> ?_,(fun e=>nomatch e)⟩
   ·refine q0e5 h2 rfl (env1:=[(5,.ptr h 0),(6,.ptr (h+1) 0),(7,v)]) (loc1:=[]) ?_ (x:= .normal) (env2:=[(6,.ptr (h+1) 0),(14,vB false)]) (loc2:=[]) (d2:=[h+4]) ?_ (ZX h1)
    ·simp [syEnv,q0Vq]
    ·simp [q0Vr,b2,b3,sm,c,o5,o6,q001,subs,hh]
     rfl
   ·exact (Keep.set _ _ _ _ (.inl (by simp))).trans (Keep.set [h,h+1,h+4] _ _ _ (.inl (by simp))) (fun k hk=> .inl hk)
   ·refine ⟨rfl,by simpa using h1,ZX (by simpa using h1),?_,?_,fun k p' hk hp'=> ?_⟩
    ·rw [q01p _ _ _ _ (by omega)];exact b2 _
    ·rw [q01p _ _ _ _ (by omega)];exact b3 _
    ·by_cases e:k=i
     ·subst e;rw [hLi] at hp';cases hp';exact c
     ·exact h5 k p' (by omega) hp'
theorem q0d0 {l:List Note} {s:Spot} (o:spotB l s): ∀p∈q00j l s,p.length<=1000000:=by
 intro p hp
 have wl: ∀(k:Nat) (a b:Int),(q01j l k a b).length=k:=by
  intro k
  induction k with
  |zero=>intro a b;rfl
  |succ k ih=>intro a b;simp [q01j,ih]
 have hn:openN l s<=1000000:=by
  rw [q08w o.b o.n0 o.li]
  have:=o.b;have:=o.n0;have:=o.l1;omega
 unfold q00j at hp
 rcases ZY.1 hp with h|h
 ·split at h
  ·simp at h;subst h;simp
  ·cases h
 ·split at h
  ·cases h
  ·obtain ⟨t,-,rfl⟩:=ZJ.1 h
   unfold oneP
   rw [Zt,wl]
   simp only [Zg,Zq]
   omega
theorem q0d1 (l:List Note) (s:Spot) (o:spotB l s) (x:List Piece) (H:Heap):clD EE (.p (.fn 186)) [q00b l,vSpot s,q00v x] H=some (vB (mayPc l s x),none):=by
 have al:=fun H=>q0dc l s H
 obtain ⟨H1,hH1⟩: ∃H1,H1=H++[DObj.box [q00v x],.box [vB false],.box [q00b l],.box (cSpot s)]:=⟨_,rfl⟩
 have hl1:H1.length=H.length+4:=by simp [hH1]
 have e0:syR (q00j l s) x H.length 0 [H.length,H.length+1,H.length+4] (H1++[q06b .ready H.length]):=by
  refine ⟨rfl,by simp [hl1],?_,?_,?_,fun k p hk=>by omega⟩
  ·rw [<-hl1];simp
  ·simp [hH1,Zx]
  ·simp [hH1,Zx]
 obtain ⟨r,h1,A',hk,hd,hs,hR⟩:=q0a5 l s o.l1 o.l2 o.b o.n0 o.n1 o.li (H.length+2) (H.length+4) (q0Bc (q00j l s) (q0d0 o) x H.length) e0 (by simp [hl1]) (by simp [hH1,Zx])
  (by rw [show H.length+2+1=H.length+3 by omega];simp [hH1,Zx]) (by simp) (by simp;omega)
 have hds:(dsOf r).foldr (addD H.length) []=[]:=q0bt fun k hk=>by
  rcases hd k hk with h|h
  ·simp at h;omega
  ·simp [hl1] at h;omega
 rw [q002 _ _ _ _ _ _ (noP _) fn186]
 have hv:(∃f,allV (H.length+2)= .p (.fn f))\/ ∃f u v,allV (H.length+2)= .fn (.func f) u v:= .inr ⟨_,_,_,rfl⟩
 have hloop:q06b .ready H.length= .loop .ready (outE [(5,.ptr H.length 0),(6,.ptr (H.length+1) 0),(10,allV (H.length+2))]) [11] q0Vq q0Vr:=rfl
 rw [hloop,<-hl1] at h1
 rw [hloop] at hR
 have fin: ∀ {st e ps' a' b'},(hpOf (H1++[DObj.loop .ready (outE [(5,.ptr H.length 0),(6,.ptr (H.length+1) 0),(10,allV (H.length+2))]) [11] q0Vq q0Vr]) r)[H.length+4]? =some (.loop st e ps' a' b')->st≠ .busy->
   evD EE (.rangeFunc (.t 10) [11] q0Vq q0Vr) ⟨[(5,.ptr H.length 0),(6,.ptr (H.length+1) 0),(10,allV (H.length+2))],[],H++[DObj.box [q00v x],.box [vB false],.box [q00b l],.box (cSpot s)],H.length,[]⟩=
    some (exSt st,⟨[(5,.ptr H.length 0),(6,.ptr (H.length+1) 0),(10,allV (H.length+2))],[],(hpOf (H1++[DObj.loop .ready (outE [(5,.ptr H.length 0),(6,.ptr (H.length+1) 0),(10,allV (H.length+2))]) [11] q0Vq q0Vr]) r).set (H.length+4) .dead,H.length,[]⟩):=by
  intro st e ps' a' b' hq hst
  have rg:=q0n9 (env:=[(5,.ptr H.length 0),(6,.ptr (H.length+1) 0),(10,allV (H.length+2))]) (loc:=[]) (hp:=H1) (base:=H.length) (dirty:=[]) (x:= .t 10) (ps:=[11]) hv rfl h1 (by rw [hl1];exact hq) hst
  rw [hds,hl1] at rg
  rw [<-hH1];exact rg
 generalize hpOf (H1++[DObj.loop .ready (outE [(5,.ptr H.length 0),(6,.ptr (H.length+1) 0),(10,allV (H.length+2))]) [11] q0Vq q0Vr]) r=K at hR fin
 rcases hR with ⟨-,hlt,hq,-,hb,hno⟩|⟨-,hlt,hq,hb,hin⟩
 ·have rg:=fin hq (by simp)
  have hm:mayPc l s x=false:=by
   cases e:mayPc l s x with
   |false=>rfl
   |true=>
    have:=(q0ja _ _ _).1 e
    obtain ⟨k,hk,rfl⟩:=List.mem_iff_getElem.1 this
    exact absurd rfl (hno k _ hk (Zl hk))
  rw [hm]
  have hlt2:=q02y hb
  have b2: ∀o,Eng.boxAt (K.set (H.length+4) o) (H.length+1)=some [vB false]:=fun o=>(q01p _ _ _ _ (by omega)).trans hb
  have b3: ∀o cs,Eng.boxAt ((K.set (H.length+4) o).set (H.length+1) (.box cs)) (H.length+1)=some cs:=fun o cs=>q07o _ _ _ (by simpa using hlt2)
  simp [zEc,al,rg,exSt,b2,b3,hlt2]
 ·have rg:=fin hq (by simp)
  rw [(q0ja _ _ _).2 hin]
  have b2: ∀o,Eng.boxAt (K.set (H.length+4) o) (H.length+1)=some [vB true]:=fun o=>(q01p _ _ _ _ (by omega)).trans hb
  simp [zEc,al,rg,exSt,b2]
def vOC (o:Option Colm):V:= .tup [vColm (o.getD q014),vB o.isSome]
theorem q0b4 (j:Job) (w:okW j) (s:Stt) (H:Heap):clD EE (.p (.fn 181)) [vW j,vStt s] H=some (vB (q022 j s),none):=by
 rw [q002 _ _ _ _ _ _ (noP _) fn181]
 have hr:=fun H=>q03r j w s H
 have hd:=fun H=>q0v8 j.items j.floats s.at_ H
 change∀H,clD EE _ _ H=some (vC (dueF j s.at_),none) at hd
 have re:=fun H=>in_ev (dueF j s.at_) s.h H
 unfold q022
 cases c:q01g j s with
 |false=>
  rw [c] at hr
  simp [zEc,hr]
 |true=>
  rw [c] at hr
  simp only [vW,q00o,cJobW,cGeom,Zd,Zf] at hr⊢
  simp [zEc,hr,hd,re]
theorem q0gw (j:Job) (H:Heap):clD EE (.p (.fn 262)) [vW j] H=some (vMapW j.items j.floats,none):=by
 have hp: ∀H,clD EE (.p (.fn 229)) [vW j] H=some (q00o j,none):=by
  intro H
  rw [q002 _ _ _ _ _ _ (noP _) fn229]
  simp only [vW,cJobW,cGeom,Zd,Zf]
  simp [zEc]
 have hq: ∀H,clD EE (.p (.fn 332)) [q00o j] H=some (vMapW j.items j.floats,none):=by
  intro H
  rw [q002 _ _ _ _ _ _ (noP _) fn332]
  simp only [q00o]
  simp [zEc]
 rw [q002 _ _ _ _ _ _ (noP _) fn262]
 simp [zEc,hp,hq]
section
variable (j:Job) (w:wfJ j)
include w
theorem q08n (s:Stt) (to:Int):spotB j.notes (spotS j s to):=by
 have hb:=q03o w.w to
 unfold spotS
 by_cases r:q01g j s=true
 ·rw [if_pos r]
  have c:=q09w w ((q02k j s).1 r)
  have:=w.w.n2
  exact ⟨w.w.n2,w.w.lines,hb,c.1,by simp only;omega,c.2.1⟩
 ·rw [if_neg r]
  exact ⟨w.w.n2,w.w.lines,by simp only;omega,by simp,by simp,by simp⟩
theorem q09f (s:Stt) (to:Int):spotB j.notes (q02h (spotS j s to)):=by
 have o:=q08n j w s to
 exact ⟨o.l1,o.l2,o.b,o.n0,o.n1,o.li⟩
theorem q09g (s:Stt) (H:Heap):clD EE (.p (.fn 258)) [vW j,vStt s] H=some (vB (openS j s),none):=by
 rw [q002 _ _ _ _ _ _ (noP _) fn258]
 have r:=fun H=>q03r j w.w s H
 have d:=fun H=>q0j3 j w.w s H
 unfold openS
 cases c:q01g j s with
 |false=>rw [c] at r;simp [zEc,r]
 |true=>rw [c] at r;simp [zEc,r,d]
theorem q0wz (s:Stt) (H:Heap):clD EE (.p (.fn 162)) [vW j,vStt s] H=some (vOC (textC j s),none):=by
 rw [q002 _ _ _ _ _ _ (noP _) fn162]
 have op:=fun H=>q09g j w s H
 have fl:=fun H=>q0b4 j w.w s H
 have wl:=fun H=>q07e j H
 have fb:=fun H=>q0bs j.items w.w.n1 s.at_ H
 have pl:=fun H=>q07d j H
 have sp:=fun H=>q07t j w.w s (q015 j.items s.at_) H
 have le:=fun H=>q0a2 j.notes (spotS j s (q015 j.items s.at_)) (q08n j w s _) H
 unfold textC vOC
 cases c1:openS j s with
 |false=>rw [c1] at op;simp [zEc,op,q014]
 |true=>
  rw [c1] at op
  cases c2:q022 j s with
  |false=>rw [c2] at fl;simp [zEc,op,fl,q014]
  |true=>
   rw [c2] at fl
   have r:=((q04a j s).1 c1).1
   simp only [vJob,cGeom,Zd,Zf] at pl
   by_cases c3:s.at_<j.items.length
   ·have hb:=q0Bd r.at0 (q0tc r.at0 c3)
    have h0:=r.at0
    have hn: ¬q015 j.items s.at_<0:=by omega
    generalize q015 j.items s.at_=t at*
    generalize spotS j s t=q at*
    simp [zEc,fldvV,op,fl,wl,fb,pl,sp,le,hn,c3]
   ·have hn:q015 j.items s.at_= -1:=by
     unfold q015
     rw [show j.items.length-pos s.at_=0 by unfold pos;have:=r.at0;omega];rfl
    rw [hn] at fb
    simp [zEc,op,fl,wl,fb,c3,q014]
theorem q0i0 {s:Stt} (r:rightP j s) {n:C3} (hn:leC n (q01i j s.at_)):
  (s.h.a<n.a->okT j.floats s.h ⟨1,0,0⟩)/\(s.h.b<n.b->okT j.floats s.h ⟨0,1,0⟩)/\(s.h.c<n.c->okT j.floats s.h ⟨0,0,1⟩):=by
 have h0:=r.h0
 have h1:=q0bu hn (q0jb w.six _)
 have h2:=q0hy w r
 unfold okT okU leC zeroC allC at*
 simp only at*
 omega
theorem q0i1 {s:Stt} (r:rightP j s) {n:C3} (hn:leC n (q01i j s.at_)) (H:Heap):clD EE (.p (.fn 261)) [vW j,vStt s,vC n] H=some (vOC (q03i j s n),none):=by
 rw [q002 _ _ _ _ _ _ (noP _) fn261]
 have ok:=q0i0 j w r hn
 have pl:=fun H=>q07d j H
 have w1:IntKind.i64.wrap 1=1:=by decide
 have w2:IntKind.i64.wrap 2=2:=by decide
 have w3:IntKind.i64.wrap 3=3:=by decide
 have t1:=fun y H=>q0pb j.floats s.h y H w.w.n3
 unfold vTake at t1
 unfold q03i vOC
 simp only [vJob,cGeom,Zd,Zf] at pl
 by_cases c1:s.h.a<n.a
 ·have t:=fun H=>t1 ⟨1,0,0⟩ H
  simp only [if_pos (ok.1 c1)] at t
  generalize takeL j.floats s.h ⟨1,0,0⟩=T at*
  simp [zEc,fldvV,q0W7,q003,ixaV,ixvV,q007,w1,w2,w3,c1,pl,t]
 ·by_cases c2:s.h.b<n.b
  ·have t:=fun H=>t1 ⟨0,1,0⟩ H
   simp only [if_pos (ok.2.1 c2)] at t
   generalize takeL j.floats s.h ⟨0,1,0⟩=T at*
   simp [zEc,fldvV,q0W7,q003,ixaV,ixvV,q007,w1,w2,w3,c1,c2,pl,t]
  ·by_cases c3:s.h.c<n.c
   ·have t:=fun H=>t1 ⟨0,0,1⟩ H
    simp only [if_pos (ok.2.2 c3)] at t
    generalize takeL j.floats s.h ⟨0,0,1⟩=T at*
    simp [zEc,fldvV,q0W7,q003,ixaV,ixvV,q007,w1,w2,w3,c1,c2,c3,pl,t]
   ·simp [zEc,q0W7,q003,ixaV,ixvV,q007,w1,w2,w3,c1,c2,c3,q014]
theorem q0Bf (s:Stt) (H:Heap):clD EE (.p (.fn 163)) [vW j,vStt s] H=some (vOC (dueC j s),none):=by
 rw [q002 _ _ _ _ _ _ (noP _) fn163]
 have op:=fun H=>q09g j w s H
 have mp:=fun H=>q0gw j H
 have hd:=fun H=>q0v8 j.items j.floats s.at_ H
 change∀H,clD EE _ _ H=some (vC (dueF j s.at_),none) at hd
 unfold dueC
 cases c1:openS j s with
 |false=>rw [c1] at op;simp [zEc,op,vOC,q014]
 |true=>
  rw [c1] at op
  have r:=((q04a j s).1 c1).1
  have al:=fun H=>q0i1 j w r (q0vq j.floats (j.items.take (putN j.items s.at_))) H
  change∀H,clD EE _ [vW j,vStt s,vC (dueF j s.at_)] H=some (vOC (q03i j s (dueF j s.at_)),none) at al
  unfold vOC at*
  simp [zEc,op,mp,hd,al]
theorem q0td (s:Stt) (H:Heap):clD EE (.p (.fn 165)) [vW j,vStt s] H=some (vOC (q08m j s),none):=by
 rw [q002 _ _ _ _ _ _ (noP _) fn165]
 have op:=fun H=>q09g j w s H
 have mp:=fun H=>q0gw j H
 have hd:=fun H=>q09v j.items j.floats s.at_ H
 change∀H,clD EE _ _ H=some (vC (q01i j s.at_),none) at hd
 unfold q08m
 cases c1:openS j s with
 |false=>rw [c1] at op;simp [zEc,op,vOC,q014]
 |true=>
  rw [c1] at op
  have r:=((q04a j s).1 c1).1
  have al:=fun H=>q0i1 j w r (q0e6 (q01i j s.at_)) H
  unfold vOC at*
  simp [zEc,op,mp,hd,al]
theorem q0x0 (s:Stt) (H:Heap):clD EE (.p (.fn 164)) [vW j,vStt s] H=some (vOC (noteC j s),none):=by
 rw [q002 _ _ _ _ _ _ (noP _) fn164]
 have op:=fun H=>q09g j w s H
 have pl:=fun H=>q07d j H
 have wl:=fun H=>q07e j H
 have ll:=fun H=>q021 j.items H
 have sp:=fun H=>q07t j w.w s s.at_ H
 have le:=fun H=>q0a2 j.notes (q02h (spotS j s s.at_)) (q09f j w s _) H
 unfold noteC vOC
 simp only [vJob,cGeom,Zd,Zf] at pl
 cases c1:openS j s with
 |false=>rw [c1] at op;simp [zEc,fldvV,op,pl,q014]
 |true=>
  rw [c1] at op
  have r:=((q04a j s).1 c1).1
  have h1:=r.at1
  generalize spotS j s s.at_=q at*
  unfold q02h at*
  by_cases c2:s.at_<j.items.length
  ·have c3: ¬s.at_=j.items.length:=by omega
   simp [zEc,fldvV,op,pl,wl,ll,c2,c3,q014]
  ·have c3:s.at_=j.items.length:=by omega
   have c3:=eq_true c3
   by_cases c4:s.note=j.notes.length
   ·have c4:=eq_true c4
    simp [zEc,fldvV,op,pl,wl,ll,c2,c3,c4,q014]
   ·simp [zEc,fldvV,op,pl,wl,ll,c2,c3,c4,sp,le]
theorem q0qq (s:Stt) (H:Heap):clD EE (.p (.fn 82)) [vW j,vStt s] H=some (vOC (q04r j s),none):=by
 rw [q002 _ _ _ _ _ _ (noP _) fn82]
 have f1:=fun H=>q0wz j w s H
 have f2:=fun H=>q0Bf j w s H
 have f3:=fun H=>q0x0 j w s H
 have f4:=fun H=>q0td j w s H
 have w1:IntKind.i64.wrap 1=1:=by decide
 have w2:IntKind.i64.wrap 2=2:=by decide
 have w3:IntKind.i64.wrap 3=3:=by decide
 have w4:IntKind.i64.wrap 4=4:=by decide
 unfold q04r vOC at*
 cases e1:textC j s with
 |some c=>rw [e1] at f1;simp [zEc,q0Vy,q003,ixsI,ixsV,w1,w2,w3,w4,f1]
 |none=>
  rw [e1] at f1
  cases e2:dueC j s with
  |some c=>rw [e2] at f2;simp [zEc,q0Vy,q003,ixsI,ixsV,w1,w2,w3,w4,f1,f2]
  |none=>
   rw [e2] at f2
   cases e3:noteC j s with
   |some c=>rw [e3] at f3;simp [zEc,q0Vy,q003,ixsI,ixsV,w1,w2,w3,w4,f1,f2,f3]
   |none=>
    rw [e3] at f3
    cases e4:q08m j s with
    |some c=>rw [e4] at f4;simp [zEc,q0Vy,q003,ixsI,ixsV,w1,w2,w3,w4,f1,f2,f3,f4]
    |none=>rw [e4] at f4;simp [zEc,q0Vy,q003,ixsI,ixsV,w1,w2,w3,w4,f1,f2,f3,f4,q014]
end
end Go.EnvOf
