/- The program's functions and the document's, evaluated. -/
import Derived.KernelRfl
import Derived.Test.YtpibjnnbploadaaGreatText2
import Derived.Test.YtpibjnnbploadaaGreatText3
set_option linter.unusedSimpArgs false
set_option linter.unusedVariables false
namespace Go.EnvOf
open Go Go.Eng
def note (lines pens:List Int):V:= .agg [sli lines,sli pens]
theorem q02e (H:Heap) (L:List Int) (k:IntKind) (i:Int) (h0:0≤i) (h1:i<L.length):ixsI H (.p (.sl (L.map encI))) (.p (.int k i)) 1=some (.eptr [.p (.int .i64 (rd L i))] 0):=
 q0j6 H encI L k i 1 (fun _=>rfl) h0 h1
def far:Int:=1125899906842624
def hstep (s x:Int):Int:=min (s+min (max x 0) far) far
theorem q0nw (L:List Int) (i:Int) (t:Nat) (h0:0≤i) (h1:i.toNat<t) (h2:t≤L.length):(L.take t).drop i.toNat=rd L i::(L.take t).drop (i+1).toNat:=by
 have e:(i+1).toNat=i.toNat+1:=by omega
 rw [e,List.drop_eq_getElem_cons (by simp;omega)]
 congr 1
 unfold rd
 have:i.toNat<L.length:=by omega
 simp [List.getD_eq_getElem?_getD,this]
end Go.EnvOf
namespace Go.EnvOf
open Go Go.Eng
end Go.EnvOf
namespace Go.EnvOf
open Go Go.Eng
def bad (lo hi:Int) (l:List Int):Bool:=l.any fun x=>decide (x<lo)||decide (hi<x)
theorem q09q (L:List Int) (i:Int) (h0:0≤i) (h1:i<L.length):L.drop i.toNat=rd L i::L.drop (i+1).toNat:=by
 have:=q0nw L i L.length h0 (by omega) (Nat.le_refl _)
 rwa [List.take_length] at this
theorem q0uy (L M:List Int) (H:Heap) (B:Nat) (hL:L.length≤9223372036854775807): ∀(n:Nat) (i:Int) (wr:Bool),((L.length:Int)-i).toNat=n→0≤i→i≤L.length→
  evD EE q09m ⟨[(1,.lptr 1 0),(3,.p (.bool wr)),(29,sli L),(30,.p (.int .i64 L.length)),(31,.p (.int .i64 i))],[(1,[sli L,sli M])],H,B,[]⟩=
   some (.exit 0,⟨[(1,.lptr 1 0),(3,.p (.bool (wr||bad 1 1073741823 (L.drop i.toNat)))),(29,sli L),(30,.p (.int .i64 L.length)),(31,.p (.int .i64 L.length)),(32,.p (.bool false))],[(1,[sli L,sli M])],H,B,[]⟩):=by
 intro n
 induction n with
 |zero=>
  intro i wr hn h0 h1
  have e:i=L.length:=by omega
  subst e
  unfold q09m
  rw [q008]
  simp [sli,bad]
 |succ n ih=>
  intro i wr hn h0 h1
  have c:i<(L.length:Int):=by omega
  have w:IntKind.i64.wrap (i+1)=i+1:=q02g _ (by omega) (by omega)
  have key:=ih (i+1) (wr||(decide (rd L i<1)||decide (1073741823<rd L i))) (by omega) (by omega) (by omega)
  have eb:bad 1 1073741823 (L.drop i.toNat)=((decide (rd L i<1)||decide (1073741823<rd L i))||bad 1 1073741823 (L.drop (i+1).toNat)):=by rw [q09q L i h0 c];simp [bad]
  rw [eb,←Bool.or_assoc]
  unfold q09m
  rw [q008]
  cases wr
  ·by_cases c1:rd L i<1
   ·simp (disch:=omega) [sli,c,q02e,subs,w,c1] at key⊢
    exact key
   ·simp (disch:=omega) [sli,c,q02e,subs,w,c1] at key⊢
    exact key
  ·simp (disch:=omega) [sli,c,q02e,subs,w] at key⊢
   exact key
theorem q0uz (M:List Int) (H:Heap) (B:Nat) (hM:M.length≤9223372036854775807): ∀(n:Nat) (i:Int) (wr:Bool),((M.length:Int)-i).toNat=n→0≤i→i≤M.length→
  evD EE q09n ⟨[(3,.p (.bool wr)),(46,sli M),(47,.p (.int .i64 M.length)),(48,.p (.int .i64 i))],[],H,B,[]⟩=
   some (.exit 2,⟨[(3,.p (.bool (wr||bad 0 10000 (M.drop i.toNat)))),(46,sli M),(47,.p (.int .i64 M.length)),(48,.p (.int .i64 M.length)),(49,.p (.bool false))],[],H,B,[]⟩):=by
 intro n
 induction n with
 |zero=>
  intro i wr hn h0 h1
  have e:i=M.length:=by omega
  subst e
  unfold q09n
  rw [q008]
  simp [sli,bad]
 |succ n ih=>
  intro i wr hn h0 h1
  have c:i<(M.length:Int):=by omega
  have w:IntKind.i64.wrap (i+1)=i+1:=q02g _ (by omega) (by omega)
  have key:=ih (i+1) (wr||(decide (rd M i<0)||decide (10000<rd M i))) (by omega) (by omega) (by omega)
  have eb:bad 0 10000 (M.drop i.toNat)=((decide (rd M i<0)||decide (10000<rd M i))||bad 0 10000 (M.drop (i+1).toNat)):=by rw [q09q M i h0 c];simp [bad]
  rw [eb,←Bool.or_assoc]
  unfold q09n
  rw [q008]
  cases wr
  ·by_cases c1:rd M i<0
   ·simp (disch:=omega) [sli,c,q02e,subs,w,c1] at key⊢
    exact key
   ·simp (disch:=omega) [sli,c,q02e,subs,w,c1] at key⊢
    exact key
  ·simp (disch:=omega) [sli,c,q02e,subs,w] at key⊢
   exact key
def q03d (L M:List Int):Bool:=decide ((L.length:Int)<1)||decide (64<(L.length:Int))|| !decide ((M.length:Int)=L.length-1)
def q01k (L M:List Int):Bool:=q03d L M||bad 1 1073741823 L||bad 0 10000 M
theorem q0r8 (L M:List Int) (H:Heap) (hL:L.length≤9223372036854775807) (hM:M.length≤9223372036854775807):clD EE (.p (.fn 405)) [note L M] H=some (.p (.int .i64 (if q01k L M=true then 9 else 0)),none):=by
 rw [q002 _ _ _ _ _ _ (noP _) fn405]
 have k0:=fun wr=>q0uy L M H H.length hL _ 0 wr rfl (by omega) (by omega)
 have k1:=fun wr=>q0uz M H H.length hM _ 0 wr rfl (by omega) (by omega)
 have w:IntKind.i64.wrap ((L.length:Int)-1)=L.length-1:=q02g _ (by omega) (by omega)
 have go: ∀b:Bool,q03d L M=b→q01k L M=(b||bad 1 1073741823 L||bad 0 10000 M):=fun b h=>by unfold q01k;rw [h]
 simp [sli] at k0 k1
 by_cases c1:(L.length:Int)<1
 ·have hb:=go true (by simp [q03d,c1])
  simp [hb,note,sli,St.enter,q000,subs,c1,k0,k1]
 ·by_cases c2:64<(L.length:Int)
  ·have hb:=go true (by simp [q03d,c2])
   simp [hb,note,sli,St.enter,q000,subs,c1,c2,k0,k1]
  ·by_cases c3:(M.length:Int)=L.length-1
   ·have hb:=go false (by simp [q03d,c1,c2,c3])
    rw [hb]
    simp only [c3] at k1
    cases h1:bad 1 1073741823 L<;>cases h2:bad 0 10000 M<;>simp [note,sli,St.enter,q000,subs,c1,c2,c3,w,k0,k1,h1,h2]
   ·have hb:=go true (by simp [q03d,c3])
    simp [hb,note,sli,St.enter,q000,subs,c1,c2,c3,w,k0,k1]
theorem q0r9 (L M:List Int) (H:Heap) (B:Nat) (hL:L.length≤1000000): ∀(n:Nat) (i:Int),((L.length:Int)-i).toNat=n→0≤i→i≤L.length→
  evD EE q09k ⟨[(1,.lptr 1 0),(3,.p (.int .i64 i))],[(1,[sli L,sli M])],H,B,[]⟩=
   if bad 1 1073741823 (L.drop i.toNat)=true then some (.ret,⟨[(2,.p (.bool false))],[],H,B,[]⟩)
   else some (.exit 0,⟨[(1,.lptr 1 0),(3,.p (.int .i64 L.length)),(29,.p (.bool false))],[(1,[sli L,sli M])],H,B,[]⟩):=by
 intro n
 induction n with
 |zero=>
  intro i hn h0 h1
  have e:i=L.length:=by omega
  subst e
  unfold q09k
  rw [q008]
  simp [sli,bad,subs]
 |succ n ih=>
  intro i hn h0 h1
  have c:i<(L.length:Int):=by omega
  have w:IntKind.i64.wrap (i+1)=i+1:=q02g _ (by omega) (by omega)
  have key:=ih (i+1) (by omega) (by omega) (by omega)
  have eb:bad 1 1073741823 (L.drop i.toNat)=((decide (rd L i<1)||decide (1073741823<rd L i))||bad 1 1073741823 (L.drop (i+1).toNat)):=by rw [q09q L i h0 c];simp [bad]
  rw [eb]
  unfold q09k
  rw [q008]
  by_cases c1:rd L i<1
  ·simp (disch:=omega) [sli,c,q02e,subs,c1]
  ·by_cases c2:1073741823<rd L i
   ·simp (disch:=omega) [sli,c,q02e,subs,c1,c2]
   ·simp (disch:=omega) [sli,c,q02e,subs,w,c1,c2] at key⊢
    exact key
theorem q0ra (L M:List Int) (H:Heap) (B:Nat) (hM:M.length≤1000000): ∀(n:Nat) (i:Int),((M.length:Int)-i).toNat=n→0≤i→i≤M.length→
  evD EE q09l ⟨[(1,.lptr 1 0),(4,.p (.int .i64 i))],[(1,[sli L,sli M])],H,B,[]⟩=
   if bad 0 10000 (M.drop i.toNat)=true then some (.ret,⟨[(2,.p (.bool false))],[],H,B,[]⟩)
   else some (.exit 2,⟨[(1,.lptr 1 0),(4,.p (.int .i64 M.length)),(50,.p (.bool false))],[(1,[sli L,sli M])],H,B,[]⟩):=by
 intro n
 induction n with
 |zero=>
  intro i hn h0 h1
  have e:i=M.length:=by omega
  subst e
  unfold q09l
  rw [q008]
  simp [sli,bad,subs]
 |succ n ih=>
  intro i hn h0 h1
  have c:i<(M.length:Int):=by omega
  have w:IntKind.i64.wrap (i+1)=i+1:=q02g _ (by omega) (by omega)
  have key:=ih (i+1) (by omega) (by omega) (by omega)
  have eb:bad 0 10000 (M.drop i.toNat)=((decide (rd M i<0)||decide (10000<rd M i))||bad 0 10000 (M.drop (i+1).toNat)):=by rw [q09q M i h0 c];simp [bad]
  rw [eb]
  unfold q09l
  rw [q008]
  by_cases c1:rd M i<0
  ·simp (disch:=omega) [sli,c,q02e,subs,c1]
  ·by_cases c2:10000<rd M i
   ·simp (disch:=omega) [sli,c,q02e,subs,c1,c2]
   ·simp (disch:=omega) [sli,c,q02e,subs,w,c1,c2] at key⊢
    exact key
theorem q0nx (L M:List Int) (H:Heap) (hL:L.length≤1000000) (hM:M.length≤1000000):clD EE (.p (.fn 205)) [note L M] H=some (.p (.bool (!q01k L M)),none):=by
 rw [q002 _ _ _ _ _ _ (noP _) fn205]
 have k0:=q0r9 L M H H.length hL _ 0 rfl (by omega) (by omega)
 have k1:=q0ra L M H H.length hM _ 0 rfl (by omega) (by omega)
 have w:IntKind.i64.wrap ((L.length:Int)-1)=L.length-1:=q02g _ (by omega) (by omega)
 have go: ∀b:Bool,q03d L M=b→q01k L M=(b||bad 1 1073741823 L||bad 0 10000 M):=fun b h=>by unfold q01k;rw [h]
 simp [sli] at k0 k1
 by_cases c1:(L.length:Int)<1
 ·have hb:=go true (by simp [q03d,c1])
  simp [hb,note,sli,St.enter,q000,subs,c1]
 ·by_cases c2:64<(L.length:Int)
  ·have hb:=go true (by simp [q03d,c2])
   simp [hb,note,sli,St.enter,q000,subs,c1,c2]
  ·by_cases c3:(M.length:Int)=L.length-1
   ·have hb:=go false (by simp [q03d,c1,c2,c3])
    rw [hb]
    cases h1:bad 1 1073741823 L<;>cases h2:bad 0 10000 M<;>simp [h1,h2] at k0 k1<;>simp [note,sli,St.enter,q000,subs,c1,c2,c3,w,k0,k1]
   ·have hb:=go true (by simp [q03d,c3])
    simp [hb,note,sli,St.enter,q000,subs,c1,c2,c3,w]
def rowsG {α:Type} (s:Nat) (enc:α→List PV) (l:List α):Heap:=if l=[] then [] else [.row s (upV (l.map enc))]
@[simp] theorem q096 {α:Type} (s:Nat) (enc:α→List PV):rowsG s enc [] =[] :=rfl
theorem q025 {α:Type} (s:Nat) (enc:α→List PV) (x:α) (r:List α):rowsG s enc (x::r)=[.row s (upV ((x::r).map enc))]:=rfl
theorem q070 {α:Type} (env:List (Nat×V)) (loc:List (Nat×List V)) (H:Heap) (base:Nat) (dirty:List Nat) (s:Nat) (enc:α→List PV) (l:List α) (x:α) (hs:(enc x).length=s) (hm:l.length+1<most) (hb:base≤H.length):
  appV ⟨env,loc,H++rowsG s enc l,base,dirty⟩ (q00e H.length l) (.p (.sl [enc x])) s=some (q00e H.length (l++[x]),⟨env,loc,H++rowsG s enc (l++[x]),base,dirty⟩):=by
 cases l with
 |nil=>
  have hm':1<most:=by unfold most;omega
  simp [q025,hs,hm']
 |cons y r=>
  have hm':r.length+1+1<most:=by simpa using hm
  have e:addD base H.length dirty=dirty:=by unfold addD;rw [if_neg (by omega)]
  simp [q025,hs,hm',hb,upV,okEl,List.all_map]
theorem q0rb (x:Item) (s:Int) (hx:q05w x) (hs:I64 s) (H:Heap):clD EE (.p (.fn 210)) [vItem x,vI s] H=some (vItem (itemG s x),none):=by
 rw [q002 _ _ _ _ _ _ (noP _) fn210]
 have h1:=q06x x.h s H hx.2.1 hs
 have h2:=q0nm x.h s H hx.2.1 hs
 by_cases k1:x.k=1
 ·simp [St.enter,q000,subs,q001,k1,h1,itemG]
 ·by_cases k2:x.k=2
  ·simp [St.enter,q000,subs,q001,k1,k2,h2,itemG]
  ·simp [St.enter,q000,subs,q001,k1,k2,itemG]
def rsE (s:Int) (J Z:List V) (t:Nat) (g:Geom) (a b c:V) (H:Heap) (B:Nat) (i:Nat):St:=
 ⟨[(1,.lptr 1 0),(2,.lptr 2 0),(3,vI s),(4,.lptr 4 0),(t,vI i)],[(1,J),(2,Z),(4,cGeom g++[a,b,c])],H,B,[]⟩
def rsX (s:Int) (J Z:List V) (t u e:Nat) (g:Geom) (a b c:V) (H:Heap) (B:Nat) (i:Nat):Ex×St:=
 (.exit e,⟨[(1,.lptr 1 0),(2,.lptr 2 0),(3,vI s),(4,.lptr 4 0),(t,vI i),(u,.p (.bool false))],[(1,J),(2,Z),(4,cGeom g++[a,b,c])],H,B,[]⟩)
theorem q0ny (j:Job) (ok:okJob j) (hs:I64 j.g.grid) (Z:List V) (g:Geom) (b c:V) (H:Heap):
  evD EE q0gg (rsE j.g.grid (cGeom j.g++[q004 j.items,q00j j.notes,q00g j.floats]) Z 5 g .nils b c H H.length 0)=
   some (rsX j.g.grid (cGeom j.g++[q004 j.items,q00j j.notes,q00g j.floats]) Z 5 52 0 g (q00e H.length (j.items.map (itemG j.g.grid))) b c (H++rowsG 7 q003 (j.items.map (itemG j.g.grid))) H.length j.items.length):=by
 unfold q0gg
 rw [show∀a,rsE j.g.grid (cGeom j.g++[q004 j.items,q00j j.notes,q00g j.floats]) Z 5 g a b c H H.length 0=rsE j.g.grid (cGeom j.g++[q004 j.items,q00j j.notes,q00g j.floats]) Z 5 g a b c (H++rowsG 7 q003 []) H.length 0 from fun a=>by rw [q096,List.append_nil]]
 refine Eq.trans (q017 j.items (fun (M:List Item) i=>rsE j.g.grid (cGeom j.g++[q004 j.items,q00j j.notes,q00g j.floats]) Z 5 g (q00e H.length M) b c (H++rowsG 7 q003 M) H.length i) (fun M i=>M.length=i) (fun M _ x=>M++[itemG j.g.grid x])
  (fun M=>rsX j.g.grid (cGeom j.g++[q004 j.items,q00j j.notes,q00g j.floats]) Z 5 52 0 g (q00e H.length M) b c (H++rowsG 7 q003 M) H.length j.items.length) (fun _ _=>rfl) ?_ ?_ [] 0 rfl (Nat.zero_le _)) ?_
 ·rintro M i x hM hx
  refine ⟨?_,by simp [hM]⟩
  have hlt:=(List.getElem?_eq_some_iff.1 hx).1
  have hn:=ok.n1
  have w:IntKind.i64.wrap ((i:Int)+1)=((i+1:Nat):Int):=w64 (by omega) (by omega)
  have ho:=ok.items x (List.mem_of_getElem? hx)
  have hix:=fun H k=>q00o H q003 (k:=k) (s:=7) hx rfl
  have h1:=fun H'=>q0rb x j.g.grid ho hs H'
  have ha:=fun env loc=>q070 env loc H H.length [] 7 q003 M (itemG j.g.grid x) rfl (by unfold most;omega) (Nat.le_refl _)
  simp only [q003] at ha hix
  simp [-q06u,rsE,hlt,hix,subs,q001,h1,ha,w]
 ·rintro M hM
  simp [rsE,rsX,subs]
 ·have: ∀(l:List Item) (M:List Item) i,fold (fun (M:List Item) _ x=>M++[itemG j.g.grid x]) M i l=M++l.map (itemG j.g.grid):=by
   intro l
   induction l with
   |nil=>intro M i;simp [fold]
   |cons x r ih=>intro M i;simp [fold,ih]
  simp [this]
theorem q097 {α β:Type} (g:α→β): ∀(l:List α) (M:List β) i,fold (fun (M:List β) _ x=>M++[g x]) M i l=M++l.map g
 |[],M,i=>by simp [fold]
 |x::r,M,i=>by simp only [fold,q097 g r,List.map_cons,List.append_assoc,List.cons_append,List.nil_append]
theorem q0l6 (j:Job) (ok:okJob j) (hs:I64 j.g.grid) (Z:List V) (g:Geom) (a b:V) (H:Heap) (B:Nat) (hB:B≤H.length):
  evD EE q0gi (rsE j.g.grid (cGeom j.g++[q004 j.items,q00j j.notes,q00g j.floats]) Z 9 g a b .nils H B 0)=
   some (rsX j.g.grid (cGeom j.g++[q004 j.items,q00j j.notes,q00g j.floats]) Z 9 118 6 g a b (q00e H.length (j.floats.map (q01a j.g.grid))) (H++rowsG 3 q00a (j.floats.map (q01a j.g.grid))) B j.floats.length):=by
 unfold q0gi
 rw [show∀c,rsE j.g.grid (cGeom j.g++[q004 j.items,q00j j.notes,q00g j.floats]) Z 9 g a b c H B 0=rsE j.g.grid (cGeom j.g++[q004 j.items,q00j j.notes,q00g j.floats]) Z 9 g a b c (H++rowsG 3 q00a []) B 0 from fun a=>by rw [q096,List.append_nil]]
 refine Eq.trans (q017 j.floats (fun (M:List Float) i=>rsE j.g.grid (cGeom j.g++[q004 j.items,q00j j.notes,q00g j.floats]) Z 9 g a b (q00e H.length M) (H++rowsG 3 q00a M) B i) (fun M i=>M.length=i) (fun M _ x=>M++[q01a j.g.grid x])
  (fun M=>rsX j.g.grid (cGeom j.g++[q004 j.items,q00j j.notes,q00g j.floats]) Z 9 118 6 g a b (q00e H.length M) (H++rowsG 3 q00a M) B j.floats.length) (fun _ _=>rfl) ?_ ?_ [] 0 rfl (Nat.zero_le _)) ?_
 ·rintro M i x hM hx
  refine ⟨?_,by simp [hM]⟩
  have hlt:=(List.getElem?_eq_some_iff.1 hx).1
  have hn:=ok.n3
  have w:IntKind.i64.wrap ((i:Int)+1)=((i+1:Nat):Int):=w64 (by omega) (by omega)
  have ho:=ok.floats x (List.mem_of_getElem? hx)
  have hix:=fun H k=>q00o H q00a (k:=k) (s:=3) hx rfl
  have h1:=fun H'=>q06x x.h j.g.grid H' ho.2.1 hs
  have ha:=fun env loc=>q070 env loc H B [] 3 q00a M (q01a j.g.grid x) rfl (by unfold most;omega) hB
  simp only [q00a,q01a] at ha hix
  simp [-q06u,rsE,hlt,hix,subs,q001,h1,ha,w,q01a]
 ·rintro M hM
  simp [rsE,rsX,subs]
 ·simp [q097]
def rlE (s:Int) (J Z C:List V) (i:Nat) (v:V) (p:V) (H:Heap) (B:Nat) (k:Nat):St:=
 ⟨[(1,.lptr 1 0),(2,.lptr 2 0),(3,vI s),(4,.lptr 4 0),(6,vI i),(7,.lptr 7 0),(8,vI k)],[(1,J),(2,Z),(4,C),(7,[v,p])],H,B,[]⟩
def rlX (s:Int) (J Z C:List V) (i:Nat) (v:V) (p:V) (H:Heap) (B:Nat) (k:Nat):Ex×St:=
 (.exit 4,⟨[(1,.lptr 1 0),(2,.lptr 2 0),(3,vI s),(4,.lptr 4 0),(6,vI i),(7,.lptr 7 0),(8,vI k),(89,.p (.bool false))],[(1,J),(2,Z),(4,C),(7,[v,p])],H,B,[]⟩)
theorem q0eb (j:Job) (ok:okJob j) (hs:I64 j.g.grid) (Z C:List V) (i:Nat) (n:Note) (hi:j.notes[i]? =some n) (p:V) (H:Heap) (B:Nat) (hB:B≤H.length):
  evD EE q0gh (rlE j.g.grid (cGeom j.g++[q004 j.items,q00j j.notes,q00g j.floats]) Z C i .nils p H B 0)=
   some (rlX j.g.grid (cGeom j.g++[q004 j.items,q00j j.notes,q00g j.floats]) Z C i (q00e H.length (n.lines.map fun x=>upG x j.g.grid)) p (H++rowsG 1 encI (n.lines.map fun x=>upG x j.g.grid)) B n.lines.length):=by
 unfold q0gh
 rw [show∀v,rlE j.g.grid (cGeom j.g++[q004 j.items,q00j j.notes,q00g j.floats]) Z C i v p H B 0=rlE j.g.grid (cGeom j.g++[q004 j.items,q00j j.notes,q00g j.floats]) Z C i v p (H++rowsG 1 encI []) B 0 from fun a=>by rw [q096,List.append_nil]]
 have hin:=(List.getElem?_eq_some_iff.1 hi).1
 have hiy:=fun H k=>q00o H q00h (k:=k) (s:=2) hi rfl
 have on:=ok.notes n (List.mem_of_getElem? hi)
 simp only [q00h] at hiy
 refine Eq.trans (q017 n.lines (fun (M:List Int) k=>rlE j.g.grid (cGeom j.g++[q004 j.items,q00j j.notes,q00g j.floats]) Z C i (q00e H.length M) p (H++rowsG 1 encI M) B k) (fun M i=>M.length=i) (fun M _ x=>M++[upG x j.g.grid])
  (fun M=>rlX j.g.grid (cGeom j.g++[q004 j.items,q00j j.notes,q00g j.floats]) Z C i (q00e H.length M) p (H++rowsG 1 encI M) B n.lines.length) (fun _ _=>rfl) ?_ ?_ [] 0 rfl (Nat.zero_le _)) ?_
 ·rintro M k x hM hx
  refine ⟨?_,by simp [hM]⟩
  have hlt:=(List.getElem?_eq_some_iff.1 hx).1
  have w:IntKind.i64.wrap ((k:Int)+1)=((k+1:Nat):Int):=w64 (by have:=on.2.1;omega) (by have:=on.2.1;omega)
  have ho:=on.1 x (List.mem_of_getElem? hx)
  have hix:=fun H k=>q00o H encI (k:=k) (s:=1) hx rfl
  have h1:=fun H'=>q06x x j.g.grid H' ho hs
  have ha:=fun env loc=>q070 env loc H B [] 1 encI M (upG x j.g.grid) rfl (by have:=on.2.1;unfold most;omega) hB
  simp only [encI] at ha
  simp only [show∀x,encI x=[PV.int .i64 x] from fun _=>rfl] at hix
  simp [-q06u,rlE,hlt,hix,hiy,subs,q001,h1,ha,w]
 ·rintro M hM
  simp [rlE,rlX,subs,hiy]
 ·simp [q097]
def rnH (s:Int) (n:Note):Heap:=rowsG 1 encI (n.lines.map fun x=>upG x s)
def lineV {α:Type} (n:Nat) (l:List α):V:=if l=[] then .p (.sl []) else .row n l.length 0 l.length
def rnV (s:Int) (id:Nat) (n:Note):List V:=[lineV id (n.lines.map fun x=>upG x s),sli n.pens]
def rnsH (s:Int):List Note→Heap
 |[]=>[]
 |n::r=>rnH s n++rnsH s r
def rnsV (s:Int):Nat→List Note→List (List V)
 |_,[]=>[]
 |id,n::r=>rnV s id n::rnsV s (id+(rnH s n).length) r
theorem q0hb (s:Int): ∀a b,rnsH s (a++b)=rnsH s a++rnsH s b
 |[],b=>rfl
 |n::r,b=>by simp only [List.cons_append,rnsH,q0hb s r b,List.append_assoc]
theorem q0hc (s:Int): ∀a id b,rnsV s id (a++b)=rnsV s id a++rnsV s (id+(rnsH s a).length) b
 |[],id,b=>by simp [rnsV,rnsH]
 |n::r,id,b=>by simp only [List.cons_append,rnsV,rnsH,q0hc s r,List.length_append,Nat.add_assoc]
theorem q0b4 (s:Int): ∀l id,(rnsV s id l).length=l.length
 |[],_=>rfl
 |n::r,id=>by simp only [rnsV,List.length_cons,q0b4 s r]
def rnHp (s:Int) (n:Note) (r:List Note) (G:Heap):Heap:=G++(rnH s n++ .row 2 (rnV s G.length n::rnsV s (G.length+(rnH s n).length+1) r)::rnsH s r)
theorem q0l7 (j:Job) (ok:okJob j) (hs:I64 j.g.grid) (Z:List V) (g:Geom) (a c:V) (G:Heap) (B:Nat) (hB:B≤G.length) (n:Note) (r:List Note) (hj:j.notes=n::r):
  evD EE q06n (rsE j.g.grid (cGeom j.g++[q004 j.items,q00j j.notes,q00g j.floats]) Z 6 g a (.row (G.length+(rnH j.g.grid n).length) 1 0 1) c (rnHp j.g.grid n [] G) B 1)=
   some (rsX j.g.grid (cGeom j.g++[q004 j.items,q00j j.notes,q00g j.floats]) Z 6 71 2 g a (.row (G.length+(rnH j.g.grid n).length) (r.length+1) 0 (r.length+1)) c (rnHp j.g.grid n r G) B (r.length+1)):=by
 unfold q06n
 refine q017 r (fun (_:Unit) i=>rsE j.g.grid (cGeom j.g++[q004 j.items,q00j j.notes,q00g j.floats]) Z 6 g a (.row (G.length+(rnH j.g.grid n).length) (i+1) 0 (i+1)) c (rnHp j.g.grid n (r.take i) G) B (i+1)) (fun _ _=>True) (fun _ _ _=>())
  (fun _=>rsX j.g.grid (cGeom j.g++[q004 j.items,q00j j.notes,q00g j.floats]) Z 6 71 2 g a (.row (G.length+(rnH j.g.grid n).length) (r.length+1) 0 (r.length+1)) c (rnHp j.g.grid n r G) B (r.length+1)) (fun _ _=>rfl) ?_ ?_ () 0 trivial (Nat.zero_le _)
 ·rintro _ i x-hx
  refine ⟨?_,trivial⟩
  have hlt:=(List.getElem?_eq_some_iff.1 hx).1
  have hx':j.notes[i+1]? =some x:=by rw [hj];simpa using hx
  have hn:=ok.n2
  have hl:j.notes.length=r.length+1:=by rw [hj];rfl
  have hlt':i+1<j.notes.length:=by omega
  have w:IntKind.i64.wrap (((i+1:Nat):Int)+1)=((i+1+1:Nat):Int):=w64 (by omega) (by omega)
  have hix:=fun H k=>q00o H q00h (k:=k) (s:=2) hx' rfl
  have e:r.take (i+1)=r.take i++[x]:=by rw [List.take_add_one,hx];rfl
  have hA:=q0b4 j.g.grid (r.take i) (G.length+(rnH j.g.grid n).length+1)
  rw [List.length_take,Nat.min_eq_left (Nat.le_of_lt hlt)] at hA
  have key:=fun C=>q0eb j ok hs Z C (i+1) x hx' (sli x.pens) (rnHp j.g.grid n (r.take i) G) B (by unfold rnHp;simp;omega)
  have hm:i+1+1<most:=by unfold most;omega
  have e1:rnHp j.g.grid n (r.take (i+1)) G=G++(rnH j.g.grid n++ .row 2 (rnV j.g.grid G.length n::(rnsV j.g.grid (G.length+(rnH j.g.grid n).length+1) (r.take i)++[rnV j.g.grid (G.length+(rnH j.g.grid n).length+1+(rnsH j.g.grid (r.take i)).length) x]))::(rnsH j.g.grid (r.take i)++rnH j.g.grid x)):=by
   unfold rnHp;rw [e,q0hc,q0hb];simp [rnsV,rnsH]
  rw [e1]
  unfold rnHp at key⊢
  generalize rnsV j.g.grid (G.length+(rnH j.g.grid n).length+1) (r.take i)=A at*
  generalize rnsH j.g.grid (r.take i)=T at*
  generalize rnH j.g.grid n=F at*
  generalize rnV j.g.grid G.length n=v0 at*
  have hrow: ∀es U,Eng.rowAt (G++(F++DObj.row 2 es::U)) (G.length+F.length)=some (2,es):=fun es U=>by simp
  have hset: ∀es fs U,(G++(F++DObj.row 2 es::U)).set (G.length+F.length) (.row 2 fs)=G++(F++DObj.row 2 fs::U):=fun es fs U=>by simp
  have hbl: ¬G.length+F.length<B:=by omega
  have hlt2:(i:Int)+1<j.notes.length:=by omega
  simp only [q00h] at hix
  simp only [Int.natCast_add,Int.natCast_one] at hix w
  cases hL:x.lines with
  |nil=>
   have key':=key (cGeom g++[a,.row (G.length+F.length) (i+1) 0 (i+1),c])
   simp [rlE,rlX,hL] at key'
   simp [-q0e1,-q0jw,rsE,hlt2,hix,subs,q001,key',hrow,hset,hA,hm,hbl,rnV,rnH,lineV,hL,w,upV,okEl]
  |cons y q=>
   have key':=key (cGeom g++[a,.row (G.length+F.length) (i+1) 0 (i+1),c])
   simp [rlE,rlX,hL,q025] at key'
   simp [-q0e1,-q0jw,rsE,hlt2,hix,subs,q001,key',hrow,hset,hA,hm,hbl,rnV,rnH,lineV,hL,w,upV,okEl,q025]
   omega
 ·rintro _-
  have hl:j.notes.length=r.length+1:=by rw [hj];rfl
  refine ⟨?_,by simp [rsX]⟩
  simp [rsE,rsX,subs,hl]
def rnHq (s:Int) (l:List Note) (G:Heap):Heap:=match l with|[]=>G|n::r=>rnHp s n r G
def rnVq (s:Int) (l:List Note) (G:Heap):V:=match l with|[]=> .nils|n::r=> .row (G.length+(rnH s n).length) (r.length+1) 0 (r.length+1)
theorem q0nz (j:Job) (ok:okJob j) (hs:I64 j.g.grid) (Z:List V) (g:Geom) (a c:V) (G:Heap) (B:Nat) (hB:B≤G.length):
  evD EE q06n (rsE j.g.grid (cGeom j.g++[q004 j.items,q00j j.notes,q00g j.floats]) Z 6 g a .nils c G B 0)=
   some (rsX j.g.grid (cGeom j.g++[q004 j.items,q00j j.notes,q00g j.floats]) Z 6 71 2 g a (rnVq j.g.grid j.notes G) c (rnHq j.g.grid j.notes G) B j.notes.length):=by
 cases hj:j.notes with
 |nil=>
  unfold q06n
  rw [q008]
  simp [rsE,rsX,subs,rnHq,rnVq]
 |cons n r=>
  have k1:=q0l7 j ok hs Z g a c G B hB n r hj
  have hx':j.notes[0]? =some n:=by rw [hj];rfl
  have hix:=fun H k=>q00o H q00h (k:=k) (s:=2) hx' rfl
  have key:=q0eb j ok hs Z (cGeom g++[a,.nils,c]) 0 n hx' (sli n.pens) G B hB
  have w:IntKind.i64.wrap 1=1:=w64 (by omega) (by omega)
  have hm:1<most:=by unfold most;omega
  have hlt:0<j.notes.length:=by rw [hj];exact Nat.zero_lt_succ _
  simp only [q00h,Int.natCast_zero] at hix
  rw [←hj]
  refine Eq.trans ?_ (k1.trans (by rw [hj];rfl))
  conv=>lhs;unfold q06n
  rw [q008]
  cases hL:n.lines with
  |nil=>
   simp [rlE,rlX,hL] at key
   simp [rsE,rsX,hix,subs,q001,hlt,key,hm,rnHp,rnV,rnH,rnsV,rnsH,lineV,hL,w,upV,okEl]
   rfl
  |cons y q=>
   simp [rlE,rlX,hL,q025] at key
   simp [rsE,rsX,hix,subs,q001,hlt,key,hm,rnHp,rnV,rnH,rnsV,rnsH,lineV,hL,w,upV,okEl,q025]
   rfl
theorem q05y {α:Type} (env:List (Nat×V)) (loc:List (Nat×List V)) (hp:Heap) (base:Nat) (dirty:List Nat) (id s:Nat) (enc:α→List PV) (l:List α) (h:Eng.rowAt hp id=some (s,upV (l.map enc))∨l=[]) (hb:base≤id):
  Eng.freeze ⟨env,loc,hp,base,dirty⟩ (q00e id l)=some (.p (.sl (l.map enc))):=by
 rcases h with h|h
 ·cases l with
  |nil=>rfl
  |cons x r=>rw [q04w];simp [hb,h]
 ·subst h;rfl
theorem q07m {α:Type} (s:Nat) (enc:α→List PV) (H U:Heap) (l:List α):Eng.rowAt (H++(rowsG s enc l++U)) H.length=some (s,upV (l.map enc))∨l=[]:=by
 cases l with
 |nil=>exact .inr rfl
 |cons x r=>left;simp [q025]
theorem q0hd (base id:Nat) (G:Heap) (d:Nat) (L:List Int) (h:Eng.rowAt G id=some (1,upV (L.map encI))∨L=[]) (hb:base≤id):frz base G (d+1) (lineV id L)=some (.sl (L.map encI)):=by
 cases L with
 |nil=>rfl
 |cons x r=>
  rcases h with h|h
  ·unfold lineV;rw [if_neg (by simp),q09o,if_pos hb,h,q0ay];simp
  ·cases h
theorem q0o0 (s:Int) (base:Nat): ∀(l:List Note) (H0 U:Heap),base≤H0.length→allO (allO (frz base (H0++(rnsH s l++U)) 2)) (rnsV s H0.length l)=some (l.map fun n=>q00h (noteG s n))
 |[],_,_,_=>rfl
 |n::r,H0,U,hb=>by
  have ih:=q0o0 s base r (H0++rnH s n) U (by simp;omega)
  rw [List.append_assoc,List.length_append] at ih
  have f1:=q0hd base H0.length (H0++(rnH s n++(rnsH s r++U))) 1 (n.lines.map fun x=>upG x s) (q07m 1 encI H0 _ _) hb
  simp only [rnsH,rnsV,rnV,List.append_assoc,allO,f1,ih,List.map_cons]
  rfl
theorem q0o1 (env:List (Nat×V)) (loc:List (Nat×List V)) (base:Nat) (dirty:List Nat) (s:Int) (l:List Note) (G U:Heap) (hb:base≤G.length):
  Eng.freeze ⟨env,loc,rnHq s l G++U,base,dirty⟩ (rnVq s l G)=some (.p (.sl ((l.map (noteG s)).map q00h))):=by
 cases l with
 |nil=>rfl
 |cons n r=>
  have h1:=q0hd base G.length (rnHq s (n::r) G++U) 1 (n.lines.map fun x=>upG x s) (by
   have:=q07m 1 encI G (DObj.row 2 (rnV s G.length n::rnsV s (G.length+(rnH s n).length+1) r)::(rnsH s r++U)) (n.lines.map fun x=>upG x s)
   simpa [rnHq,rnHp,rnH] using this) hb
  have h2:=q0o0 s base r (G++(rnH s n++[DObj.row 2 (rnV s G.length n::rnsV s (G.length+(rnH s n).length+1) r)])) U (by simp;omega)
  have e1:rnHq s (n::r) G++U=G++(rnH s n++[DObj.row 2 (rnV s G.length n::rnsV s (G.length+(rnH s n).length+1) r)])++(rnsH s r++U):=by simp [rnHq,rnHp]
  have e2:(G++(rnH s n++[DObj.row 2 (rnV s G.length n::rnsV s (G.length+(rnH s n).length+1) r)])).length=G.length+(rnH s n).length+1:=by simp;omega
  rw [e2,←e1] at h2
  have h3:Eng.rowAt (rnHq s (n::r) G++U) (G.length+(rnH s n).length)=some (2,rnV s G.length n::rnsV s (G.length+(rnH s n).length+1) r):=by simp [rnHq,rnHp]
  have hl:=q0b4 s r (G.length+(rnH s n).length+1)
  have hb2:base≤G.length+(rnH s n).length:=by omega
  unfold rnVq
  simp only [q0aa,h3,hb2,if_true,frzK,List.length_cons,hl,List.drop_zero]
  rw [List.take_of_length_le (by simp [hl])]
  simp only [allO,rnV] at h1 h2⊢
  rw [h1,h2]
  have e5:(r.map (noteG s)).map q00h=r.map fun n=>q00h (noteG s n):=by rw [List.map_map];rfl
  rw [List.map_cons,List.map_cons,e5]
  rfl
@[simp] theorem q0G4 (s:Int) (l:List Note) (G:Heap):(rnVq s l G).oneB=true:=by cases l<;>rfl
@[simp] theorem q0Bk (s:Int) (l:List Note) (G:Heap):(rnVq s l G).cells=[rnVq s l G] :=by cases l<;>rfl
theorem q0he (s:Int) (l:List Note) (G:Heap):G.length≤(rnHq s l G).length:=by
 cases l with
 |nil=>exact Nat.le_refl _
 |cons n r=>simp [rnHq,rnHp]
theorem q0v0 (s:Int) (l:List Note) (G U:Heap) (i:Nat) (h:i<G.length):Eng.rowAt (rnHq s l G++U) i=Eng.rowAt G i:=by
 cases l with
 |nil=>exact q08w U h
 |cons n r=>simp only [rnHq,rnHp,List.append_assoc];exact q08w _ h
theorem q0hf (j:Job) (ok:okJob j) (H:Heap):clD EE (.p (.fn 80)) [vJob j] H=some (vJob (snapG j),none):=by
 rw [q002 _ _ _ _ _ _ (noP _) fn80]
 have hg:=ok.g
 simp only [q095] at hg
 by_cases c:j.g.grid<1
 ·simp [St.enter,q000,subs,q001,c,snapG]
 ·have i1:=fun H'=>q0e4 j.g.high j.g.grid H' hg.2.2.2.1 hg.2.2.2.2.2.1
  have i2:=fun H'=>q0e4 j.g.first j.g.grid H' hg.2.2.2.2.1 hg.2.2.2.2.2.1
  have i3:=fun H'=>q06x j.g.rule j.g.grid H' hg.2.2.2.2.2.2.1 hg.2.2.2.2.2.1
  have i4:=fun H'=>q06x j.g.sep j.g.grid H' hg.2.2.2.2.2.2.2.1 hg.2.2.2.2.2.1
  have k1:=fun Z=>q0ny j ok hg.2.2.2.2.2.1 Z (geomG j.g) .nils .nils H
  have k2:=fun Z=>q0nz j ok hg.2.2.2.2.2.1 Z (geomG j.g) (q00e H.length (j.items.map (itemG j.g.grid))) .nils (H++rowsG 7 q003 (j.items.map (itemG j.g.grid))) H.length (by simp)
  obtain ⟨G,hG⟩: ∃G,G=H++rowsG 7 q003 (j.items.map (itemG j.g.grid)):=⟨_,rfl⟩
  rw [←hG] at k1 k2
  have k3:=fun Z=>q0l6 j ok hg.2.2.2.2.2.1 Z (geomG j.g) (q00e H.length (j.items.map (itemG j.g.grid))) (rnVq j.g.grid j.notes G) (rnHq j.g.grid j.notes G) H.length (by
   have:=q0he j.g.grid j.notes G
   have:H.length≤G.length:=by rw [hG];simp
   omega)
  have f1:=fun env loc=>q05y env loc (rnHq j.g.grid j.notes G++rowsG 3 q00a (j.floats.map (q01a j.g.grid))) H.length [] H.length 7 q003 (j.items.map (itemG j.g.grid)) (by
   cases hI:j.items.map (itemG j.g.grid) with
   |nil=>exact .inr rfl
   |cons x r=>left;rw [q0v0 _ _ _ _ _ (by rw [hG,hI];simp [q025]),hG,hI];simp [q025]) (Nat.le_refl _)
  have f2:=fun env loc=>q0o1 env loc H.length [] j.g.grid j.notes G (rowsG 3 q00a (j.floats.map (q01a j.g.grid))) (by rw [hG];simp)
  have f3:=fun env loc=>q05y env loc (rnHq j.g.grid j.notes G++rowsG 3 q00a (j.floats.map (q01a j.g.grid))) H.length [] (rnHq j.g.grid j.notes G).length 3 q00a (j.floats.map (q01a j.g.grid)) (by
   have:=q07m 3 q00a (rnHq j.g.grid j.notes G) [] (j.floats.map (q01a j.g.grid))
   simpa using this) (by
   have:=q0he j.g.grid j.notes G
   have:H.length≤G.length:=by rw [hG];simp
   omega)
  have hj:snapG j=⟨geomG j.g,j.items.map (itemG j.g.grid),j.notes.map (noteG j.g.grid),j.floats.map (q01a j.g.grid)⟩:=if_neg c
  rw [hj]
  simp only [rsE,rsX,geomG] at k1 k2 k3
  generalize hu1:q00e H.length (j.items.map (itemG j.g.grid))=u1 at*
  generalize hu2:rnVq j.g.grid j.notes G=u2 at*
  generalize hu3:q00e (rnHq j.g.grid j.notes G).length (j.floats.map (q01a j.g.grid))=u3 at*
  have o1:u1.oneB=true:=by rw [←hu1];simp
  have o2:u2.oneB=true:=by rw [←hu2];simp
  have o3:u3.oneB=true:=by rw [←hu3];simp
  have p1:u1.cells=[u1]:=by rw [←hu1];simp
  have p2:u2.cells=[u2]:=by rw [←hu2];simp
  have p3:u3.cells=[u3]:=by rw [←hu3];simp
  clear hu1 hu2 hu3
  generalize rnHq j.g.grid j.notes G++rowsG 3 q00a (j.floats.map (q01a j.g.grid))=G3 at*
  simp at k1 k2 k3 f1 f2 f3
  simp [St.enter,q000,subs,q001,c,i1,i2,i3,i4,k1,k2,k3,f1,f2,f3,o1,o2,o3,geomG]
end Go.EnvOf
namespace Go.EnvOf
open Go Go.Eng
def encN (x:List Int×List Int):List PV:=[.sl (x.1.map encI),.sl (x.2.map encI)]
@[simp] theorem q0Jj (x:List Int×List Int):(encN x).length=2:=rfl
def notes (l:List (List Int×List Int)):V:= .p (.sl (l.map encN))
theorem q0o2 (H:Heap) (L:List (List Int×List Int)) (k:IntKind) (i:Int) (h0:0≤i) (h1:i<L.length):ixsI H (.p (.sl (L.map encN))) (.p (.int k i)) 2=some (.eptr [.p (.sl ((rd L i).1.map encI)),.p (.sl ((rd L i).2.map encI))] 0):=
 q0j6 H encN L k i 2 (fun _=>rfl) h0 h1
def q02k (l:List (List Int×List Int)):Int:=l.foldr (fun x s=>(x.1.length:Int)+s) 0
theorem q0rc {α:Type} [Inhabited α] (L:List α) (i:Int) (h0:0≤i) (h1:i<L.length):L.drop i.toNat=rd L i::L.drop (i+1).toNat:=by
 have e:(i+1).toNat=i.toNat+1:=by omega
 rw [e,List.drop_eq_getElem_cons (by omega)]
 congr 1
 unfold rd
 have:i.toNat<L.length:=by omega
 simp [List.getD_eq_getElem?_getD,this]
theorem q07y: ∀l,0≤q02k l
 |[]=>by simp [q02k]
 |x::r=>by have:=q07y r;simp only [q02k,List.foldr_cons] at this⊢;omega
theorem q0rd (l:List (List Int×List Int)) (H:Heap) (Bs:Nat) (hl:l.length≤1000000): ∀(n:Nat) (i s:Int),((l.length:Int)-i).toNat=n→0≤i→i≤l.length→0≤s→s+q02k (l.drop i.toNat)≤9223372036854775807→
  evD EE q0c1 ⟨[(3,.p (.int .i64 s)),(6,notes l),(7,.p (.int .i64 l.length)),(8,.p (.int .i64 i))],[],H,Bs,[]⟩=
   some (.exit 0,⟨[(3,.p (.int .i64 (s+q02k (l.drop i.toNat)))),(6,notes l),(7,.p (.int .i64 l.length)),(8,.p (.int .i64 l.length)),(9,.p (.bool false))],[],H,Bs,[]⟩):=by
 intro n
 induction n with
 |zero=>
  intro i s hn h0 h1 h2 h3
  have e:i=l.length:=by omega
  subst e
  unfold q0c1
  rw [q008]
  simp [notes,q02k]
 |succ n ih=>
  intro i s hn h0 h1 h2 h3
  have c:i<(l.length:Int):=by omega
  have w:IntKind.i64.wrap (i+1)=i+1:=q02g _ (by omega) (by omega)
  have hd:=q0rc l i h0 c
  have hs:q02k (l.drop i.toNat)=((rd l i).1.length:Int)+q02k (l.drop (i+1).toNat):=by rw [hd];rfl
  have hnn:=q07y (l.drop (i+1).toNat)
  have w2:IntKind.i64.wrap (s+((rd l i).1.length:Int))=s+((rd l i).1.length:Int):=q02g _ (by omega) (by omega)
  have key:=ih (i+1) (s+((rd l i).1.length:Int)) (by omega) (by omega) (by omega) (by omega) (by omega)
  have e2:s+q02k (l.drop i.toNat)=s+((rd l i).1.length:Int)+q02k (l.drop (i+1).toNat):=by omega
  rw [e2]
  unfold q0c1
  rw [q008]
  simp (disch:=omega) [notes,c,q0o2,subs,q001,w,w2] at key⊢
  exact key
theorem q0re (l:List (List Int×List Int)) (H:Heap) (hl:l.length≤1000000) (hs:q02k l≤9223372036854775807):clD EE (.p (.fn 78)) [notes l] H=some (.p (.int .i64 (q02k l)),none):=by
 rw [q002 _ _ _ _ _ _ (noP _) fn78]
 have key:=q0rd l H H.length hl _ 0 0 rfl (by omega) (by omega) (by omega) (by simpa using hs)
 simp [notes] at key
 simp [notes,St.enter,q000,key]
end Go.EnvOf
namespace Go.EnvOf
open Go Go.Eng
structure small (j:Job):Prop where
 items:j.items.length≤100
 notes:j.notes.length≤100
 floats:j.floats.length≤100
 each: ∀n∈j.notes,n.lines.length≤100∧n.pens.length≤100
def q044 (n:Note):Bool:=decide (100<(n.lines.length:Int))||decide (100<(n.pens.length:Int))
def q098 (j:Job):Bool:=(j.notes.take 100).any q044||decide (100<(j.items.length:Int))||decide (100<(j.notes.length:Int))||decide (100<(j.floats.length:Int))
theorem q0rf {j:Job} (h:q098 j=false):small j:=by
 unfold q098 at h
 simp only [Bool.or_eq_false_iff,decide_eq_false_iff_not] at h
 obtain ⟨⟨⟨h1,h2⟩,h3⟩,h4⟩:=h
 have hl:j.notes.length≤100:=by omega
 rw [List.take_of_length_le hl] at h1
 refine ⟨by omega,hl,by omega,fun n hn=> ?_⟩
 have:=List.any_eq_false.1 h1 n hn
 simp [q044] at this
 omega
def lgE (j:Job) (H:Heap) (i:Nat):St:=⟨[(1,.lptr 1 0),(3,vI i)],[(1,cGeom j.g++[q004 j.items,q00j j.notes,q00g j.floats])],H,H.length,[]⟩
def lgX (j:Job) (H:Heap) (i:Nat):Ex×St:=(.exit 0,⟨[(1,.lptr 1 0),(3,vI i),(12,vB false)],[(1,cGeom j.g++[q004 j.items,q00j j.notes,q00g j.floats])],H,H.length,[]⟩)
def lgB (H:Heap):Ex×St:=(.ret,⟨[(2,vB true)],[],H,H.length,[]⟩)
theorem q0rg (j:Job) (H:Heap):evD EE q0g5 (lgE j H 0)=some (if (j.notes.take 100).any q044=true then lgB H else lgX j H (min 100 j.notes.length)):=by
 unfold q0g5
 refine Eq.trans (q01g (j.notes.take 100) (fun (_:Unit) i=>lgE j H i) (fun _ _=>True) (stepB q044 (lgB H)) (fun _=>lgX j H (min 100 j.notes.length)) (fun _ _=>rfl) ?_ ?_ () 0 trivial (Nat.zero_le _)) (by rw [q05h];rfl)
 ·rintro _ i x-hx
  have hlt:=(List.getElem?_eq_some_iff.1 hx).1
  rw [List.length_take] at hlt
  have hx':j.notes[i]? =some x:=by rw [List.getElem?_take] at hx;split at hx<;>simp_all
  have hl1:i<j.notes.length:=by omega
  have hl2:(i:Int)<100:=by omega
  have w1:IntKind.i64.wrap ((i:Int)+1)=((i+1:Nat):Int):=w64 (by omega) (by omega)
  have hix:=fun H k=>q00o H q00h (k:=k) (s:=2) hx' rfl
  simp only [q00h] at hix
  by_cases a:100<(x.lines.length:Int)
  ·simp [stepB,q044,lgE,lgB,hl1,hl2,hix,subs,a]
  ·by_cases b:100<(x.pens.length:Int)
   ·simp [stepB,q044,lgE,lgB,hl1,hl2,hix,subs,a,b]
   ·simp [stepB,q044,lgE,hl1,hl2,hix,subs,a,b,w1]
 ·rintro _-
  refine ⟨?_,by simp [lgX]⟩
  rw [List.length_take]
  by_cases h:j.notes.length≤100
  ·have e:min 100 j.notes.length=j.notes.length:=by omega
   rw [e]
   simp [lgE,lgX,subs]
  ·have e:min 100 j.notes.length=100:=by omega
   have h2:(100:Int)<j.notes.length:=by omega
   rw [e]
   simp [lgE,lgX,subs,h2]
theorem q0rh (j:Job) (H:Heap):clD EE (.p (.fn 15)) [vJob j] H=some (vB (q098 j),none):=by
 rw [q002 _ _ _ _ _ _ (noP _) fn15]
 have k0:=q0rg j H
 unfold q098
 simp only [lgE,lgX,lgB] at k0
 cases b:(j.notes.take 100).any q044 with
 |true=>
  rw [b,if_pos rfl] at k0
  simp at k0
  simp [St.enter,q000,subs,k0]
 |false=>
  rw [b,if_neg (by simp)] at k0
  simp at k0
  by_cases a1:100<(j.items.length:Int)
  ·simp [St.enter,q000,subs,k0,a1]
  ·by_cases a2:100<(j.notes.length:Int)
   ·simp [St.enter,q000,subs,k0,a1,a2]
   ·simp [St.enter,q000,subs,k0,a1,a2]
structure jobI (j:Job):Prop where
 g:q095 j.g
 items: ∀x∈j.items,q05w x
 notes: ∀n∈j.notes,∀x∈n.lines,I64 x
 floats: ∀x∈j.floats,q0da x
theorem q0hg {j:Job} (h:jobI j) (s:small j):okJob j:=
 ⟨h.g,h.items,fun n hn=>⟨h.notes n hn,by have:=s.each n hn;omega,by have:=s.each n hn;omega⟩,h.floats,by have:=s.items;omega,by have:=s.notes;omega,by have:=s.floats;omega⟩
theorem q0l8 {j:Job} (s:small j):small (snapG j):=by
 unfold snapG
 split
 ·exact s
 ·refine ⟨by simpa using s.items,by simpa using s.notes,by simpa using s.floats,fun n hn=> ?_⟩
  simp only [List.mem_map] at hn
  obtain ⟨m,hm,rfl⟩:=hn
  have:=s.each m hm
  simpa [noteG] using this
theorem q067 (j:Job): ∃J,vJob j= .agg J∧J.length=22∧subs J 0 22=some J∧ ¬J=[]∧J.all V.oneB=true∧J.map normC=J:=⟨_,rfl,rfl,rfl,by simp,rfl,rfl⟩
def q019 (f:Float):Bool:=decide (0≤f.c)&&decide (f.c≤2)&&decide (1≤f.h)&&decide (f.h≤1073741823)&&decide (0≤f.w)&&decide (f.w≤3)
theorem q0f4 (f:Float) (H:Heap):clD EE (.p (.fn 408)) [q05u f] H=some (vI (if q019 f=true then 0 else 10),none):=by
 rw [q002 _ _ _ _ _ _ (noP _) fn408]
 unfold q019
 by_cases a1:0≤f.c
 ·have b1: ¬f.c<0:=by omega
  by_cases a2:f.c≤2
  ·have b2: ¬3≤f.c:=by omega
   by_cases a3:1≤f.h
   ·have b3: ¬f.h<1:=by omega
    by_cases a4:f.h≤1073741823
    ·have b4: ¬1073741823<f.h:=by omega
     by_cases a5:0≤f.w
     ·have b5: ¬f.w<0:=by omega
      by_cases a6:f.w≤3
      ·have b6: ¬3<f.w:=by omega
       simp [St.enter,q000,subs,a1,a2,a3,a4,a5,a6,b1,b2,b3,b4,b5,b6]
      ·have b6:3<f.w:=by omega
       simp [St.enter,q000,subs,a1,a2,a3,a4,a5,a6,b1,b2,b3,b4,b5,b6]
     ·have b5:f.w<0:=by omega
      simp [St.enter,q000,subs,a1,a2,a3,a4,a5,b1,b2,b3,b4,b5]
    ·have b4:1073741823<f.h:=by omega
     simp [St.enter,q000,subs,a1,a2,a3,a4,b1,b2,b3,b4]
   ·have b3:f.h<1:=by omega
    simp [St.enter,q000,subs,a1,a2,a3,b1,b2,b3]
  ·have b2:3≤f.c:=by omega
   simp [St.enter,q000,subs,a1,a2,b1,b2]
 ·have b1:f.c<0:=by omega
  simp [St.enter,q000,subs,a1,b1]
theorem q0de (f:Float) (H:Heap):clD EE (.p (.fn 206)) [q05u f] H=some (vB (q019 f),none):=by
 rw [q002 _ _ _ _ _ _ (noP _) fn206]
 unfold q019
 by_cases a1:0≤f.c
 ·by_cases a2:f.c≤2
  ·by_cases a3:1≤f.h
   ·by_cases a4:f.h≤1073741823
    ·by_cases a5:0≤f.w
     ·simp [St.enter,q000,subs,a1,a2,a3,a4,a5]
     ·simp [St.enter,q000,subs,a1,a2,a3,a4,a5]
    ·simp [St.enter,q000,subs,a1,a2,a3,a4]
   ·simp [St.enter,q000,subs,a1,a2,a3]
  ·simp [St.enter,q000,subs,a1,a2]
 ·simp [St.enter,q000,subs,a1]
theorem q0l9:EE.fns 440=some (idxI 7 true):=fn440
theorem q0la:EE.fns 446=some (idxI 2 true):=fn446
theorem q0ae:EE.fns 449=some (idxI 3 true):=fn449
theorem q0iu (x:Item) (p:Nat) (H:Heap) (hb:Eng.boxAt H p=some [.p (.fn 402)]):clD EE (.fn (.func 441) [] [.ptr p 0]) [vItem x] H=some (vB (!q00x x),none):=by
 rw [q020,q002 _ _ _ _ _ _ (noP _) fn441]
 have h:=q0ha x H
 cases e:q00x x<;>rw [e] at h<;>simp at h<;>simp [St.enter,q000,subs,hb,h]
theorem q0iv (x:Note) (hx:x.lines.length≤1000000∧x.pens.length≤1000000) (p:Nat) (H:Heap) (hb:Eng.boxAt H p=some [.p (.fn 405)]):clD EE (.fn (.func 447) [] [.ptr p 0]) [vNote x] H=some (vB (q01k x.lines x.pens),none):=by
 rw [q020,q002 _ _ _ _ _ _ (noP _) fn447]
 have h:=q0r8 x.lines x.pens H (by omega) (by omega)
 simp only [note,sli] at h
 cases e:q01k x.lines x.pens<;>rw [e] at h<;>simp at h<;>simp [St.enter,q000,subs,hb,h]
theorem q0hh (x:Float) (p:Nat) (H:Heap) (hb:Eng.boxAt H p=some [.p (.fn 408)]):clD EE (.fn (.func 450) [] [.ptr p 0]) [q05u x] H=some (vB (!q019 x),none):=by
 rw [q020,q002 _ _ _ _ _ _ (noP _) fn450]
 have h:=q0f4 x H
 cases e:q019 x<;>rw [e] at h<;>simp at h<;>simp [St.enter,q000,subs,hb,h]
theorem q0hi (l:List Item) (hl:l.length≤1000000) (p:Nat) (H:Heap) (hb:Eng.boxAt H p=some [.p (.fn 402)]):clD EE (.p (.fn 439)) [q004 l,.ptr p 0] H=some (vI (idxF (fun x=> !q00x x) 0 l),none):=by
 rw [q002 _ _ _ _ _ _ (noP _) fn439]
 have h:=q08y _ 7 true q003 (fun x=>vItem x) (noP _) q0l9 (fun _=>rfl) (fun _=>rfl) (fun _=>rfl) (fun _=>rfl) l (by omega) (.fn (.func 441) [] [.ptr p 0]) (fun x=> !q00x x) H (fun x _=>q0iu x p H hb)
 simp [St.enter,q000,h]
theorem q0hj (l:List Note) (hl:l.length≤1000000) (hx: ∀x∈l,x.lines.length≤1000000∧x.pens.length≤1000000) (p:Nat) (H:Heap) (hb:Eng.boxAt H p=some [.p (.fn 405)]):clD EE (.p (.fn 445)) [q00j l,.ptr p 0] H=some (vI (idxF (fun x=>q01k x.lines x.pens) 0 l),none):=by
 rw [q002 _ _ _ _ _ _ (noP _) fn445]
 have h:=q08y _ 2 true q00h (fun x=>vNote x) (noP _) q0la (fun _=>rfl) (fun _=>rfl) (fun _=>rfl) (fun _=>rfl) l (by omega) (.fn (.func 447) [] [.ptr p 0]) (fun x=>q01k x.lines x.pens) H (fun x h=>q0iv x (hx x h) p H hb)
 simp [St.enter,q000,h]
theorem q0f5 (l:List Float) (hl:l.length≤1000000) (p:Nat) (H:Heap) (hb:Eng.boxAt H p=some [.p (.fn 408)]):clD EE (.p (.fn 448)) [q00g l,.ptr p 0] H=some (vI (idxF (fun x=> !q019 x) 0 l),none):=by
 rw [q002 _ _ _ _ _ _ (noP _) fn448]
 have h:=q08y _ 3 true q00a (fun x=>q05u x) (noP _) q0ae (fun _=>rfl) (fun _=>rfl) (fun _=>rfl) (fun _=>rfl) l (by omega) (.fn (.func 450) [] [.ptr p 0]) (fun x=> !q019 x) H (fun x _=>q0hh x p H hb)
 simp [St.enter,q000,h]
def refF (k:Int) (most:Nat):Nat→Nat→List Item→Int
 |i,n,[]=>if n<most then i else-1
 |i,n,x::r=>if x.k=k then (if x.n=n∧n<most then refF k most (i+1) (n+1) r else i) else refF k most (i+1) n r
def raE (l:List Item) (k:Int) (most:Nat) (H:Heap) (n i:Nat):St:=⟨[(0,q004 l),(1,vI k),(2,vI most),(7,vI n),(8,vI i)],[],H,H.length,[]⟩
def raS (k:Int) (most:Nat) (H:Heap) (n i:Nat) (x:Item):Nat⊕(Ex×St):=if x.k=k then (if x.n=n∧n<most then .inl (n+1) else .inr (.ret,⟨[(6,vI i)],[],H,H.length,[]⟩)) else .inl n
def raX (l:List Item) (k:Int) (most:Nat) (H:Heap) (n:Nat):Ex×St:=(.exit 0,⟨[(0,q004 l),(1,vI k),(2,vI most),(7,vI n),(8,vI l.length),(12,vB false)],[],H,H.length,[]⟩)
theorem ra_lp (l:List Item) (k:Int) (most:Nat) (H:Heap) (hl:l.length≤1000000):evD EE q0cz (raE l k most H 0 0)=some (rng (raS k most H) (raX l k most H) 0 0 l):=by
 unfold q0cz
 refine q01g l (raE l k most H) (fun n i=>n≤i) (raS k most H) (raX l k most H) (fun _ _=>rfl) ?_ ?_ 0 0 (Nat.le_refl _) (Nat.zero_le _)
 ·intro n i x hn hx
  have hlt:=(List.getElem?_eq_some_iff.1 hx).1
  have hix:=fun H k=>q00o H q003 (k:=k) (s:=7) hx rfl
  have w:IntKind.i64.wrap ((i:Int)+1)=((i+1:Nat):Int):=w64 (by omega) (by omega)
  have w2:IntKind.i64.wrap ((n:Int)+1)=((n+1:Nat):Int):=w64 (by omega) (by omega)
  simp only [q003] at hix
  by_cases hk:x.k=k
  ·by_cases hn:x.n=n
   ·by_cases hm:n<most
    ·have hm2: ¬(most:Int)≤n:=by omega
     simp [raS,raE,hlt,hix,subs,hk,hn,hm,hm2,w,w2];omega
    ·have hm2:(most:Int)≤n:=by omega
     simp [raS,raE,hlt,hix,subs,hk,hn,hm,hm2]
   ·simp [raS,raE,hlt,hix,subs,hk,hn]
  ·simp [raS,raE,hlt,hix,subs,hk,w];omega
 ·intro n hn
  simp [raE,raX]
theorem q0hk (l:List Item) (k:Int) (most:Nat) (H:Heap): ∀(r:List Item) (n i:Nat),(∃n',rng (raS k most H) (raX l k most H) n i r=raX l k most H n'∧refF k most i n r=if n'<most then ((i+r.length:Nat):Int) else-1)∨
  ∃j:Nat,rng (raS k most H) (raX l k most H) n i r=(.ret,⟨[(6,vI j)],[],H,H.length,[]⟩)∧refF k most i n r=j
 |[],n,i=> .inl ⟨n,rfl,rfl⟩
 |x::r,n,i=>by
  have e: ∀a:Nat,i+1+r.length=i+(x::r).length:=fun _=>by simp;omega
  by_cases hk:x.k=k
  ·by_cases hn:x.n=n∧n<most
   ·have:=q0hk l k most H r (n+1) (i+1)
    rw [e 0] at this
    simpa only [rng,raS,refF,hk,hn,if_true,and_self] using this
   ·exact .inr ⟨i,by simp only [rng,raS,if_pos hk,if_neg hn],by simp only [refF,if_pos hk,if_neg hn]⟩
  ·have:=q0hk l k most H r n (i+1)
   rw [e 0] at this
   simpa only [rng,raS,refF,hk,if_false] using this
theorem q0af (l:List Item) (k:Int) (most:Nat) (H:Heap) (hl:l.length≤1000000):clD EE (.p (.fn 207)) [q004 l,vI k,vI most] H=some (vI (refF k most 0 0 l),none):=by
 rw [q002 _ _ _ _ _ _ (noP _) fn207]
 have key:=ra_lp l k most H hl
 rcases q0hk l k most H l 0 0 with ⟨n',h1,h2⟩|⟨j,h1,h2⟩
 ·rw [h1] at key
  simp only [Nat.zero_add] at h2
  by_cases c:n'<most
  ·simp [raE,raX] at key
   simp [St.enter,q000,key,h2,c]
  ·simp [raE,raX] at key
   simp [St.enter,q000,key,h2,c]
 ·rw [h1] at key
  simp [raE] at key
  simp [St.enter,q000,key,h2]
theorem q07n (k:Int): ∀(l:List Item) (i n:Nat),anchF k i n l= -1∨(i:Int)≤anchF k i n l
 |[],_,_=> .inl rfl
 |x::r,i,n=>by
  simp only [anchF]
  split
  ·split
   ·rcases q07n k r (i+1) (n+1) with h|h
    ·exact .inl h
    ·exact .inr (by omega)
   ·exact .inr (Int.le_refl _)
  ·rcases q07n k r (i+1) n with h|h
   ·exact .inl h
   ·exact .inr (by omega)
def rfE (l:List Item) (k:Int) (most:Nat) (at_:Int) (H:Heap) (n i:Nat):St:=⟨[(0,q004 l),(1,vI k),(2,vI most),(7,vI at_),(8,vI n),(14,q004 l),(15,vI l.length),(16,vI i)],[],H,H.length,[]⟩
def rfS (k:Int) (most:Nat) (at_:Int) (H:Heap) (n i:Nat) (x:Item):Nat⊕(Ex×St):=if (i:Int)=at_ then .inr (.ret,⟨[(6,vI i)],[],H,H.length,[]⟩) else if x.k=k then (if n=most then .inr (.ret,⟨[(6,vI i)],[],H,H.length,[]⟩) else .inl (n+1)) else .inl n
def rfX (l:List Item) (k:Int) (most:Nat) (at_:Int) (H:Heap) (n:Nat):Ex×St:=(.exit 0,⟨[(0,q004 l),(1,vI k),(2,vI most),(7,vI at_),(8,vI n),(14,q004 l),(15,vI l.length),(16,vI l.length),(17,vB false)],[],H,H.length,[]⟩)
theorem rf_lp (l:List Item) (k:Int) (most:Nat) (at_:Int) (H:Heap) (hl:l.length≤1000000):evD EE q0d7 (rfE l k most at_ H 0 0)=some (rng (rfS k most at_ H) (rfX l k most at_ H) 0 0 l):=by
 unfold q0d7
 refine q01g l (rfE l k most at_ H) (fun n i=>n≤i) (rfS k most at_ H) (rfX l k most at_ H) (fun _ _=>rfl) ?_ ?_ 0 0 (Nat.le_refl _) (Nat.zero_le _)
 ·intro n i x hn hx
  have hlt:=(List.getElem?_eq_some_iff.1 hx).1
  have hix:=fun H k=>q00o H q003 (k:=k) (s:=7) hx rfl
  have w:IntKind.i64.wrap ((i:Int)+1)=((i+1:Nat):Int):=w64 (by omega) (by omega)
  have w2:IntKind.i64.wrap ((n:Int)+1)=((n+1:Nat):Int):=w64 (by omega) (by omega)
  simp only [q003] at hix
  by_cases ha:(i:Int)=at_
  ·subst ha
   simp [rfS,rfE,hlt,hix,subs,q001]
  ·by_cases hk:x.k=k
   ·by_cases hm:n=most
    ·simp [rfS,rfE,hlt,hix,subs,q001,ha,hk,hm]
    ·have hm2: ¬(n:Int)=most:=by omega
     simp [rfS,rfE,hlt,hix,subs,q001,ha,hk,hm,hm2,w,w2];omega
   ·simp [rfS,rfE,hlt,hix,subs,q001,ha,hk,w];omega
 ·intro n hn
  simp [rfE,rfX]
theorem q0hl (l:List Item) (k:Int) (most:Nat) (at_:Int) (H:Heap): ∀(r:List Item) (n i:Nat),n≤most→at_=anchF k i n r→(∃n',rng (rfS k most at_ H) (rfX l k most at_ H) n i r=rfX l k most at_ H n'∧refF k most i n r=if n'<most then ((i+r.length:Nat):Int) else-1)∨
  ∃j:Nat,rng (rfS k most at_ H) (rfX l k most at_ H) n i r=(.ret,⟨[(6,vI j)],[],H,H.length,[]⟩)∧refF k most i n r=j
 |[],n,i,_,_=> .inl ⟨n,rfl,rfl⟩
 |x::r,n,i,hm,ha=>by
  have e:i+1+r.length=i+(x::r).length:=by simp;omega
  simp only [anchF] at ha
  by_cases hk:x.k=k
  ·rw [if_pos hk] at ha
   by_cases hn:x.n=n
   ·rw [if_pos hn] at ha
    have hne: ¬(i:Int)=at_:=by
     rcases q07n k r (i+1) (n+1) with h|h<;>omega
    by_cases hmm:n=most
    ·refine .inr ⟨i,by simp only [rng,rfS,if_neg hne,if_pos hk,if_pos hmm],?_⟩
     have: ¬(x.n=n∧n<most):=by omega
     simp only [refF,if_pos hk,if_neg this]
    ·have hlt:x.n=n∧n<most:=⟨hn,by omega⟩
     have:=q0hl l k most at_ H r (n+1) (i+1) (by omega) ha
     rw [e] at this
     simp only [rng,rfS,if_neg hne,if_pos hk,if_neg hmm,refF,if_pos hlt]
     exact this
   ·rw [if_neg hn] at ha
    have: ¬(x.n=n∧n<most):=fun h=>hn h.1
    exact .inr ⟨i,by simp only [rng,rfS,if_pos ha.symm],by simp only [refF,if_pos hk,if_neg this]⟩
  ·rw [if_neg hk] at ha
   have hne: ¬(i:Int)=at_:=by
    rcases q07n k r (i+1) n with h|h<;>omega
   have:=q0hl l k most at_ H r n (i+1) hm ha
   rw [e] at this
   simp only [rng,rfS,if_neg hne,if_neg hk,refF]
   exact this
theorem q0k1 (l:List Item) (k:Int) (most:Nat) (H:Heap) (hl:l.length≤1000000):clD EE (.p (.fn 451)) [q004 l,vI k,vI most] H=some (vI (refF k most 0 0 l),none):=by
 rw [q002 _ _ _ _ _ _ (noP _) fn451]
 have h0:=q0uo l k H hl
 have key:=rf_lp l k most (anchF k 0 0 l) H hl
 rcases q0hl l k most (anchF k 0 0 l) H l 0 0 (Nat.zero_le _) rfl with ⟨n',h1,h2⟩|⟨j,h1,h2⟩
 ·rw [h1] at key
  simp only [Nat.zero_add] at h2
  by_cases c:n'<most
  ·simp [rfE,rfX] at key
   simp [St.enter,q000,h0,key,h2,c]
  ·simp [rfE,rfX] at key
   simp [St.enter,q000,h0,key,h2,c]
 ·rw [h1] at key
  simp [rfE] at key
  simp [St.enter,q000,h0,key,h2]
def yes (b:Bool):Int:=if b=true then 0 else-1
def q0cc (j:Job):Int:=let a:=refF 5 j.notes.length 0 0 j.items;let b:=refF 6 j.floats.length 0 0 j.items;if a<0∨b<0 then max a b else min a b
def tallF (j:Job):Int:=idxF (fun f=>decide ((snapG j).g.first<f.h)) 0 (snapG j).floats
section
variable (j:Job)
theorem c1_ev (H:Heap):clD EE (.p (.fn 394)) [vJob j] H=some (vB (decide (4096<(j.items.length:Int))),none):=by
 rw [q002 _ _ _ _ _ _ (noP _) fn394]
 simp [St.enter,q000,subs]
theorem c2_ev (H:Heap):clD EE (.p (.fn 395)) [vJob j] H=some (vB (decide (256<(j.floats.length:Int))),none):=by
 rw [q002 _ _ _ _ _ _ (noP _) fn395]
 simp [St.enter,q000,subs]
theorem c3_ev (H:Heap):clD EE (.p (.fn 396)) [vJob j] H=some (vB (decide (512<(j.notes.length:Int))),none):=by
 rw [q002 _ _ _ _ _ _ (noP _) fn396]
 simp [St.enter,q000,subs]
theorem c4_ev (H:Heap):clD EE (.p (.fn 397)) [vJob j] H=some (vB (decide (geomF j.g=6)),none):=by
 rw [q002 _ _ _ _ _ _ (noP _) fn397]
 have h:=q08z j.g H
 simp [St.enter,q000,subs,h]
theorem c5_ev (H:Heap):clD EE (.p (.fn 399)) [vJob j] H=some (vB (decide (geomF j.g=7)),none):=by
 rw [q002 _ _ _ _ _ _ (noP _) fn399]
 have h:=q08z j.g H
 simp [St.enter,q000,subs,h]
theorem q0ri (f:FuncId) (b:Bool) (p:Nat) (H:Heap) (hb:Eng.boxAt H p=some [.p (.fn f)]) (hf:clD EE (.p (.fn f)) [vJob j] H=some (vB b,none)):clD EE (.fn (.func 436) [] [.ptr p 0]) [vJob j] H=some (vI (yes b),none):=by
 rw [q020,q002 _ _ _ _ _ _ (noP _) fn436]
 obtain ⟨J,hJ,q1,q2,q3,q4⟩:=q067 j
 rw [hJ] at hf⊢
 have e:subs [V.p (.fn f)] 0 1=some [.p (.fn f)]:=rfl
 cases b<;>simp [-List.all_eq_true,St.enter,q000,q1,q2,q3,q4,hb,e,hf,yes]
theorem q0o3 (g:FuncId) (H:Heap):clD EE (.p (.fn 401)) [.p (.fn g)] H=some (.fn (.func 439) [] [.ptr H.length 0],some (H++[.box [.p (.fn g)]],[])):=by
 rw [q002 _ _ _ _ _ _ (noP _) fn401]
 simp [St.enter,q000]
theorem q0o4 (g:FuncId) (H:Heap):clD EE (.p (.fn 404)) [.p (.fn g)] H=some (.fn (.func 445) [] [.ptr H.length 0],some (H++[.box [.p (.fn g)]],[])):=by
 rw [q002 _ _ _ _ _ _ (noP _) fn404]
 simp [St.enter,q000]
theorem q0o5 (g:FuncId) (H:Heap):clD EE (.p (.fn 407)) [.p (.fn g)] H=some (.fn (.func 448) [] [.ptr H.length 0],some (H++[.box [.p (.fn g)]],[])):=by
 rw [q002 _ _ _ _ _ _ (noP _) fn407]
 simp [St.enter,q000]
theorem c6_ev (ok:okJob j) (H:Heap):clD EE (.p (.fn 400)) [vJob j] H=some (vI (idxF (fun x=> !q00x x) 0 j.items),none):=by
 rw [q002 _ _ _ _ _ _ (noP _) fn400]
 have h:=q0hi j.items ok.n1 H.length (H++[.box [.p (.fn 402)]]) (by simp)
 simp [St.enter,q000,subs,q0o3,h]
theorem c7_ev (ok:okJob j) (H:Heap):clD EE (.p (.fn 403)) [vJob j] H=some (vI (idxF (fun x=>q01k x.lines x.pens) 0 j.notes),none):=by
 rw [q002 _ _ _ _ _ _ (noP _) fn403]
 have h:=q0hj j.notes ok.n2 (fun x hx=>(ok.notes x hx).2) H.length (H++[.box [.p (.fn 405)]]) (by simp)
 simp [St.enter,q000,subs,q0o4,h]
theorem c8_ev (ok:okJob j) (H:Heap):clD EE (.p (.fn 406)) [vJob j] H=some (vI (idxF (fun x=> !q019 x) 0 j.floats),none):=by
 rw [q002 _ _ _ _ _ _ (noP _) fn406]
 have h:=q0f5 j.floats ok.n3 H.length (H++[.box [.p (.fn 408)]]) (by simp)
 simp [St.enter,q000,subs,q0o5,h]
theorem c9_ev (ok:okJob j) (H:Heap):clD EE (.p (.fn 409)) [vJob j] H=some (vI (q0cc j),none):=by
 rw [q002 _ _ _ _ _ _ (noP _) fn409]
 have h1:=q0k1 j.items 5 j.notes.length H ok.n1
 have h2:=q0k1 j.items 6 j.floats.length H ok.n1
 unfold q0cc
 generalize refF 5 j.notes.length 0 0 j.items=a at*
 generalize refF 6 j.floats.length 0 0 j.items=b at*
 by_cases c1:a<0
 ·simp [St.enter,q000,subs,h1,h2,c1]
 ·by_cases c2:b<0
  ·simp [St.enter,q000,subs,h1,h2,c1,c2]
  ·simp [St.enter,q000,subs,h1,h2,c1,c2]
theorem q0rj (f:Float) (first:Int) (p:Nat) (H:Heap) (cs:List V) (hb:Eng.boxAt H p=some cs) (hc:subs cs 4 1=some [vI first]):clD EE (.fn (.func 452) [] [.ptr p 0]) [q05u f] H=some (vB (decide (first<f.h)),none):=by
 rw [q020,q002 _ _ _ _ _ _ (noP _) fn452]
 have e:subs [vI f.c,vI f.h,vI f.w] 1 1=some [vI f.h]:=rfl
 simp [St.enter,q000,hb,hc,e]
theorem q0lb (j:Job): ∃J,vJob j= .agg J∧J.length=22∧subs J 0 22=some J∧ ¬J=[]∧J.all V.oneB=true∧subs J 4 1=some [vI j.g.first]∧subs J 21 1=some [q00g j.floats]∧J.map normC=J:=⟨_,rfl,rfl,rfl,by simp,rfl,rfl,rfl,rfl⟩
theorem q0ws (ok:okJob j) (n3:(snapG j).floats.length≤1000000) (H:Heap):clD EE (.p (.fn 410)) [vJob j] H=some (vI (tallF j),none):=by
 rw [q002 _ _ _ _ _ _ (noP _) fn410]
 have h1:=q0k0 j ok H
 obtain ⟨J,hJ,q1,q2,q3,q4⟩:=q067 j
 obtain ⟨M,hM,m1,m2,m3,m4,m5,m6⟩:=q0lb (snapG j)
 have h2:=q08y _ 3 true q00a (fun x=>q05u x) (noP _) q0ae (fun _=>rfl) (fun _=>rfl) (fun _=>rfl) (fun _=>rfl) (snapG j).floats (by omega) (.fn (.func 452) [] [.ptr H.length 0]) (fun f=>decide ((snapG j).g.first<f.h)) (H++[.box M])
  (fun x _=>q0rj x (snapG j).g.first H.length (H++[.box M]) M (by simp) m5)
 unfold tallF
 rw [hJ,hM] at h1
 rw [hJ]
 have e:q001 (α:=V) [.p (.int .i64 0),.p (.int .i64 0),.p (.int .i64 0),.p (.int .i64 0),.p (.int .i64 0),.p (.int .i64 0),.p (.int .i64 0),.p (.int .i64 0),.p (.int .i64 0),.p (.int .i64 0),.p (.int .i64 0),.p (.int .i64 0),.p (.int .i64 0),.p (.int .i64 0),.p (.int .i64 0),.p (.int .i64 0),.p (.int .i64 0),.p (.int .i64 0),.p (.bool false),.nils,.nils,.nils] 0 M=some M:=by simp [q001,m1]
 simp [-List.all_eq_true,St.enter,q000,q1,q2,q3,q4,m1,m2,m3,m4,m6,e,h1,h2]
def whenV (n:Nat):V:= .fn (.func 436) [] [.ptr n 0]
def q01m (n:Nat):List (Int×V×Int):=
 [(3,whenV n,yes (decide (4096<(j.items.length:Int)))),(4,whenV (n+1),yes (decide (256<(j.floats.length:Int)))),(5,whenV (n+2),yes (decide (512<(j.notes.length:Int)))),
  (6,whenV (n+3),yes (decide (geomF j.g=6))),(7,whenV (n+4),yes (decide (geomF j.g=7))),
  (8,.p (.fn 400),idxF (fun x=> !q00x x) 0 j.items),(9,.p (.fn 403),idxF (fun x=>q01k x.lines x.pens) 0 j.notes),(10,.p (.fn 406),idxF (fun x=> !q019 x) 0 j.floats),
  (11,.p (.fn 409),q0cc j),(12,.p (.fn 410),tallF j)]
def q02m (c:Int×V×Int):List V:=[vI c.1,c.2.1]
def q03o:Heap:=[.box [.p (.fn 394)],.box [.p (.fn 395)],.box [.p (.fn 396)],.box [.p (.fn 397)],.box [.p (.fn 399)]]
theorem q0v1 (g:FuncId) (H:Heap):clD EE (.p (.fn 393)) [.p (.fn g)] H=some (whenV H.length,some (H++[.box [.p (.fn g)]],[])):=by
 rw [q002 _ _ _ _ _ _ (noP _) fn393]
 simp [St.enter,q000,whenV]
theorem q0iw (H:Heap):clD EE (.p (.fn 329)) [] H=some (.vsl ((q01m j H.length).map q02m),some (H++q03o,[])):=by
 rw [q002 _ _ _ _ _ _ (noP _) fn329]
 simp [St.enter,q000,q001,q0v1,whenV,q01m,q02m,q03o]
theorem q0ix (ok:okJob j) (n3:(snapG j).floats.length≤1000000) (H:Heap): ∀c∈q01m j H.length,clD EE c.2.1 [vJob j] (H++q03o)=some (vI c.2.2,none)∧c.2.1.oneB=true∧c.2.1.cells=[c.2.1]∧c.2.1.notL=true:=by
 intro c hc
 have wh: ∀(i:Nat) (f:FuncId) (b:Bool),q03o[i]? =some (.box [.p (.fn f)])→clD EE (.p (.fn f)) [vJob j] (H++q03o)=some (vB b,none)→clD EE (whenV (H.length+i)) [vJob j] (H++q03o)=some (vI (yes b),none):=fun i f b hi hf=>by
  refine q0ri j f b (H.length+i) _ ?_ hf
  rw [q08v];unfold Eng.boxAt;rw [hi]
 simp only [q01m,List.mem_cons,List.not_mem_nil,or_false] at hc
 rcases hc with rfl|rfl|rfl|rfl|rfl|rfl|rfl|rfl|rfl|rfl
 ·exact ⟨wh 0 _ _ rfl (c1_ev j _),rfl,rfl,rfl⟩
 ·exact ⟨wh 1 _ _ rfl (c2_ev j _),rfl,rfl,rfl⟩
 ·exact ⟨wh 2 _ _ rfl (c3_ev j _),rfl,rfl,rfl⟩
 ·exact ⟨wh 3 _ _ rfl (c4_ev j _),rfl,rfl,rfl⟩
 ·exact ⟨wh 4 _ _ rfl (c5_ev j _),rfl,rfl,rfl⟩
 ·exact ⟨c6_ev j ok _,rfl,rfl,rfl⟩
 ·exact ⟨c7_ev j ok _,rfl,rfl,rfl⟩
 ·exact ⟨c8_ev j ok _,rfl,rfl,rfl⟩
 ·exact ⟨c9_ev j ok _,rfl,rfl,rfl⟩
 ·exact ⟨q0ws j ok n3 _,rfl,rfl,rfl⟩
def q03p:List (Int×V×Int)→Int×Int
 |[]=>(0,0)
 |c::r=>if 0≤c.2.2 then (c.1,c.2.2) else q03p r
def q023:Int×Int:=q03p (q01m j 0)
theorem q0o6 (n:Nat):q03p (q01m j n)=q023 j:=by simp [q03p,q01m,q023]
def ckE (J:List V) (L:List (Int×V×Int)) (H:Heap) (B:Nat) (i:Nat):St:=⟨[(1,.lptr 1 0),(7,.vsl (L.map q02m)),(8,vI L.length),(9,vI i)],[(1,J)],H,B,[]⟩
def ckX (J:List V) (L:List (Int×V×Int)) (H:Heap) (B:Nat):Ex×St:=(.exit 0,⟨[(1,.lptr 1 0),(7,.vsl (L.map q02m)),(8,vI L.length),(9,vI L.length),(10,vB false)],[(1,J)],H,B,[]⟩)
def ckS (H:Heap) (B:Nat) (_:Unit) (_:Nat) (c:Int×V×Int):Unit⊕(Ex×St):=if 0≤c.2.2 then .inr (.ret,⟨[(2,vI c.1),(3,vI c.2.2)],[],H,B,[]⟩) else .inl ()
theorem q0o7 (J:List V) (H:Heap) (B:Nat) (fin:Ex×St): ∀(l:List (Int×V×Int)) (i:Nat),(rng (ckS H B) (fun _=>fin) () i l=fin∧q03p l=(0,0))∨(rng (ckS H B) (fun _=>fin) () i l=(.ret,⟨[(2,vI (q03p l).1),(3,vI (q03p l).2)],[],H,B,[]⟩))
 |[],_=> .inl ⟨rfl,rfl⟩
 |c::r,i=>by
  simp only [rng,ckS,q03p]
  by_cases h:0≤c.2.2
  ·rw [if_pos h,if_pos h];exact .inr rfl
  ·rw [if_neg h,if_neg h]
   exact q0o7 J H B fin r (i+1)
theorem ck_lp (J:List V) (q1:J.length=22) (q2:subs J 0 22=some J) (q3: ¬J=[]) (q4:J.all V.oneB=true∧J.map normC=J) (L:List (Int×V×Int)) (hn:L.length≤1000) (H:Heap) (B:Nat) (hL: ∀c∈L,clD EE c.2.1 [.agg J] H=some (vI c.2.2,none)∧c.2.1.oneB=true∧c.2.1.cells=[c.2.1]∧c.2.1.notL=true):
  evD EE q0cu (ckE J L H B 0)=some (rng (ckS H B) (fun _=>ckX J L H B) () 0 L):=by
 unfold q0cu
 refine q01g L (fun (_:Unit) i=>ckE J L H B i) (fun _ _=>True) (ckS H B) (fun _=>ckX J L H B) (fun _ _=>rfl) ?_ ?_ () 0 trivial (Nat.zero_le _)
 ·rintro _ i c-hc
  have hlt:=(List.getElem?_eq_some_iff.1 hc).1
  have w:IntKind.i64.wrap ((i:Int)+1)=((i+1:Nat):Int):=w64 (by omega) (by omega)
  obtain ⟨h1,h2,h3,h4⟩:=hL c (List.mem_of_getElem? hc)
  have q5:J.take 22=J:=List.take_of_length_le (by omega)
  have hix:ixsI H (.vsl (L.map q02m)) (vI i) 2=some (.eptr [vI c.1,c.2.1] 0):=by
   have:(L.map q02m)[i]? =some [vI c.1,c.2.1]:=by simp [hc,q02m]
   simp [ixsI,ixsV,this]
  by_cases a:0≤c.2.2
  ·have e:ckS H B () i c= .inr (.ret,⟨[(2,vI c.1),(3,vI c.2.2)],[],H,B,[]⟩):=if_pos a
   simp only [e]
   simp [-List.all_eq_true,ckE,hlt,hix,subs,q001,q1,q3,q4,q5,h1,h2,h3,h4,a]
  ·have e:ckS H B () i c= .inl ():=if_neg a
   simp only [e]
   simp [-List.all_eq_true,ckE,hlt,hix,subs,q001,q1,q3,q4,q5,h1,h2,h3,h4,a,w]
 ·rintro _-
  simp [ckE,ckX]
theorem q0f6 (ok:okJob j) (n3:(snapG j).floats.length≤1000000) (H:Heap):clD EE (.p (.fn 188)) [vJob j] H=some (.tup [vI (q023 j).1,vI (q023 j).2],none):=by
 rw [q002 _ _ _ _ _ _ (noP _) fn188]
 have h1:=q0iw j H
 have h2:=q0ix j ok n3 H
 have hf:=q0o6 j H.length
 obtain ⟨J,hJ,q1,q2,q3,q4⟩:=q067 j
 rw [hJ] at h2⊢
 have key:=ck_lp J q1 q2 q3 q4 (q01m j H.length) (by simp [q01m]) (H++q03o) H.length h2
 have hl:(q01m j H.length).length=10:=rfl
 have hle:lenV (.vsl ((q01m j H.length).map q02m))=some 10:=rfl
 rcases q0o7 J (H++q03o) H.length (ckX J (q01m j H.length) (H++q03o) H.length) (q01m j H.length) 0 with ⟨k1,k2⟩|k1
 ·rw [k1] at key
  rw [hf] at k2
  simp only [ckE,ckX,hl] at key
  generalize (q01m j H.length).map q02m=CL at*
  simp at key
  simp [-List.all_eq_true,St.enter,q000,q1,q2,q3,q4,h1,hle,key,k2]
 ·rw [k1,hf] at key
  simp only [ckE,hl] at key
  generalize (q01m j H.length).map q02m=CL at*
  simp at key
  simp [-List.all_eq_true,St.enter,q000,q1,q2,q3,q4,h1,hle,key]
theorem q0f7 (ok:okJob j) (n3:(snapG j).floats.length≤1000000) (H:Heap):clD EE (.p (.fn 71)) [vJob j] H=some (vB (decide ((q023 j).1=0)),none):=by
 rw [q002 _ _ _ _ _ _ (noP _) fn71]
 have h1:=q0f6 j ok n3 H
 obtain ⟨J,hJ,q1,q2,q3,q4⟩:=q067 j
 rw [hJ] at h1⊢
 simp [-List.all_eq_true,St.enter,q000,q1,q2,q3,q4,h1]
end
end Go.EnvOf
