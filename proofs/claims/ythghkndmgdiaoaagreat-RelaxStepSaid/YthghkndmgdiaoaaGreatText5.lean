/- The program's functions and the document's, evaluated. -/
import Derived.KernelRfl
import Derived.Test.YthghkndmgdiaoaaGreatText2
import Derived.Test.YthghkndmgdiaoaaGreatText4
import Derived.Test.YthghkndmgdiaoaaGreatText3
set_option linter.unusedSimpArgs false
set_option linter.unusedVariables false
namespace Go.EnvOf
open Go Go.Eng
def note (lines pens:List Int):V:= .agg [sli lines,sli pens]
theorem q01y (H:Heap) (L:List Int) (k:IntKind) (i:Int) (h0:0<=i) (h1:i<L.length):ixsI H (.p (.sl (L.map encI))) (.p (.int k i)) 1=some (.eptr [.p (.int .i64 (rd L i))] 0):=
 q0bw H encI L k i 1 (fun _=>rfl) h0 h1
def far:Int:=1125899906842624
def hstep (s x:Int):Int:=min (s+min (max x 0) far) far
def hsum (s:Int) (l:List Int):Int:=l.foldl hstep s
theorem q0mf {s x:Int} (h:0<=s):0<=hstep s x:=by unfold hstep far;omega
theorem q0mg {s x:Int}:hstep s x<=far:=by unfold hstep;omega
theorem q0ip (L:List Int) (i:Int) (t:Nat) (h0:0<=i) (h1:i.toNat<t) (h2:t<=L.length):(L.take t).drop i.toNat=rd L i::(L.take t).drop (i+1).toNat:=by
 have e:(i+1).toNat=i.toNat+1:=by omega
 rw [e,ZA (by simp;omega)]
 congr 1
 unfold rd
 have:i.toNat<L.length:=by omega
 simp [ZB,this]
theorem q0C6 (L M:List Int) (H:Heap) (B:Nat) (D:List Nat) (hL:L.length<=9223372036854775806): ∀(n:Nat) (i s to_:Int),(to_-i).toNat=n->0<=i->to_<=L.length->0<=s->s<=far->
  evD EE q187 ⟨[(2,.p (.int .i64 to_)),(3,.lptr 3 0),(7,.p (.int .i64 s)),(8,.p (.int .i64 i))],[(3,[sli L,sli M])],H,B,D⟩=
   some (.exit 0,⟨[(2,.p (.int .i64 to_)),(3,.lptr 3 0),(7,.p (.int .i64 (hsum s ((L.take to_.toNat).drop i.toNat)))),(8,.p (.int .i64 (max i to_))),(19,.p (.bool false))],[(3,[sli L,sli M])],H,B,D⟩):=by
 intro n
 induction n with
 |zero=>
  intro i s to_ hn h0 h1 h2 h3
  unfold q187
  rw [q003]
  have hlt: ¬i<to_:=by omega
  have hd:(L.take to_.toNat).drop i.toNat=[]:=by rw [List.drop_eq_nil_iff];simp;omega
  have hm:max i to_=i:=by omega
  simp [sli,subs,hlt,hd,hm,hsum]
 |succ n ih=>
  intro i s to_ hn h0 h1 h2 h3
  have hlt:i<to_:=by omega
  have hi:i<L.length:=by omega
  have key:=ih (i+1) (hstep s (rd L i)) to_ (by omega) (by omega) h1 (q0mf h2) q0mg
  have hd:=q0ip L i to_.toNat h0 (by omega) (by omega)
  have hm:max (i+1) to_=max i to_:=by omega
  rw [hd]
  rw [hm] at key
  unfold q187
  rw [q003]
  have w1:IntKind.i64.wrap (i+1)=i+1:=q01b _ (by omega) (by omega)
  have w2:IntKind.i64.wrap (s+min (max (rd L i) 0) 1125899906842624)=s+min (max (rd L i) 0) 1125899906842624:=q01b _ (by omega) (by unfold far at h3;omega)
  simp [sli,subs,hlt,q01y,h0,hi,w1,w2]
  exact key
def highF (L:List Int) (frm to_:Int):Int:=hsum 0 ((L.take (min to_ L.length).toNat).drop (max frm 0).toNat)
theorem q0C7 (L M:List Int) (frm to_:Int) (H:Heap) (hL:L.length<=9223372036854775806):
  clD EE (.p (.fn 307)) [note L M,.p (.int .i64 frm),.p (.int .i64 to_)] H=some (.p (.int .i64 (highF L frm to_)),none):=by
 rw [q002 _ _ _ _ _ _ (noP _) fn307]
 have key:=q0C6 L M H H.length [] hL _ (max frm 0) 0 (min to_ L.length) rfl (by omega) (by omega) (by omega) (by unfold far;omega)
 have e:(max frm 0)=max frm 0:=rfl
 simp [note,zEb,sli] at key⊢
 rw [key]
 simp [highF]
theorem q0h7: ∀(l:List Int) {s:Int},0<=s->0<=hsum s l
 |[],s,h=>h
 |x::r,s,h=>q0h7 r (q0mf h)
theorem q0h8: ∀(l:List Int) {s:Int},s<=far->hsum s l<=far
 |[],s,h=>h
 |x::r,s,h=>q0h8 r q0mg
def q0bi (L M:List Int) (at_:Int):Bool:=decide (0<at_/\at_<L.length/\at_<=M.length/\rd M (at_-1)<10000)
def mayF (L M:List Int) (at_:Int):Bool:=decide (at_=L.length)||q0bi L M at_
def penF (L M:List Int) (at_:Int):Int:=if q0bi L M at_=true then rd M (at_-1) else 0
theorem q0yd (L M:List Int) (at_:Int) (H:Heap) (hL:L.length<=9223372036854775806):
  clD EE (.p (.fn 315)) [note L M,.p (.int .i64 at_)] H=some (.p (.bool (q0bi L M at_)),none):=by
 rw [q002 _ _ _ _ _ _ (noP _) fn315]
 unfold q0bi
 by_cases c1:0<at_
 ·by_cases c2:at_<L.length
  ·by_cases c3:at_<=M.length
   ·have w:IntKind.i64.wrap (at_-1)=at_-1:=q01b _ (by omega) (by omega)
    have i1:0<=at_-1:=by omega
    have i2:at_-1<(M.length:Int):=by omega
    simp (disch:=omega) [note,sli,zEb,c1,c2,c3,q01y,w]
   ·simp [note,sli,zEb,c1,c2,c3]
  ·simp [note,sli,zEb,c1,c2]
 ·simp [note,sli,zEb,c1]
theorem q0pj (L M:List Int) (at_:Int) (H:Heap) (hL:L.length<=9223372036854775806):
  clD EE (.p (.fn 293)) [note L M,.p (.int .i64 at_)] H=some (.p (.bool (mayF L M at_)),none):=by
 rw [q002 _ _ _ _ _ _ (noP _) fn293]
 have h1:=q0yd L M at_ H hL
 unfold mayF
 simp only [note,sli] at h1
 by_cases c:at_=L.length
 ·simp [note,sli,zEb,c]
 ·simp [note,sli,zEb,c,h1]
theorem q0E3 (L M:List Int) (at_:Int) (H:Heap) (hL:L.length<=9223372036854775806):
  clD EE (.p (.fn 181)) [note L M,.p (.int .i64 at_)] H=some (.p (.bool (mayF L M at_)),none):=by
 rw [q002 _ _ _ _ _ _ (noP _) fn181]
 have h1:=q0pj L M at_ H hL
 simp only [note,sli] at h1
 simp [note,sli,zEb,h1]
theorem q12m {L M:List Int} {at_:Int} (h:q0bi L M at_=true):0<at_/\at_<L.length/\at_<=M.length:=by
 unfold q0bi at h;simp at h;omega
theorem q13e (L M:List Int) (at_:Int) (H:Heap) (hL:L.length<=9223372036854775806):
  clD EE (.p (.fn 205)) [note L M,.p (.int .i64 at_)] H=some (.p (.int .i64 (penF L M at_)),none):=by
 rw [q002 _ _ _ _ _ _ (noP _) fn205]
 have h1:=q0yd L M at_ H hL
 unfold penF
 simp only [note,sli] at h1
 by_cases c:q0bi L M at_=true
 ·obtain ⟨k1,k2,k3⟩:=q12m c
  have w:IntKind.i64.wrap (at_-1)=at_-1:=q01b _ (by omega) (by omega)
  have i1:0<=at_-1:=by omega
  have i2:at_-1<(M.length:Int):=by omega
  simp (disch:=omega) [note,sli,zEb,c,h1,w,q01y]
 ·simp only [Bool.not_eq_true] at c
  simp [note,sli,zEb,c,h1]
def sel (p:Int->Bool) (a:Int):Nat->List Int
 |0=>[]
 |n+1=>(if p a=true then [a] else [])++sel p (a+1) n
theorem q0cd (p:Int->Bool): ∀(n:Nat) (a:Int),(sel p a n).length<=n
 |0,_=>Zm _
 |n+1,a=>by
  have:=q0cd p n (a+1)
  simp only [sel,Zt]
  split<;>simp<;>omega
theorem q0E4 (hv:V) (p:Int->Bool) (to_:Int) (H:Heap) (hH: ∀t:Int,t<=to_-> ∀H',clD EE hv [.p (.int .i64 t)] H'=some (.p (.bool (p t)),none)) (hto:to_<2147483648): ∀(n:Nat) (i:Int) (out:List Int),
  (to_-i+1).toNat=n-> -2<=i->out.length+n<=4294967290->
  evD EE q18b ⟨[(1,.p (.int .i64 to_)),(2,hv),(7,.row H.length out.length 0 out.length),(8,.p (.int .i64 i))],[],H++[.row 1 (upV (out.map encI))],H.length,[]⟩=
   some (.exit 0,⟨[(1,.p (.int .i64 to_)),(2,hv),(7,.row H.length (out++sel p i n).length 0 (out++sel p i n).length),(8,.p (.int .i64 (max i (to_+1)))),(12,.p (.bool false))],[],H++[.row 1 (upV ((out++sel p i n).map encI))],H.length,[]⟩):=by
 intro n
 induction n with
 |zero=>
  intro i out hn h0 ho
  have c: ¬i<=to_:=by omega
  have e:max i (to_+1)=i:=by omega
  unfold q18b
  rw [q003]
  simp [c,e,sel]
 |succ n ih=>
  intro i out hn h0 ho
  have c:i<=to_:=by omega
  have w:IntKind.i64.wrap (i+1)=i+1:=q01b _ (by omega) (by omega)
  have hp:=hH i c (H++[.row 1 (upV (out.map encI))])
  have em:max (i+1) (to_+1)=max i (to_+1):=by omega
  unfold q18b
  rw [q003]
  by_cases cp:p i=true
  ·have key:=ih (i+1) (out++[i]) (by omega) (by omega) (by simp;omega)
   rw [em] at key
   have hm:out.length+1<most:=by unfold most;omega
   simp [c,hp,cp,w,hm]
   simp [sel,cp,encI,upV] at key⊢
   exact key
  ·have key:=ih (i+1) out (by omega) (by omega) (by omega)
   rw [em] at key
   simp only [Bool.not_eq_true] at cp
   simp [c,hp,cp,w,sel] at key⊢
   exact key
theorem q0E5 (hv:V) (p:Int->Bool) (frm to_:Int) (H:Heap) (hH: ∀t:Int,t<=to_-> ∀H',clD EE hv [.p (.int .i64 t)] H'=some (.p (.bool (p t)),none)) (hto:to_<2147483648) (hf: -2<=frm):
  clD EE (.p (.fn 408)) [.p (.int .i64 frm),.p (.int .i64 to_),hv] H=some (.p (.sl ((sel p frm (to_-frm+1).toNat).map encI)),none):=by
 rw [q002 _ _ _ _ _ _ (noP _) fn408]
 have key:=q0E4 hv p to_ H hH hto _ frm [] rfl hf (by simp;omega)
 simp at key
 simp [zEa,key]
theorem q0ye (L M:List Int) (frm:Int) (H:Heap) (hL:L.length<=1000000):
  clD EE (.p (.fn 368)) [note L M,.p (.int .i64 frm)] H=some (.p (.sl ((sel (mayF L M) (min (max frm (-1)) L.length+1) (L.length-(min (max frm (-1)) L.length+1)+1:Int).toNat).map encI)),none):=by
 rw [q002 _ _ _ _ _ _ (noP _) fn368]
 have hst: ∀(t:Int),∀H',clD EE (.fn (.func 293) [note L M] []) [.p (.int .i64 t)] H'=some (.p (.bool (mayF L M t)),none):=fun t H'=>by
  rw [q02m]
  exact q0pj L M t H' (by omega)
 have key:=q0E5 (.fn (.func 293) [note L M] []) (mayF L M) (min (max frm (-1)) L.length+1) L.length H (fun t _ H'=>hst t H') (by omega) (by omega)
 have w:IntKind.i64.wrap (min (max frm (-1)) L.length+1)=min (max frm (-1)) L.length+1:=q01b _ (by omega) (by omega)
 simp only [note,sli] at key
 simp [note,sli,zEb,w,mkfV,key]
def q02f (L M:List Int) (frm i:Int):Bool:=decide (frm<i)&&mayF L M i
theorem q0mi {p:Int->Bool}: ∀(n:Nat) (a:Int),(∀i,a<=i->i<a+n->p i=false)->sel p a n=[]
 |0,_,_=>rfl
 |n+1,a,h=>by
  simp only [sel,h a (by omega) (by omega),Zh,if_false,Zf]
  exact q0mi n (a+1) fun i h1 h2=>h i (by omega) (by omega)
theorem q0iq {p q:Int->Bool}: ∀(n:Nat) (a:Int),(∀i,a<=i->i<a+n->p i=q i)->sel p a n=sel q a n
 |0,_,_=>rfl
 |n+1,a,h=>by
  simp only [sel,h a (by omega) (by omega)]
  rw [q0iq n (a+1) fun i h1 h2=>h i (by omega) (by omega)]
theorem q0pl {p:Int->Bool}: ∀(m n:Nat) (a:Int),sel p a (m+n)=sel p a m++sel p (a+m) n
 |0,n,a=>by simp [sel]
 |m+1,n,a=>by
  have e:m+1+n=(m+n)+1:=by omega
  rw [e]
  simp only [sel]
  rw [q0pl m n (a+1),Zx]
  congr 3;omega
theorem q0r6 (L M:List Int) (frm:Int):
  sel (mayF L M) (min (max frm (-1)) L.length+1) (L.length-(min (max frm (-1)) L.length+1)+1:Int).toNat=sel (q02f L M frm) 0 (L.length+1):=by
 generalize hb:min (max frm (-1)) (L.length:Int)+1=b
 have h1:0<=b:=by omega
 have h2:b<=L.length+1:=by omega
 have e:L.length+1=b.toNat+(L.length-b+1:Int).toNat:=by omega
 rw [e,q0pl,q0mi b.toNat 0 (fun i h3 h4=>by
  have: ¬frm<i:=by omega
  simp [q02f,this]),Zf]
 have e2:(0:Int)+(b.toNat:Int)=b:=by omega
 rw [e2]
 refine q0iq _ _ fun i h3 h4=> ?_
 have:frm<i:=by omega
 simp [q02f,this]
def bad (lo hi:Int) (l:List Int):Bool:=l.any fun x=>decide (x<lo)||decide (hi<x)
theorem q0ce (L:List Int) (i:Int) (h0:0<=i) (h1:i<L.length):L.drop i.toNat=rd L i::L.drop (i+1).toNat:=by
 have:=q0ip L i L.length h0 (by omega) (Zm _)
 rwa [List.take_length] at this
theorem q0Ca (L M:List Int) (H:Heap) (B:Nat) (hL:L.length<=9223372036854775807): ∀(n:Nat) (i:Int) (wr:Bool),((L.length:Int)-i).toNat=n->0<=i->i<=L.length->
  evD EE q188 ⟨[(1,.lptr 1 0),(3,.p (.bool wr)),(29,sli L),(30,.p (.int .i64 L.length)),(31,.p (.int .i64 i))],[(1,[sli L,sli M])],H,B,[]⟩=
   some (.exit 0,⟨[(1,.lptr 1 0),(3,.p (.bool (wr||bad 1 1073741823 (L.drop i.toNat)))),(29,sli L),(30,.p (.int .i64 L.length)),(31,.p (.int .i64 L.length)),(32,.p (.bool false))],[(1,[sli L,sli M])],H,B,[]⟩):=by
 intro n
 induction n with
 |zero=>
  intro i wr hn h0 h1
  have e:i=L.length:=by omega
  subst e
  unfold q188
  rw [q003]
  simp [sli,bad]
 |succ n ih=>
  intro i wr hn h0 h1
  have c:i<(L.length:Int):=by omega
  have w:IntKind.i64.wrap (i+1)=i+1:=q01b _ (by omega) (by omega)
  have key:=ih (i+1) (wr||(decide (rd L i<1)||decide (1073741823<rd L i))) (by omega) (by omega) (by omega)
  have eb:bad 1 1073741823 (L.drop i.toNat)=((decide (rd L i<1)||decide (1073741823<rd L i))||bad 1 1073741823 (L.drop (i+1).toNat)):=by rw [q0ce L i h0 c];simp [bad]
  rw [eb,<-Bool.or_assoc]
  unfold q188
  rw [q003]
  cases wr
  ·by_cases c1:rd L i<1
   ·simp (disch:=omega) [sli,c,q01y,subs,w,c1] at key⊢
    exact key
   ·simp (disch:=omega) [sli,c,q01y,subs,w,c1] at key⊢
    exact key
  ·simp (disch:=omega) [sli,c,q01y,subs,w] at key⊢
   exact key
theorem q0Cb (M:List Int) (H:Heap) (B:Nat) (hM:M.length<=9223372036854775807): ∀(n:Nat) (i:Int) (wr:Bool),((M.length:Int)-i).toNat=n->0<=i->i<=M.length->
  evD EE q189 ⟨[(3,.p (.bool wr)),(46,sli M),(47,.p (.int .i64 M.length)),(48,.p (.int .i64 i))],[],H,B,[]⟩=
   some (.exit 2,⟨[(3,.p (.bool (wr||bad 0 10000 (M.drop i.toNat)))),(46,sli M),(47,.p (.int .i64 M.length)),(48,.p (.int .i64 M.length)),(49,.p (.bool false))],[],H,B,[]⟩):=by
 intro n
 induction n with
 |zero=>
  intro i wr hn h0 h1
  have e:i=M.length:=by omega
  subst e
  unfold q189
  rw [q003]
  simp [sli,bad]
 |succ n ih=>
  intro i wr hn h0 h1
  have c:i<(M.length:Int):=by omega
  have w:IntKind.i64.wrap (i+1)=i+1:=q01b _ (by omega) (by omega)
  have key:=ih (i+1) (wr||(decide (rd M i<0)||decide (10000<rd M i))) (by omega) (by omega) (by omega)
  have eb:bad 0 10000 (M.drop i.toNat)=((decide (rd M i<0)||decide (10000<rd M i))||bad 0 10000 (M.drop (i+1).toNat)):=by rw [q0ce M i h0 c];simp [bad]
  rw [eb,<-Bool.or_assoc]
  unfold q189
  rw [q003]
  cases wr
  ·by_cases c1:rd M i<0
   ·simp (disch:=omega) [sli,c,q01y,subs,w,c1] at key⊢
    exact key
   ·simp (disch:=omega) [sli,c,q01y,subs,w,c1] at key⊢
    exact key
  ·simp (disch:=omega) [sli,c,q01y,subs,w] at key⊢
   exact key
def q03x (L M:List Int):Bool:=decide ((L.length:Int)<1)||decide (64<(L.length:Int))|| !decide ((M.length:Int)=L.length-1)
def q01o (L M:List Int):Bool:=q03x L M||bad 1 1073741823 L||bad 0 10000 M
theorem q0yf (L M:List Int) (H:Heap) (hL:L.length<=9223372036854775807) (hM:M.length<=9223372036854775807):clD EE (.p (.fn 342)) [note L M] H=some (.p (.int .i64 (if q01o L M=true then 9 else 0)),none):=by
 rw [q002 _ _ _ _ _ _ (noP _) fn342]
 have k0:=fun wr=>q0Ca L M H H.length hL _ 0 wr rfl (by omega) (by omega)
 have k1:=fun wr=>q0Cb M H H.length hM _ 0 wr rfl (by omega) (by omega)
 have w:IntKind.i64.wrap ((L.length:Int)-1)=L.length-1:=q01b _ (by omega) (by omega)
 have go: ∀b:Bool,q03x L M=b->q01o L M=(b||bad 1 1073741823 L||bad 0 10000 M):=fun b h=>by unfold q01o;rw [h]
 simp [sli] at k0 k1
 by_cases c1:(L.length:Int)<1
 ·have hb:=go true (by simp [q03x,c1])
  simp [hb,note,sli,zEb,c1,k0,k1]
 ·by_cases c2:64<(L.length:Int)
  ·have hb:=go true (by simp [q03x,c2])
   simp [hb,note,sli,zEb,c1,c2,k0,k1]
  ·by_cases c3:(M.length:Int)=L.length-1
   ·have hb:=go false (by simp [q03x,c1,c2,c3])
    rw [hb]
    simp only [c3] at k1
    cases h1:bad 1 1073741823 L<;>cases h2:bad 0 10000 M<;>simp [note,sli,zEb,c1,c2,c3,w,k0,k1,h1,h2]
   ·have hb:=go true (by simp [q03x,c3])
    simp [hb,note,sli,zEb,c1,c2,c3,w,k0,k1]
end Go.EnvOf
namespace Go.EnvOf
open Go Go.Eng
def rowsG {α:Type} (s:Nat) (enc:α->List PV) (l:List α):Heap:=if l=[] then [] else [.row s (upV (l.map enc))]
@[simp] theorem q0bj {α:Type} (s:Nat) (enc:α->List PV):rowsG s enc [] =[] :=rfl
theorem q02t {α:Type} (s:Nat) (enc:α->List PV) (x:α) (r:List α):rowsG s enc (x::r)=[.row s (upV ((x::r).map enc))]:=rfl
theorem q08t {α:Type} (env:List (Nat×V)) (loc:List (Nat×List V)) (H:Heap) (base:Nat) (dirty:List Nat) (s:Nat) (enc:α->List PV) (l:List α) (x:α) (hs:(enc x).length=s) (hm:l.length+1<most) (hb:base<=H.length):
  appV ⟨env,loc,H++rowsG s enc l,base,dirty⟩ (q00k H.length l) (.p (.sl [enc x])) s=some (q00k H.length (l++[x]),⟨env,loc,H++rowsG s enc (l++[x]),base,dirty⟩):=by
 cases l with
 |nil=>
  have hm':1<most:=by unfold most;omega
  simp [q02t,hs,hm']
 |cons y r=>
  have hm':r.length+1+1<most:=by simpa using hm
  have e:addD base H.length dirty=dirty:=by unfold addD;rw [if_neg (by omega)]
  simp [q02t,hs,hm',hb,upV,okEl,List.all_map]
def rnH (s:Int) (n:Note):Heap:=rowsG 1 encI (n.lines.map fun x=>upG x s)
def rnVq (s:Int) (l:List Note) (G:Heap):V:=match l with|[]=> .nils|n::r=> .row (G.length+(rnH s n).length) (r.length+1) 0 (r.length+1)
theorem q07b {α:Type} (env:List (Nat×V)) (loc:List (Nat×List V)) (hp:Heap) (base:Nat) (dirty:List Nat) (id s:Nat) (enc:α->List PV) (l:List α) (h:Eng.rowAt hp id=some (s,upV (l.map enc))\/l=[]) (hb:base<=id):
  Eng.freeze ⟨env,loc,hp,base,dirty⟩ (q00k id l)=some (.p (.sl (l.map enc))):=by
 rcases h with h|h
 ·cases l with
  |nil=>rfl
  |cons x r=>rw [q065];simp [hb,h]
 ·subst h;rfl
theorem q09q {α:Type} (s:Nat) (enc:α->List PV) (H U:Heap) (l:List α):Eng.rowAt (H++(rowsG s enc l++U)) H.length=some (s,upV (l.map enc))\/l=[]:=by
 cases l with
 |nil=>exact .inr rfl
 |cons x r=>left;simp [q02t]
@[simp] theorem q0Ng (s:Int) (l:List Note) (G:Heap):(rnVq s l G).oneB=true:=by cases l<;>rfl
@[simp] theorem q0Iu (s:Int) (l:List Note) (G:Heap):(rnVq s l G).cells=[rnVq s l G] :=by cases l<;>rfl
end Go.EnvOf
namespace Go.EnvOf
open Go Go.Eng
def encN (x:List Int×List Int):List PV:=[.sl (x.1.map encI),.sl (x.2.map encI)]
@[simp] theorem q0R1 (x:List Int×List Int):(encN x).length=2:=rfl
def notes (l:List (List Int×List Int)):V:= .p (.sl (l.map encN))
theorem q0uu (H:Heap) (L:List (List Int×List Int)) (k:IntKind) (i:Int) (h0:0<=i) (h1:i<L.length):ixsI H (.p (.sl (L.map encN))) (.p (.int k i)) 2=some (.eptr [.p (.sl ((rd L i).1.map encI)),.p (.sl ((rd L i).2.map encI))] 0):=
 q0bw H encN L k i 2 (fun _=>rfl) h0 h1
def q037 (l:List (List Int×List Int)):Int:=l.foldr (fun x s=>(x.1.length:Int)+s) 0
theorem q0yj {α:Type} [Inhabited α] (L:List α) (i:Int) (h0:0<=i) (h1:i<L.length):L.drop i.toNat=rd L i::L.drop (i+1).toNat:=by
 have e:(i+1).toNat=i.toNat+1:=by omega
 rw [e,ZA (by omega)]
 congr 1
 unfold rd
 have:i.toNat<L.length:=by omega
 simp [ZB,this]
theorem q0a4: ∀l,0<=q037 l
 |[]=>by simp [q037]
 |x::r=>by have:=q0a4 r;simp only [q037,List.foldr_cons] at this⊢;omega
theorem q0yk (l:List (List Int×List Int)) (H:Heap) (Bs:Nat) (hl:l.length<=1000000): ∀(n:Nat) (i s:Int),((l.length:Int)-i).toNat=n->0<=i->i<=l.length->0<=s->s+q037 (l.drop i.toNat)<=9223372036854775807->
  evD EE q0Xe ⟨[(3,.p (.int .i64 s)),(6,notes l),(7,.p (.int .i64 l.length)),(8,.p (.int .i64 i))],[],H,Bs,[]⟩=
   some (.exit 0,⟨[(3,.p (.int .i64 (s+q037 (l.drop i.toNat)))),(6,notes l),(7,.p (.int .i64 l.length)),(8,.p (.int .i64 l.length)),(9,.p (.bool false))],[],H,Bs,[]⟩):=by
 intro n
 induction n with
 |zero=>
  intro i s hn h0 h1 h2 h3
  have e:i=l.length:=by omega
  subst e
  unfold q0Xe
  rw [q003]
  simp [notes,q037]
 |succ n ih=>
  intro i s hn h0 h1 h2 h3
  have c:i<(l.length:Int):=by omega
  have w:IntKind.i64.wrap (i+1)=i+1:=q01b _ (by omega) (by omega)
  have hd:=q0yj l i h0 c
  have hs:q037 (l.drop i.toNat)=((rd l i).1.length:Int)+q037 (l.drop (i+1).toNat):=by rw [hd];rfl
  have hnn:=q0a4 (l.drop (i+1).toNat)
  have w2:IntKind.i64.wrap (s+((rd l i).1.length:Int))=s+((rd l i).1.length:Int):=q01b _ (by omega) (by omega)
  have key:=ih (i+1) (s+((rd l i).1.length:Int)) (by omega) (by omega) (by omega) (by omega) (by omega)
  have e2:s+q037 (l.drop i.toNat)=s+((rd l i).1.length:Int)+q037 (l.drop (i+1).toNat):=by omega
  rw [e2]
  unfold q0Xe
  rw [q003]
  simp (disch:=omega) [notes,c,q0uu,subs,q001,w,w2] at key⊢
  exact key
theorem q0yl (l:List (List Int×List Int)) (H:Heap) (hl:l.length<=1000000) (hs:q037 l<=9223372036854775807):clD EE (.p (.fn 53)) [notes l] H=some (.p (.int .i64 (q037 l)),none):=by
 rw [q002 _ _ _ _ _ _ (noP _) fn53]
 have key:=q0yk l H H.length hl _ 0 0 rfl (by omega) (by omega) (by omega) (by simpa using hs)
 simp [notes] at key
 simp [notes,zEa,key]
end Go.EnvOf
namespace Go.EnvOf
open Go Go.Eng
structure small (j:Job):Prop where
 items:j.items.length<=100
 notes:j.notes.length<=100
 floats:j.floats.length<=100
 each: ∀n∈j.notes,n.lines.length<=100/\n.pens.length<=100
def q059 (n:Note):Bool:=decide (100<(n.lines.length:Int))||decide (100<(n.pens.length:Int))
def q0bl (j:Job):Bool:=(j.notes.take 100).any q059||decide (100<(j.items.length:Int))||decide (100<(j.notes.length:Int))||decide (100<(j.floats.length:Int))
theorem q0ym {j:Job} (h:q0bl j=false):small j:=by
 unfold q0bl at h
 simp only [Bool.or_eq_false_iff,decide_eq_false_iff_not] at h
 obtain ⟨⟨⟨h1,h2⟩,h3⟩,h4⟩:=h
 have hl:j.notes.length<=100:=by omega
 rw [Zy hl] at h1
 refine ⟨by omega,hl,by omega,fun n hn=> ?_⟩
 have:=List.any_eq_false.1 h1 n hn
 simp [q059] at this
 omega
def lgE (j:Job) (H:Heap) (i:Nat):St:=⟨[(1,.lptr 1 0),(3,vI i)],[(1,cGeom j.g++[q006 j.items,q00b j.notes,q005 j.floats])],H,H.length,[]⟩
def lgX (j:Job) (H:Heap) (i:Nat):Ex×St:=(.exit 0,⟨[(1,.lptr 1 0),(3,vI i),(12,vB false)],[(1,cGeom j.g++[q006 j.items,q00b j.notes,q005 j.floats])],H,H.length,[]⟩)
def lgB (H:Heap):Ex×St:=(.ret,⟨[(2,vB true)],[],H,H.length,[]⟩)
theorem q0yn (j:Job) (H:Heap):evD EE q19a (lgE j H 0)=some (if (j.notes.take 100).any q059=true then lgB H else lgX j H (min 100 j.notes.length)):=by
 unfold q19a
 refine Eq.trans (q013 (j.notes.take 100) (fun (_:Unit) i=>lgE j H i) (fun _ _=>True) (stepB q059 (lgB H)) (fun _=>lgX j H (min 100 j.notes.length)) (fun _ _=>rfl) ?_ ?_ () 0 trivial (Zj _)) (by rw [q043];rfl)
 ·rintro _ i x-hx
  have hlt:=(Za.1 hx).1
  rw [ZC] at hlt
  have hx':j.notes[i]? =some x:=by rw [List.getElem?_take] at hx;split at hx<;>simp_all
  have hl1:i<j.notes.length:=by omega
  have hl2:(i:Int)<100:=by omega
  have w1:IntKind.i64.wrap ((i:Int)+1)=((i+1:Nat):Int):=w64 (by omega) (by omega)
  have hix:=fun H k=>q00c H q00e (k:=k) (s:=2) hx' rfl
  simp only [q00e] at hix
  by_cases a:100<(x.lines.length:Int)
  ·simp [stepB,q059,lgE,lgB,hl1,hl2,hix,subs,a]
  ·by_cases b:100<(x.pens.length:Int)
   ·simp [stepB,q059,lgE,lgB,hl1,hl2,hix,subs,a,b]
   ·simp [stepB,q059,lgE,hl1,hl2,hix,subs,a,b,w1]
 ·rintro _-
  refine ⟨?_,by simp [lgX]⟩
  rw [ZC]
  by_cases h:j.notes.length<=100
  ·have e:min 100 j.notes.length=j.notes.length:=by omega
   rw [e]
   simp [lgE,lgX,subs]
  ·have e:min 100 j.notes.length=100:=by omega
   have h2:(100:Int)<j.notes.length:=by omega
   rw [e]
   simp [lgE,lgX,subs,h2]
theorem q0yo (j:Job) (H:Heap):clD EE (.p (.fn 44)) [vJob j] H=some (vB (q0bl j),none):=by
 rw [q002 _ _ _ _ _ _ (noP _) fn44]
 have k0:=q0yn j H
 unfold q0bl
 simp only [lgE,lgX,lgB] at k0
 cases b:(j.notes.take 100).any q059 with
 |true=>
  rw [b,if_pos rfl] at k0
  simp at k0
  simp [zEb,k0]
 |false=>
  rw [b,if_neg (by simp)] at k0
  simp at k0
  by_cases a1:100<(j.items.length:Int)
  ·simp [zEb,k0,a1]
  ·by_cases a2:100<(j.notes.length:Int)
   ·simp [zEb,k0,a1,a2]
   ·simp [zEb,k0,a1,a2]
structure jobI (j:Job):Prop where
 g:q0bg j.g
 items: ∀x∈j.items,q079 x
 notes: ∀n∈j.notes,∀x∈n.lines,I64 x
 floats: ∀x∈j.floats,q0h3 x
theorem q0mo {j:Job} (h:jobI j) (s:small j):okJob j:=
 ⟨h.g,h.items,fun n hn=>⟨h.notes n hn,by have:=s.each n hn;omega,by have:=s.each n hn;omega⟩,h.floats,by have:=s.items;omega,by have:=s.notes;omega,by have:=s.floats;omega⟩
theorem q0r9 {j:Job} (s:small j):small (snapG j):=by
 unfold snapG
 split
 ·exact s
 ·refine ⟨by simpa using s.items,by simpa using s.notes,by simpa using s.floats,fun n hn=> ?_⟩
  simp only [ZJ] at hn
  obtain ⟨m,hm,rfl⟩:=hn
  have:=s.each m hm
  simpa [noteG] using this
theorem q07r (j:Job): ∃J,vJob j= .agg J/\J.length=22/\subs J 0 22=some J/\ ¬J=[]/\J.all V.oneB=true/\J.map normC=J:=⟨_,rfl,rfl,rfl,by simp,rfl,rfl⟩
def q01l (f:Float):Bool:=decide (0<=f.c)&&decide (f.c<=2)&&decide (1<=f.h)&&decide (f.h<=1073741823)&&decide (0<=f.w)&&decide (f.w<=3)
theorem q0jr (f:Float) (H:Heap):clD EE (.p (.fn 345)) [q03v f] H=some (vI (if q01l f=true then 0 else 10),none):=by
 rw [q002 _ _ _ _ _ _ (noP _) fn345]
 unfold q01l
 by_cases a1:0<=f.c
 ·have b1: ¬f.c<0:=by omega
  by_cases a2:f.c<=2
  ·have b2: ¬3<=f.c:=by omega
   by_cases a3:1<=f.h
   ·have b3: ¬f.h<1:=by omega
    by_cases a4:f.h<=1073741823
    ·have b4: ¬1073741823<f.h:=by omega
     by_cases a5:0<=f.w
     ·have b5: ¬f.w<0:=by omega
      by_cases a6:f.w<=3
      ·have b6: ¬3<f.w:=by omega
       simp [zEb,a1,a2,a3,a4,a5,a6,b1,b2,b3,b4,b5,b6]
      ·have b6:3<f.w:=by omega
       simp [zEb,a1,a2,a3,a4,a5,a6,b1,b2,b3,b4,b5,b6]
     ·have b5:f.w<0:=by omega
      simp [zEb,a1,a2,a3,a4,a5,b1,b2,b3,b4,b5]
    ·have b4:1073741823<f.h:=by omega
     simp [zEb,a1,a2,a3,a4,b1,b2,b3,b4]
   ·have b3:f.h<1:=by omega
    simp [zEb,a1,a2,a3,b1,b2,b3]
  ·have b2:3<=f.c:=by omega
   simp [zEb,a1,a2,b1,b2]
 ·have b1:f.c<0:=by omega
  simp [zEb,a1,b1]
theorem q0ra:EE.fns 391=some (idxI 7 true):=fn391
theorem q0rb:EE.fns 397=some (idxI 2 true):=fn397
theorem q0d5:EE.fns 400=some (idxI 3 true):=fn400
theorem q0o6 (x:Item) (p:Nat) (H:Heap) (hb:Eng.boxAt H p=some [.p (.fn 339)]):clD EE (.fn (.func 392) [] [.ptr p 0]) [vItem x] H=some (vB (!q016 x),none):=by
 rw [q02m,q002 _ _ _ _ _ _ (noP _) fn392]
 have h:=q0me x H
 cases e:q016 x<;>rw [e] at h<;>simp at h<;>simp [zEb,hb,h]
theorem q0o7 (x:Note) (hx:x.lines.length<=1000000/\x.pens.length<=1000000) (p:Nat) (H:Heap) (hb:Eng.boxAt H p=some [.p (.fn 342)]):clD EE (.fn (.func 398) [] [.ptr p 0]) [vNote x] H=some (vB (q01o x.lines x.pens),none):=by
 rw [q02m,q002 _ _ _ _ _ _ (noP _) fn398]
 have h:=q0yf x.lines x.pens H (by omega) (by omega)
 simp only [note,sli] at h
 cases e:q01o x.lines x.pens<;>rw [e] at h<;>simp at h<;>simp [zEb,hb,h]
theorem q0mp (x:Float) (p:Nat) (H:Heap) (hb:Eng.boxAt H p=some [.p (.fn 345)]):clD EE (.fn (.func 401) [] [.ptr p 0]) [q03v x] H=some (vB (!q01l x),none):=by
 rw [q02m,q002 _ _ _ _ _ _ (noP _) fn401]
 have h:=q0jr x H
 cases e:q01l x<;>rw [e] at h<;>simp at h<;>simp [zEb,hb,h]
theorem q0mq (l:List Item) (hl:l.length<=1000000) (p:Nat) (H:Heap) (hb:Eng.boxAt H p=some [.p (.fn 339)]):clD EE (.p (.fn 390)) [q006 l,.ptr p 0] H=some (vI (idxF (fun x=> !q016 x) 0 l),none):=by
 rw [q002 _ _ _ _ _ _ (noP _) fn390]
 have h:=q0b7 _ 7 true q004 (fun x=>vItem x) (noP _) q0ra (fun _=>rfl) (fun _=>rfl) (fun _=>rfl) (fun _=>rfl) l (by omega) (.fn (.func 392) [] [.ptr p 0]) (fun x=> !q016 x) H (fun x _=>q0o6 x p H hb)
 simp [zEa,h]
theorem q0mr (l:List Note) (hl:l.length<=1000000) (hx: ∀x∈l,x.lines.length<=1000000/\x.pens.length<=1000000) (p:Nat) (H:Heap) (hb:Eng.boxAt H p=some [.p (.fn 342)]):clD EE (.p (.fn 396)) [q00b l,.ptr p 0] H=some (vI (idxF (fun x=>q01o x.lines x.pens) 0 l),none):=by
 rw [q002 _ _ _ _ _ _ (noP _) fn396]
 have h:=q0b7 _ 2 true q00e (fun x=>vNote x) (noP _) q0rb (fun _=>rfl) (fun _=>rfl) (fun _=>rfl) (fun _=>rfl) l (by omega) (.fn (.func 398) [] [.ptr p 0]) (fun x=>q01o x.lines x.pens) H (fun x h=>q0o7 x (hx x h) p H hb)
 simp [zEa,h]
theorem q0js (l:List Float) (hl:l.length<=1000000) (p:Nat) (H:Heap) (hb:Eng.boxAt H p=some [.p (.fn 345)]):clD EE (.p (.fn 399)) [q005 l,.ptr p 0] H=some (vI (idxF (fun x=> !q01l x) 0 l),none):=by
 rw [q002 _ _ _ _ _ _ (noP _) fn399]
 have h:=q0b7 _ 3 true q009 (fun x=>q03v x) (noP _) q0d5 (fun _=>rfl) (fun _=>rfl) (fun _=>rfl) (fun _=>rfl) l (by omega) (.fn (.func 401) [] [.ptr p 0]) (fun x=> !q01l x) H (fun x _=>q0mp x p H hb)
 simp [zEa,h]
def refF (k:Int) (most:Nat):Nat->Nat->List Item->Int
 |i,n,[]=>if n<most then i else-1
 |i,n,x::r=>if x.k=k then (if x.n=n/\n<most then refF k most (i+1) (n+1) r else i) else refF k most (i+1) n r
theorem q09r (k:Int): ∀(l:List Item) (i n:Nat),anchF k i n l= -1\/(i:Int)<=anchF k i n l
 |[],_,_=> .inl rfl
 |x::r,i,n=>by
  simp only [anchF]
  split
  ·split
   ·rcases q09r k r (i+1) (n+1) with h|h
    ·exact .inl h
    ·exact .inr (by omega)
   ·exact .inr (ZS _)
  ·rcases q09r k r (i+1) n with h|h
   ·exact .inl h
   ·exact .inr (by omega)
def rfE (l:List Item) (k:Int) (most:Nat) (at_:Int) (H:Heap) (n i:Nat):St:=⟨[(0,q006 l),(1,vI k),(2,vI most),(7,vI at_),(8,vI n),(14,q006 l),(15,vI l.length),(16,vI i)],[],H,H.length,[]⟩
def rfS (k:Int) (most:Nat) (at_:Int) (H:Heap) (n i:Nat) (x:Item):Nat⊕(Ex×St):=if (i:Int)=at_ then .inr (.ret,⟨[(6,vI i)],[],H,H.length,[]⟩) else if x.k=k then (if n=most then .inr (.ret,⟨[(6,vI i)],[],H,H.length,[]⟩) else .inl (n+1)) else .inl n
def rfX (l:List Item) (k:Int) (most:Nat) (at_:Int) (H:Heap) (n:Nat):Ex×St:=(.exit 0,⟨[(0,q006 l),(1,vI k),(2,vI most),(7,vI at_),(8,vI n),(14,q006 l),(15,vI l.length),(16,vI l.length),(17,vB false)],[],H,H.length,[]⟩)
theorem rf_lp (l:List Item) (k:Int) (most:Nat) (at_:Int) (H:Heap) (hl:l.length<=1000000):evD EE q18w (rfE l k most at_ H 0 0)=some (rng (rfS k most at_ H) (rfX l k most at_ H) 0 0 l):=by
 unfold q18w
 refine q013 l (rfE l k most at_ H) (fun n i=>n<=i) (rfS k most at_ H) (rfX l k most at_ H) (fun _ _=>rfl) ?_ ?_ 0 0 (Zm _) (Zj _)
 ·intro n i x hn hx
  have hlt:=(Za.1 hx).1
  have hix:=fun H k=>q00c H q004 (k:=k) (s:=7) hx rfl
  have w:IntKind.i64.wrap ((i:Int)+1)=((i+1:Nat):Int):=w64 (by omega) (by omega)
  have w2:IntKind.i64.wrap ((n:Int)+1)=((n+1:Nat):Int):=w64 (by omega) (by omega)
  simp only [q004] at hix
  by_cases ha:(i:Int)=at_
  ·subst ha
   simp [rfS,rfE,hlt,hix,subs,q001]
  ·by_cases hk:x.k=k
   ·by_cases hm:n=most
    ·simp [rfS,rfE,hlt,hix,subs,q001,ha,hk,hm]
    ·have hm2: ¬(n:Int)=most:=by omega
     simp [rfS,rfE,hlt,hix,subs,q001,ha,hk,hm,hm2,w,w2];omega
   ·simp [rfS,rfE,hlt,hix,subs,q001,ha,hk,w];omega
 ·intro n hn
  simp [rfE,rfX]
theorem q0mt (l:List Item) (k:Int) (most:Nat) (at_:Int) (H:Heap): ∀(r:List Item) (n i:Nat),n<=most->at_=anchF k i n r->(∃n',rng (rfS k most at_ H) (rfX l k most at_ H) n i r=rfX l k most at_ H n'/\refF k most i n r=if n'<most then ((i+r.length:Nat):Int) else-1)\/
  ∃j:Nat,rng (rfS k most at_ H) (rfX l k most at_ H) n i r=(.ret,⟨[(6,vI j)],[],H,H.length,[]⟩)/\refF k most i n r=j
 |[],n,i,_,_=> .inl ⟨n,rfl,rfl⟩
 |x::r,n,i,hm,ha=>by
  have e:i+1+r.length=i+(x::r).length:=by simp;omega
  simp only [anchF] at ha
  by_cases hk:x.k=k
  ·rw [if_pos hk] at ha
   by_cases hn:x.n=n
   ·rw [if_pos hn] at ha
    have hne: ¬(i:Int)=at_:=by
     rcases q09r k r (i+1) (n+1) with h|h<;>omega
    by_cases hmm:n=most
    ·refine .inr ⟨i,by simp only [rng,rfS,if_neg hne,if_pos hk,if_pos hmm],?_⟩
     have: ¬(x.n=n/\n<most):=by omega
     simp only [refF,if_pos hk,if_neg this]
    ·have hlt:x.n=n/\n<most:=⟨hn,by omega⟩
     have:=q0mt l k most at_ H r (n+1) (i+1) (by omega) ha
     rw [e] at this
     simp only [rng,rfS,if_neg hne,if_pos hk,if_neg hmm,refF,if_pos hlt]
     exact this
   ·rw [if_neg hn] at ha
    have: ¬(x.n=n/\n<most):=fun h=>hn h.1
    exact .inr ⟨i,by simp only [rng,rfS,if_pos ha.symm],by simp only [refF,if_pos hk,if_neg this]⟩
  ·rw [if_neg hk] at ha
   have hne: ¬(i:Int)=at_:=by
    rcases q09r k r (i+1) n with h|h<;>omega
   have:=q0mt l k most at_ H r n (i+1) hm ha
   rw [e] at this
   simp only [rng,rfS,if_neg hne,if_neg hk,refF]
   exact this
theorem q0pn (l:List Item) (k:Int) (most:Nat) (H:Heap) (hl:l.length<=1000000):clD EE (.p (.fn 402)) [q006 l,vI k,vI most] H=some (vI (refF k most 0 0 l),none):=by
 rw [q002 _ _ _ _ _ _ (noP _) fn402]
 have h0:=q0Bk l k H hl
 have key:=rf_lp l k most (anchF k 0 0 l) H hl
 rcases q0mt l k most (anchF k 0 0 l) H l 0 0 (Zj _) rfl with ⟨n',h1,h2⟩|⟨j,h1,h2⟩
 ·rw [h1] at key
  simp only [Zs] at h2
  by_cases c:n'<most
  ·simp [rfE,rfX] at key
   simp [zEa,h0,key,h2,c]
  ·simp [rfE,rfX] at key
   simp [zEa,h0,key,h2,c]
 ·rw [h1] at key
  simp [rfE] at key
  simp [zEa,h0,key,h2]
def yes (b:Bool):Int:=if b=true then 0 else-1
def q0fh (j:Job):Int:=let a:=refF 5 j.notes.length 0 0 j.items;let b:=refF 6 j.floats.length 0 0 j.items;if a<0\/b<0 then max a b else min a b
def tallF (j:Job):Int:=idxF (fun f=>decide ((snapG j).g.first<f.h)) 0 (snapG j).floats
section
variable (j:Job)
theorem c1_ev (H:Heap):clD EE (.p (.fn 331)) [vJob j] H=some (vB (decide (4096<(j.items.length:Int))),none):=by
 rw [q002 _ _ _ _ _ _ (noP _) fn331]
 simp [zEb]
theorem c2_ev (H:Heap):clD EE (.p (.fn 332)) [vJob j] H=some (vB (decide (256<(j.floats.length:Int))),none):=by
 rw [q002 _ _ _ _ _ _ (noP _) fn332]
 simp [zEb]
theorem c3_ev (H:Heap):clD EE (.p (.fn 333)) [vJob j] H=some (vB (decide (512<(j.notes.length:Int))),none):=by
 rw [q002 _ _ _ _ _ _ (noP _) fn333]
 simp [zEb]
theorem c4_ev (H:Heap):clD EE (.p (.fn 334)) [vJob j] H=some (vB (decide (geomF j.g=6)),none):=by
 rw [q002 _ _ _ _ _ _ (noP _) fn334]
 have h:=q0bb j.g H
 simp [zEb,h]
theorem c5_ev (H:Heap):clD EE (.p (.fn 336)) [vJob j] H=some (vB (decide (geomF j.g=7)),none):=by
 rw [q002 _ _ _ _ _ _ (noP _) fn336]
 have h:=q0bb j.g H
 simp [zEb,h]
theorem q0yp (f:FuncId) (b:Bool) (p:Nat) (H:Heap) (hb:Eng.boxAt H p=some [.p (.fn f)]) (hf:clD EE (.p (.fn f)) [vJob j] H=some (vB b,none)):clD EE (.fn (.func 387) [] [.ptr p 0]) [vJob j] H=some (vI (yes b),none):=by
 rw [q02m,q002 _ _ _ _ _ _ (noP _) fn387]
 obtain ⟨J,hJ,q1,q2,q3,q4⟩:=q07r j
 rw [hJ] at hf⊢
 have e:subs [V.p (.fn f)] 0 1=some [.p (.fn f)]:=rfl
 cases b<;>simp [-List.all_eq_true,zEa,q1,q2,q3,q4,hb,e,hf,yes]
theorem q0uv (g:FuncId) (H:Heap):clD EE (.p (.fn 338)) [.p (.fn g)] H=some (.fn (.func 390) [] [.ptr H.length 0],some (H++[.box [.p (.fn g)]],[])):=by
 rw [q002 _ _ _ _ _ _ (noP _) fn338]
 simp [zEa]
theorem q0uw (g:FuncId) (H:Heap):clD EE (.p (.fn 341)) [.p (.fn g)] H=some (.fn (.func 396) [] [.ptr H.length 0],some (H++[.box [.p (.fn g)]],[])):=by
 rw [q002 _ _ _ _ _ _ (noP _) fn341]
 simp [zEa]
theorem q0ux (g:FuncId) (H:Heap):clD EE (.p (.fn 344)) [.p (.fn g)] H=some (.fn (.func 399) [] [.ptr H.length 0],some (H++[.box [.p (.fn g)]],[])):=by
 rw [q002 _ _ _ _ _ _ (noP _) fn344]
 simp [zEa]
theorem c6_ev (ok:okJob j) (H:Heap):clD EE (.p (.fn 337)) [vJob j] H=some (vI (idxF (fun x=> !q016 x) 0 j.items),none):=by
 rw [q002 _ _ _ _ _ _ (noP _) fn337]
 have h:=q0mq j.items ok.n1 H.length (H++[.box [.p (.fn 339)]]) (by simp)
 simp [zEb,q0uv,h]
theorem c7_ev (ok:okJob j) (H:Heap):clD EE (.p (.fn 340)) [vJob j] H=some (vI (idxF (fun x=>q01o x.lines x.pens) 0 j.notes),none):=by
 rw [q002 _ _ _ _ _ _ (noP _) fn340]
 have h:=q0mr j.notes ok.n2 (fun x hx=>(ok.notes x hx).2) H.length (H++[.box [.p (.fn 342)]]) (by simp)
 simp [zEb,q0uw,h]
theorem c8_ev (ok:okJob j) (H:Heap):clD EE (.p (.fn 343)) [vJob j] H=some (vI (idxF (fun x=> !q01l x) 0 j.floats),none):=by
 rw [q002 _ _ _ _ _ _ (noP _) fn343]
 have h:=q0js j.floats ok.n3 H.length (H++[.box [.p (.fn 345)]]) (by simp)
 simp [zEb,q0ux,h]
theorem c9_ev (ok:okJob j) (H:Heap):clD EE (.p (.fn 346)) [vJob j] H=some (vI (q0fh j),none):=by
 rw [q002 _ _ _ _ _ _ (noP _) fn346]
 have h1:=q0pn j.items 5 j.notes.length H ok.n1
 have h2:=q0pn j.items 6 j.floats.length H ok.n1
 unfold q0fh
 generalize refF 5 j.notes.length 0 0 j.items=a at*
 generalize refF 6 j.floats.length 0 0 j.items=b at*
 by_cases c1:a<0
 ·simp [zEb,h1,h2,c1]
 ·by_cases c2:b<0
  ·simp [zEb,h1,h2,c1,c2]
  ·simp [zEb,h1,h2,c1,c2]
theorem q0yq (f:Float) (first:Int) (p:Nat) (H:Heap) (cs:List V) (hb:Eng.boxAt H p=some cs) (hc:subs cs 4 1=some [vI first]):clD EE (.fn (.func 403) [] [.ptr p 0]) [q03v f] H=some (vB (decide (first<f.h)),none):=by
 rw [q02m,q002 _ _ _ _ _ _ (noP _) fn403]
 have e:subs [vI f.c,vI f.h,vI f.w] 1 1=some [vI f.h]:=rfl
 simp [zEa,hb,hc,e]
theorem q0rc (j:Job): ∃J,vJob j= .agg J/\J.length=22/\subs J 0 22=some J/\ ¬J=[]/\J.all V.oneB=true/\subs J 4 1=some [vI j.g.first]/\subs J 21 1=some [q005 j.floats]/\J.map normC=J:=⟨_,rfl,rfl,rfl,by simp,rfl,rfl,rfl,rfl⟩
theorem q0E6 (ok:okJob j) (n3:(snapG j).floats.length<=1000000) (H:Heap):clD EE (.p (.fn 347)) [vJob j] H=some (vI (tallF j),none):=by
 rw [q002 _ _ _ _ _ _ (noP _) fn347]
 have h1:=q0pi j ok H
 obtain ⟨J,hJ,q1,q2,q3,q4⟩:=q07r j
 obtain ⟨M,hM,m1,m2,m3,m4,m5,m6⟩:=q0rc (snapG j)
 have h2:=q0b7 _ 3 true q009 (fun x=>q03v x) (noP _) q0d5 (fun _=>rfl) (fun _=>rfl) (fun _=>rfl) (fun _=>rfl) (snapG j).floats (by omega) (.fn (.func 403) [] [.ptr H.length 0]) (fun f=>decide ((snapG j).g.first<f.h)) (H++[.box M])
  (fun x _=>q0yq x (snapG j).g.first H.length (H++[.box M]) M (by simp) m5)
 unfold tallF
 rw [hJ,hM] at h1
 rw [hJ]
 have e:q001 (α:=V) [.p (.int .i64 0),.p (.int .i64 0),.p (.int .i64 0),.p (.int .i64 0),.p (.int .i64 0),.p (.int .i64 0),.p (.int .i64 0),.p (.int .i64 0),.p (.int .i64 0),.p (.int .i64 0),.p (.int .i64 0),.p (.int .i64 0),.p (.int .i64 0),.p (.int .i64 0),.p (.int .i64 0),.p (.int .i64 0),.p (.int .i64 0),.p (.int .i64 0),.p (.bool false),.nils,.nils,.nils] 0 M=some M:=by simp [q001,m1]
 simp [-List.all_eq_true,zEa,q1,q2,q3,q4,m1,m2,m3,m4,m6,e,h1,h2]
def whenV (n:Nat):V:= .fn (.func 387) [] [.ptr n 0]
def q01w (n:Nat):List (Int×V×Int):=
 [(3,whenV n,yes (decide (4096<(j.items.length:Int)))),(4,whenV (n+1),yes (decide (256<(j.floats.length:Int)))),(5,whenV (n+2),yes (decide (512<(j.notes.length:Int)))),
  (6,whenV (n+3),yes (decide (geomF j.g=6))),(7,whenV (n+4),yes (decide (geomF j.g=7))),
  (8,.p (.fn 337),idxF (fun x=> !q016 x) 0 j.items),(9,.p (.fn 340),idxF (fun x=>q01o x.lines x.pens) 0 j.notes),(10,.p (.fn 343),idxF (fun x=> !q01l x) 0 j.floats),
  (11,.p (.fn 346),q0fh j),(12,.p (.fn 347),tallF j)]
def q039 (c:Int×V×Int):List V:=[vI c.1,c.2.1]
def q04o:Heap:=[.box [.p (.fn 331)],.box [.p (.fn 332)],.box [.p (.fn 333)],.box [.p (.fn 334)],.box [.p (.fn 336)]]
theorem q0Cd (g:FuncId) (H:Heap):clD EE (.p (.fn 330)) [.p (.fn g)] H=some (whenV H.length,some (H++[.box [.p (.fn g)]],[])):=by
 rw [q002 _ _ _ _ _ _ (noP _) fn330]
 simp [zEa,whenV]
theorem q0o8 (H:Heap):clD EE (.p (.fn 231)) [] H=some (.vsl ((q01w j H.length).map q039),some (H++q04o,[])):=by
 rw [q002 _ _ _ _ _ _ (noP _) fn231]
 simp [zEa,q001,q0Cd,whenV,q01w,q039,q04o]
theorem q0o9 (ok:okJob j) (n3:(snapG j).floats.length<=1000000) (H:Heap): ∀c∈q01w j H.length,clD EE c.2.1 [vJob j] (H++q04o)=some (vI c.2.2,none)/\c.2.1.oneB=true/\c.2.1.cells=[c.2.1]/\c.2.1.notL=true:=by
 intro c hc
 have wh: ∀(i:Nat) (f:FuncId) (b:Bool),q04o[i]? =some (.box [.p (.fn f)])->clD EE (.p (.fn f)) [vJob j] (H++q04o)=some (vB b,none)->clD EE (whenV (H.length+i)) [vJob j] (H++q04o)=some (vI (yes b),none):=fun i f b hi hf=>by
  refine q0yp j f b (H.length+i) _ ?_ hf
  rw [q0b0];unfold Eng.boxAt;rw [hi]
 simp only [q01w,ZI,List.not_mem_nil,or_false] at hc
 rcases hc with rfl|rfl|rfl|rfl|rfl|rfl|rfl|rfl|rfl|rfl
 ·exact ⟨wh 0 _ _ rfl (c1_ev j _),rfl,rfl,rfl⟩
 ·exact ⟨wh 1 _ _ rfl (c2_ev j _),rfl,rfl,rfl⟩
 ·exact ⟨wh 2 _ _ rfl (c3_ev j _),rfl,rfl,rfl⟩
 ·exact ⟨wh 3 _ _ rfl (c4_ev j _),rfl,rfl,rfl⟩
 ·exact ⟨wh 4 _ _ rfl (c5_ev j _),rfl,rfl,rfl⟩
 ·exact ⟨c6_ev j ok _,rfl,rfl,rfl⟩
 ·exact ⟨c7_ev j ok _,rfl,rfl,rfl⟩
 ·exact ⟨c8_ev j ok _,rfl,rfl,rfl⟩
 ·exact ⟨c9_ev j ok _,rfl,rfl,rfl⟩
 ·exact ⟨q0E6 j ok n3 _,rfl,rfl,rfl⟩
def q04p:List (Int×V×Int)->Int×Int
 |[]=>(0,0)
 |c::r=>if 0<=c.2.2 then (c.1,c.2.2) else q04p r
def q02q:Int×Int:=q04p (q01w j 0)
theorem q0uy (n:Nat):q04p (q01w j n)=q02q j:=by simp [q04p,q01w,q02q]
def ckE (J:List V) (L:List (Int×V×Int)) (H:Heap) (B:Nat) (i:Nat):St:=⟨[(1,.lptr 1 0),(7,.vsl (L.map q039)),(8,vI L.length),(9,vI i)],[(1,J)],H,B,[]⟩
def ckX (J:List V) (L:List (Int×V×Int)) (H:Heap) (B:Nat):Ex×St:=(.exit 0,⟨[(1,.lptr 1 0),(7,.vsl (L.map q039)),(8,vI L.length),(9,vI L.length),(10,vB false)],[(1,J)],H,B,[]⟩)
def ckS (H:Heap) (B:Nat) (_:Unit) (_:Nat) (c:Int×V×Int):Unit⊕(Ex×St):=if 0<=c.2.2 then .inr (.ret,⟨[(2,vI c.1),(3,vI c.2.2)],[],H,B,[]⟩) else .inl ()
theorem q0uz (J:List V) (H:Heap) (B:Nat) (fin:Ex×St): ∀(l:List (Int×V×Int)) (i:Nat),(rng (ckS H B) (fun _=>fin) () i l=fin/\q04p l=(0,0))\/(rng (ckS H B) (fun _=>fin) () i l=(.ret,⟨[(2,vI (q04p l).1),(3,vI (q04p l).2)],[],H,B,[]⟩))
 |[],_=> .inl ⟨rfl,rfl⟩
 |c::r,i=>by
  simp only [rng,ckS,q04p]
  by_cases h:0<=c.2.2
  ·rw [if_pos h,if_pos h];exact .inr rfl
  ·rw [if_neg h,if_neg h]
   exact q0uz J H B fin r (i+1)
theorem ck_lp (J:List V) (q1:J.length=22) (q2:subs J 0 22=some J) (q3: ¬J=[]) (q4:J.all V.oneB=true/\J.map normC=J) (L:List (Int×V×Int)) (hn:L.length<=1000) (H:Heap) (B:Nat) (hL: ∀c∈L,clD EE c.2.1 [.agg J] H=some (vI c.2.2,none)/\c.2.1.oneB=true/\c.2.1.cells=[c.2.1]/\c.2.1.notL=true):
  evD EE q0g1 (ckE J L H B 0)=some (rng (ckS H B) (fun _=>ckX J L H B) () 0 L):=by
 unfold q0g1
 refine q013 L (fun (_:Unit) i=>ckE J L H B i) (fun _ _=>True) (ckS H B) (fun _=>ckX J L H B) (fun _ _=>rfl) ?_ ?_ () 0 trivial (Zj _)
 ·rintro _ i c-hc
  have hlt:=(Za.1 hc).1
  have w:IntKind.i64.wrap ((i:Int)+1)=((i+1:Nat):Int):=w64 (by omega) (by omega)
  obtain ⟨h1,h2,h3,h4⟩:=hL c (Zp hc)
  have q5:J.take 22=J:=Zy (by omega)
  have hix:ixsI H (.vsl (L.map q039)) (vI i) 2=some (.eptr [vI c.1,c.2.1] 0):=by
   have:(L.map q039)[i]? =some [vI c.1,c.2.1]:=by simp [hc,q039]
   simp [ixsI,ixsV,this]
  by_cases a:0<=c.2.2
  ·have e:ckS H B () i c= .inr (.ret,⟨[(2,vI c.1),(3,vI c.2.2)],[],H,B,[]⟩):=if_pos a
   simp only [e]
   simp [-List.all_eq_true,ckE,hlt,hix,subs,q001,q1,q3,q4,q5,h1,h2,h3,h4,a]
  ·have e:ckS H B () i c= .inl ():=if_neg a
   simp only [e]
   simp [-List.all_eq_true,ckE,hlt,hix,subs,q001,q1,q3,q4,q5,h1,h2,h3,h4,a,w]
 ·rintro _-
  simp [ckE,ckX]
theorem q0jt (ok:okJob j) (n3:(snapG j).floats.length<=1000000) (H:Heap):clD EE (.p (.fn 123)) [vJob j] H=some (.tup [vI (q02q j).1,vI (q02q j).2],none):=by
 rw [q002 _ _ _ _ _ _ (noP _) fn123]
 have h1:=q0o8 j H
 have h2:=q0o9 j ok n3 H
 have hf:=q0uy j H.length
 obtain ⟨J,hJ,q1,q2,q3,q4⟩:=q07r j
 rw [hJ] at h2⊢
 have key:=ck_lp J q1 q2 q3 q4 (q01w j H.length) (by simp [q01w]) (H++q04o) H.length h2
 have hl:(q01w j H.length).length=10:=rfl
 have hle:lenV (.vsl ((q01w j H.length).map q039))=some 10:=rfl
 rcases q0uz J (H++q04o) H.length (ckX J (q01w j H.length) (H++q04o) H.length) (q01w j H.length) 0 with ⟨k1,k2⟩|k1
 ·rw [k1] at key
  rw [hf] at k2
  simp only [ckE,ckX,hl] at key
  generalize (q01w j H.length).map q039=CL at*
  simp at key
  simp [-List.all_eq_true,zEa,q1,q2,q3,q4,h1,hle,key,k2]
 ·rw [k1,hf] at key
  simp only [ckE,hl] at key
  generalize (q01w j H.length).map q039=CL at*
  simp at key
  simp [-List.all_eq_true,zEa,q1,q2,q3,q4,h1,hle,key]
theorem q0ju (ok:okJob j) (n3:(snapG j).floats.length<=1000000) (H:Heap):clD EE (.p (.fn 46)) [vJob j] H=some (vB (decide ((q02q j).1=0)),none):=by
 rw [q002 _ _ _ _ _ _ (noP _) fn46]
 have h1:=q0jt j ok n3 H
 obtain ⟨J,hJ,q1,q2,q3,q4⟩:=q07r j
 rw [hJ] at h1⊢
 simp [-List.all_eq_true,zEa,q1,q2,q3,q4,h1]
end
theorem q0v0 (g:Geom):geomF g=0\/geomF g=6\/geomF g=7:=by
 unfold geomF
 repeat' split
 all_goals first|exact .inl rfl|exact .inr (.inl rfl)|exact .inr (.inr rfl)
def q08u (j:Job):Int×Int:=
 if 4096<(j.items.length:Int) then (3,0) else if 256<(j.floats.length:Int) then (4,0) else if 512<(j.notes.length:Int) then (5,0)
 else if geomF j.g≠0 then (geomF j.g,0)
 else if 0<=idxF (fun x=> !q016 x) 0 j.items then (8,idxF (fun x=> !q016 x) 0 j.items)
 else if 0<=idxF (fun x=>q01o x.lines x.pens) 0 j.notes then (9,idxF (fun x=>q01o x.lines x.pens) 0 j.notes)
 else if 0<=idxF (fun x=> !q01l x) 0 j.floats then (10,idxF (fun x=> !q01l x) 0 j.floats)
 else if 0<=refF 5 j.notes.length 0 0 j.items/\(refF 6 j.floats.length 0 0 j.items<0\/refF 5 j.notes.length 0 0 j.items<=refF 6 j.floats.length 0 0 j.items) then (11,refF 5 j.notes.length 0 0 j.items)
 else if 0<=refF 6 j.floats.length 0 0 j.items then (11,refF 6 j.floats.length 0 0 j.items)
 else if 0<=tallF j then (12,tallF j) else (0,0)
theorem q0yr (a b:Int) (R:Int×Int):(if 0<=a/\(b<0\/a<=b) then ((11:Int),a) else if 0<=b then (11,b) else R)=if 0<=(if a<0\/b<0 then max a b else min a b) then (11,if a<0\/b<0 then max a b else min a b) else R:=by
 by_cases ha:a<0
 ·have h1: ¬(0<=a/\(b<0\/a<=b)):=by omega
  have h2:a<0\/b<0:= .inl ha
  rw [if_neg h1]
  simp only [if_pos h2]
  by_cases hb:b<0
  ·have h3: ¬0<=b:=by omega
   have h4: ¬0<=max a b:=by omega
   rw [if_neg h3,if_neg h4]
  ·have e:max a b=b:=by omega
   rw [e]
 ·by_cases hb:b<0
  ·have e:max a b=a:=by omega
   have h2:a<0\/b<0:= .inr hb
   have h3:0<=a/\(b<0\/a<=b):=⟨by omega,.inl hb⟩
   rw [if_pos h3]
   simp only [if_pos h2,e,if_pos h3.1]
  ·have h2: ¬(a<0\/b<0):=by omega
   simp only [if_neg h2]
   by_cases hab:a<=b
   ·have e:min a b=a:=by omega
    have h3:0<=a/\(b<0\/a<=b):=⟨by omega,.inr hab⟩
    rw [if_pos h3]
    simp only [e,if_pos h3.1]
   ·have e:min a b=b:=by omega
    have h3: ¬(0<=a/\(b<0\/a<=b)):=by omega
    rw [if_neg h3,e]
theorem q0is (j:Job):q08u j=q02q j:=by
 unfold q08u q02q q01w
 rw [q0yr]
 simp only [q04p,yes,q0fh]
 by_cases c1:4096<(j.items.length:Int)
 ·simp [c1]
 ·by_cases c2:256<(j.floats.length:Int)
  ·simp [c1,c2]
  ·by_cases c3:512<(j.notes.length:Int)
   ·simp [c1,c2,c3]
   ·rcases q0v0 j.g with g|g|g
    ·simp [c1,c2,c3,g]
     rfl
    ·simp [c1,c2,c3,g]
    ·simp [c1,c2,c3,g]
end Go.EnvOf
namespace Go.EnvOf
open Go Go.Eng
set_option maxRecDepth 100000
theorem q0d7 {j:Job} (h:j.floats.length<=1000000):(snapG j).floats.length<=1000000:=by
 unfold snapG;split
 ·exact h
 ·simpa using h
def cnt (k:Int) (l:List Item):Nat:=(l.filter fun x=>decide (x.k=k)).length
theorem q0dz (k:Int) (x:Item) (r:List Item):cnt k (x::r)=(if x.k=k then 1 else 0)+cnt k r:=by
 unfold cnt
 by_cases h:x.k=k
 ·simp [h];omega
 ·simp [h]
theorem q07c (k:Int) (most:Nat): ∀(l:List Item) (i n:Nat),n<=most->refF k most i n l<0->n+cnt k l=most
 |[],i,n,hn,h=>by
  simp only [refF] at h
  by_cases c:n<most
  ·rw [if_pos c] at h;omega
  ·simp [cnt];omega
 |x::r,i,n,hn,h=>by
  simp only [refF] at h
  rw [q0dz]
  by_cases hk:x.k=k
  ·rw [if_pos hk] at h⊢
   by_cases hx:x.n=n/\n<most
   ·rw [if_pos hx] at h
    have:=q07c k most r (i+1) (n+1) (by omega) h
    omega
   ·rw [if_neg hx] at h;omega
  ·rw [if_neg hk] at h⊢
   have:=q07c k most r (i+1) n hn h
   omega
theorem q0bm (k:Int) (most:Nat): ∀(l:List Item) (i n m:Nat),refF k most i n l<0->refF k (n+cnt k (l.take m)) i n (l.take m)<0
 |[],i,n,m,_=>by simp [refF,cnt]
 |x::r,i,n,0,_=>by simp [refF,cnt]
 |x::r,i,n,m+1,h=>by
  simp only [refF] at h
  rw [ZZ,q0dz]
  by_cases hk:x.k=k
  ·rw [if_pos hk] at h
   by_cases hx:x.n=n/\n<most
   ·rw [if_pos hx] at h
    have ih:=q0bm k most r (i+1) (n+1) m h
    have h2:x.n=n/\n<n+((if x.k=k then 1 else 0)+cnt k (r.take m)):=⟨hx.1,by rw [if_pos hk];omega⟩
    simp only [refF]
    rw [if_pos hk,if_pos h2]
    rw [if_pos hk,show n+(1+cnt k (r.take m))=n+1+cnt k (r.take m) by omega]
    exact ih
   ·rw [if_neg hx] at h;omega
  ·rw [if_neg hk] at h
   have ih:=q0bm k most r (i+1) n m h
   simp only [refF]
   rw [if_neg hk,if_neg hk,Zs]
   exact ih
theorem q0d8 (k:Int) (l:List Item) (m:Nat):cnt k (l.take m)<=cnt k l:=by
 unfold cnt
 conv=>rhs;rw [<-List.take_append_drop m l,List.filter_append,Zt]
 omega
theorem q09s {α:Type} {p:α->Bool} {l:List α} (h:idxF p 0 l<0): ∀x∈l,p x=false:=by
 have:=q09j p 0 l
 have h2:l.any p=false:=by rw [<-this];simp;omega
 intro x hx
 have:=List.any_eq_false.1 h2 x hx
 simpa using this
theorem q0cf {α:Type} {p:α->Bool} {l:List α} (h: ∀x∈l,p x=false):idxF p 0 l<0:=by
 have:=q09j p 0 l
 have h2:l.any p=false:=by rw [List.any_eq_false];intro x hx;rw [h x hx];simp
 rw [h2] at this
 simp at this;exact this
structure Right (j:Job):Prop where
 n1:(j.items.length:Int)<=4096
 n2:(j.floats.length:Int)<=256
 n3:(j.notes.length:Int)<=512
 g:geomF j.g=0
 items: ∀x∈j.items,q016 x=true
 notes: ∀x∈j.notes,q01o x.lines x.pens=false
 floats: ∀x∈j.floats,q01l x=true
 r5:refF 5 j.notes.length 0 0 j.items<0
 r6:refF 6 j.floats.length 0 0 j.items<0
 tall: ∀f∈(snapG j).floats,¬(snapG j).g.first<f.h
theorem q0it (j:Job):(q02q j).1=0↔Right j:=by
 rw [<-q0is]
 constructor
 ·intro h
  unfold q08u at h
  split at h
  ·cases h
  split at h
  ·cases h
  split at h
  ·cases h
  split at h
  ·rename_i hg;exact absurd h hg
  split at h
  ·cases h
  split at h
  ·cases h
  split at h
  ·cases h
  split at h
  ·cases h
  split at h
  ·cases h
  split at h
  ·cases h
  rename_i a1 a2 a3 a4 a5 a6 a7 a8 a9 a10
  refine ⟨by omega,by omega,by omega,by omega,fun x hx=> ?_,fun x hx=> ?_,fun x hx=> ?_,by omega,by omega,fun f hf=> ?_⟩
  ·simpa using q09s (p:=fun x=> !q016 x) (by omega) x hx
  ·exact q09s (p:=fun x:Note=>q01o x.lines x.pens) (by omega) x hx
  ·simpa using q09s (p:=fun x=> !q01l x) (by omega) x hx
  ·have:tallF j<0:=by omega
   simpa using q09s this f hf
 ·intro r
  have i1:=q0cf (p:=fun x=> !q016 x) (l:=j.items) fun x hx=>by rw [r.items x hx];rfl
  have i2:=q0cf (p:=fun x:Note=>q01o x.lines x.pens) (l:=j.notes) r.notes
  have i3:=q0cf (p:=fun x=> !q01l x) (l:=j.floats) fun x hx=>by rw [r.floats x hx];rfl
  have i4:tallF j<0:=q0cf fun f hf=>by simpa using r.tall f hf
  have a1:=r.n1
  have a2:=r.n2
  have a3:=r.n3
  have a4:=r.g
  have a5:=r.r5
  have a6:=r.r6
  unfold q08u
  rw [if_neg (by omega),if_neg (by omega),if_neg (by omega),if_neg (by omega),if_neg (by omega),if_neg (by omega),if_neg (by omega),if_neg (by omega),if_neg (by omega),if_neg (by omega)]
structure Piece where
 n:Int
 frm:Int
 to:Int
 deriving Inhabited,DecidableEq
def q00g (x:Piece):List PV:=[.int .i64 x.n,.int .i64 x.frm,.int .i64 x.to]
@[simp] theorem q0E7 (x:Piece):(q00g x).length=3:=rfl
abbrev q00v (l:List Piece):V:= .p (.sl (l.map q00g))
structure Spot where
 note:Int
 line:Int
 begun:Int
 fresh:Bool
 deriving Inhabited,DecidableEq
abbrev vSpot (s:Spot):V:= .agg [vI s.note,vI s.line,vI s.begun,vB s.fresh]
def nextP (l:List Note) (x:Piece):Int×Int:=if 0<=x.n/\x.n<l.length/\x.to=(rd l x.n).lines.length then (x.n+1,0) else (x.n,x.to)
def nextF (l:List Note) (s:Spot) (p:List Piece):Int×Int:=match p.getLast? with
 |none=>(s.note,s.line)
 |some x=>nextP l x
theorem q0Zr {α:Type} (enc:α->List PV) (s:Nat) (hs: ∀x,(enc x).length=s) {p:List α} {x:α} (h:p.getLast? =some x) (H:Heap) (k:IntKind):ixsI H (.p (.sl (p.map enc))) (.p (.int k ((p.length:Int)-1))) s=some (.eptr ((enc x).map .p) 0):=by
 have hp:p≠[]:=fun e=>by subst e;simp at h
 have hl:0<p.length:=List.length_pos_iff.2 hp
 have e:((p.length:Int)-1).toNat=p.length-1:=by omega
 refine q024 H enc (by omega) ?_ (hs x)
 rw [e,<-List.getLast?_eq_getElem?];exact h
theorem q0Zh (l:List Note) (s:Spot) (p:List Piece) (hl:l.length<=1000000) (hp:p.length<=1000000) (H:Heap):clD EE (.p (.fn 101)) [q00b l,vSpot s,q00v p] H=some (.tup [vI (nextF l s p).1,vI (nextF l s p).2],none):=by
 rw [q002 _ _ _ _ _ _ (noP _) fn101]
 unfold nextF
 cases hx:p.getLast? with
 |none=>
  have:p=[]:=by simpa using hx
  subst this
  simp [zEb]
 |some x=>
  have hp0:p≠[]:=fun e=>by subst e;simp at hx
  have hlen: ¬p.length=0:=by simpa using hp0
  have hpos:0<p.length:=by omega
  have w1:IntKind.i64.wrap ((p.length:Int)-1)=(p.length:Int)-1:=w64 (by omega) (by omega)
  have hix:=fun H k=>q0Zr q00g 3 (fun _=>rfl) hx H k
  simp only [q00g] at hix
  simp only [nextP]
  by_cases a:0<=x.n
  ·by_cases b:x.n<(l.length:Int)
   ·have hin:=fun H k=>q0bw H q00e l k x.n 2 (fun _=>rfl) a b
    simp only [q00e] at hin
    have w2:IntKind.i64.wrap (x.n+1)=x.n+1:=w64 (by omega) (by omega)
    by_cases c:x.to=((rd l x.n).lines.length:Int)
    ·simp [zEc,hp0,w1,hix,a,b,hin,c,w2]
    ·simp [zEc,hp0,w1,hix,a,b,hin,c]
   ·simp [zEc,hp0,w1,hix,a,b]
  ·simp [zEc,hp0,w1,hix,a]
def q04t (l:List Note) (s:Int) (x:Piece):Int:=if 0<=x.n/\x.n<l.length then min (s+highF (rd l x.n).lines x.frm x.to) far else s
def highP (l:List Note) (p:List Piece) (rule:Int):Int:=if p=[] then 0 else p.foldl (q04t l) (min (max rule 0) far)
theorem q0e0 (L:List Int) (a b:Int):0<=highF L a b:=q0h7 _ (ZS _)
theorem q0e1 (L:List Int) (a b:Int):highF L a b<=far:=q0h8 _ (by unfold far;omega)
theorem q0iu (l:List Note) {s:Int} (x:Piece) (h:0<=s/\s<=far):0<=q04t l s x/\q04t l s x<=far:=by
 unfold q04t
 have h1:=q0e0 (rd l x.n).lines x.frm x.to
 have h2:=q0e1 (rd l x.n).lines x.frm x.to
 unfold far at*
 split<;>omega
def shE (l:List Note) (p:List Piece) (H:Heap) (s:Int) (i:Nat):St:=⟨[(0,q00b l),(7,vI s),(16,q00v p),(17,vI p.length),(18,vI i)],[],H,H.length,[]⟩
def shX (l:List Note) (p:List Piece) (H:Heap) (s:Int):Ex×St:=(.exit 0,⟨[(0,q00b l),(7,vI s),(16,q00v p),(17,vI p.length),(18,vI p.length),(19,vB false)],[],H,H.length,[]⟩)
theorem foldI {α:Type} (f:Int->α->Int): ∀(l:List α) (s:Int) (i:Nat),fold (fun s _ x=>f s x) s i l=l.foldl f s
 |[],_,_=>rfl
 |x::r,s,i=>by simp only [fold,ZT];exact foldI f r _ _
abbrev q0cg (l:List Note):Prop:= ∀n∈l,n.lines.length<=1000000
theorem q05a {α:Type} [Inhabited α] {l:List α} {i:Int} (h0:0<=i) (h1:i<l.length):rd l i∈l:=Zp (q026 l i h0 h1)
theorem q0mu (l:List Note) (p:List Piece) (hl:q0cg l) (hp:p.length<=1000000) (H:Heap) (s:Int) (hs:0<=s/\s<=far):evD EE q08f (shE l p H s 0)=some (shX l p H (p.foldl (q04t l) s)):=by
 unfold q08f
 refine Eq.trans (q00u (E:=EE) p (fun s i=>shE l p H s i) (fun s _=>0<=s/\s<=far) (fun s _ x=>q04t l s x) (fun s=>shX l p H s) (fun _ _=>rfl) ?_ ?_ s 0 hs (Zj _)) (by rw [ZG,foldI])
 ·rintro s i x hs hx
  refine ⟨?_,q0iu l x hs⟩
  have hlt:=(Za.1 hx).1
  have w1:IntKind.i64.wrap ((i:Int)+1)=((i+1:Nat):Int):=w64 (by omega) (by omega)
  have hix:=fun H k=>q00c H q00g (k:=k) (s:=3) hx rfl
  simp only [q00g] at hix
  unfold q04t
  by_cases a:0<=x.n
  ·by_cases b:x.n<(l.length:Int)
   ·have hin:=fun H k=>q0bw H q00e l k x.n 2 (fun _=>rfl) a b
    simp only [q00e] at hin
    have hh:=q0C7 (rd l x.n).lines (rd l x.n).pens x.frm x.to H (by have:=hl _ (q05a a b);omega)
    simp only [note] at hh
    have h1:=q0e0 (rd l x.n).lines x.frm x.to
    have h2:=q0e1 (rd l x.n).lines x.frm x.to
    have w2:IntKind.i64.wrap (s+highF (rd l x.n).lines x.frm x.to)=s+highF (rd l x.n).lines x.frm x.to:=w64 (by unfold far at*;omega) (by unfold far at*;omega)
    simp [shE,hlt,hix,subs,q001,a,b,hin,hh,w1,w2,far]
   ·simp [shE,hlt,hix,subs,q001,a,b,w1]
  ·simp [shE,hlt,hix,subs,q001,a,w1]
 ·rintro s-
  refine ⟨?_,by simp [shX]⟩
  simp [shE,shX]
theorem q0mv (l:List Note) (p:List Piece) (rule:Int) (hl:q0cg l) (hp:p.length<=1000000) (H:Heap):clD EE (.p (.fn 195)) [q00b l,q00v p,vI rule] H=some (vI (highP l p rule),none):=by
 rw [q002 _ _ _ _ _ _ (noP _) fn195]
 have key:=q0mu l p hl hp H (min (max rule 0) far) (by unfold far;omega)
 simp only [shE,shX,far] at key
 unfold highP
 by_cases h:p=[]
 ·subst h;simp [zEa]
 ·simp at key
  simp [zEa,h,key,far]
theorem q0d9:EE.fns 371=some (eqI 3 [true,true,true]):=by kernel_rfl
theorem q083 (x y:Piece):q00h [true,true,true] ((q00g x).map .p) ((q00g y).map .p)=some (decide (x=y)):=by
 obtain ⟨a,b,c⟩:=x
 obtain ⟨a',b',c'⟩:=y
 simp [q00g,Bool.decide_and]
theorem q0bn (a b:List Piece) (hn:a.length<=1000000) (H:Heap):clD EE (.p (.fn 290)) [q00v a,q00v b] H=some (vB (decide (a=b)),none):=by
 rw [q002 _ _ _ _ _ _ (noP _) fn290]
 have:=eq_ev _ 3 _ q00g (noP _) q0d9 (fun _=>rfl) (fun _=>rfl) q083 a b (by omega) H
 simp [zEa,this]
def q04c (x:Item):Bool:=decide (x.k=2)||decide (x.k=3)
def stayB (l:List Item) (n:Nat):Bool:=match l[n]? with|some x=> !q04c x|none=>true
def seekP (p:Nat->Bool):Nat->Nat->Int
 |0,_=> -1
 |k+1,n=>if p n=true then n else seekP p k (n+1)
def trimN (l:List Item) (a:Nat):Nat:=a+((l.drop a).takeWhile q04c).length
theorem q10v (l:List Item) (a:Nat) (h:a<=l.length):trimN l a<=l.length:=by
 unfold trimN
 have h2:=(List.takeWhile_sublist (l:=l.drop a) q04c).length_le
 simp only [List.length_drop] at h2
 omega
theorem q10w (l:List Item) (a:Nat):a<=trimN l a:=Nat.le_add_right _ _
theorem q0da {l:List Item} {a:Nat} {x:Item} (hx:l[a]? =some x) (h:q04c x=true):trimN l a=trimN l (a+1):=by
 obtain ⟨hl,rfl⟩:=Za.1 hx
 unfold trimN
 rw [ZA hl,List.takeWhile_cons,if_pos h]
 simp only [Zg];omega
theorem q09t {l:List Item} {a:Nat} (h:stayB l a=true):trimN l a=a:=by
 unfold trimN stayB at*
 cases hx:l[a]? with
 |none=>
  have:l.length<=a:=by simpa using hx
  rw [List.drop_eq_nil_of_le this];simp
 |some x=>
  rw [hx] at h
  obtain ⟨hl,rfl⟩:=Za.1 hx
  rw [ZA hl,List.takeWhile_cons,if_neg (by simpa using h)]
  simp
theorem q0ys {l:List Item} {a:Nat} (h:stayB l a=false): ∃x,l[a]? =some x/\q04c x=true:=by
 unfold stayB at h
 cases hx:l[a]? with
 |none=>rw [hx] at h;simp at h
 |some x=>rw [hx] at h;exact ⟨x,rfl,by simpa using h⟩
theorem q0Zx {l:List Item} {a:Nat} (h:stayB l a=false):trimN l a=trimN l (a+1):=by
 obtain ⟨x,hx,hl⟩:=q0ys h
 exact q0da hx hl
theorem q0iv (l:List Item): ∀(k a:Nat),a<=l.length->l.length+1-a=k->seekP (stayB l) k a=trimN l a
 |0,a,h,hk=>by omega
 |k+1,a,h,hk=>by
  simp only [seekP]
  cases hs:stayB l a with
  |true=>rw [if_pos rfl,q09t hs]
  |false=>
   obtain ⟨x,hx,hl⟩:=q0ys hs
   have hlt:=(Za.1 hx).1
   rw [if_neg (by simp),q0iv l k (a+1) (by omega) (by omega),q0da hx hl]
theorem q10i (l:List Item) (n a:Nat) (hn:l.length-a=n):stayB l (trimN l a)=true:=by
 induction n generalizing a with
 |zero=>
  have:stayB l a=true:=by unfold stayB;rw [ZF (by omega)]
  rw [q09t this];exact this
 |succ n ih=>
  cases hs:stayB l a with
  |true=>rw [q09t hs];exact hs
  |false=>rw [q0Zx hs];exact ih (a+1) (by omega)
theorem q0Zy (l:List Item) (a:Nat):trimN l (trimN l a)=trimN l a:=q09t (q10i l _ a rfl)
def putN (l:List Item) (n:Int):Nat:=(min (max n 0) l.length).toNat
theorem q08v (l:List Item) (n:Int):putN l n<=l.length:=by unfold putN;omega
theorem q0Ce {l:List Item} {n:Nat} (h:n<=l.length):putN l n=n:=by unfold putN;omega
def trimF (l:List Item) (n:Int):Nat:=trimN l (putN l n)
theorem q0Zi (l:List Item) (n:Int):trimF l n<=l.length:=q10v _ _ (q08v l n)
def q01a (l:List Item):Int:=cnt 5 l
def addAt (fs:List Float) (c:C3) (x:Item):C3:=if x.k=6 then ofS fs c x.n else c
def q00n (fs:List Float) (l:List Item):C3:=l.foldl (addAt fs) ⟨0,0,0⟩
def dueS (fs:List Float) (s:C3×C3) (x:Item):C3×C3:=(addAt fs s.1 x,if x.k=7 then s.1 else s.2)
def dueP (fs:List Float) (l:List Item):C3:=(l.foldl (dueS fs) (⟨0,0,0⟩,⟨0,0,0⟩)).2
theorem q0Cf (fs:List Float) (l:List Item): ∀s:C3×C3,(l.foldl (dueS fs) s).1=l.foldl (addAt fs) s.1:=by
 induction l with
 |nil=>intro s;rfl
 |cons x r ih=>intro s;simp only [ZT,ih];rfl
theorem q03n {α:Type} {l:List α} {i:Nat} {x:α} (h:l[i]? =some x):l.take (i+1)=l.take i++[x]:=by rw [List.take_add_one,h];rfl
theorem q0oa (l:List Item) (x:Item):q01a (l++[x])=q01a l+if x.k=5 then 1 else 0:=by
 unfold q01a cnt
 by_cases h:x.k=5<;>simp [List.filter_append,h]
theorem q0db (fs:List Float) (l:List Item) (x:Item):q00n fs (l++[x])=addAt fs (q00n fs l) x:=by simp [q00n]
theorem q0bo (fs:List Float) (l:List Item) (x:Item):dueP fs (l++[x])=if x.k=7 then q00n fs l else dueP fs l:=by
 simp only [dueP,List.foldl_append,ZT,List.foldl_nil,dueS,q0Cf];rfl
theorem q0iw (l:List Item):0<=q01a l/\q01a l<=l.length:=by
 unfold q01a cnt
 have:=List.length_filter_le (fun x:Item=>decide (x.k=5)) l
 omega
theorem q0e2 (fs:List Float) (c:C3) (x:Item) (m:Int) (h:0<=c.a/\0<=c.b/\0<=c.c/\c.a<=m/\c.b<=m/\c.c<=m):
  0<=(addAt fs c x).a/\0<=(addAt fs c x).b/\0<=(addAt fs c x).c/\(addAt fs c x).a<=m+1/\(addAt fs c x).b<=m+1/\(addAt fs c x).c<=m+1:=by
 unfold addAt ofS bump
 (repeat' split)<;>(try simp only)<;>omega
theorem q0ix (fs:List Float) (l:List Item):0<=(q00n fs l).a/\0<=(q00n fs l).b/\0<=(q00n fs l).c/\(q00n fs l).a<=l.length/\(q00n fs l).b<=l.length/\(q00n fs l).c<=l.length:=by
 have key: ∀(l:List Item) (c:C3) (m:Int),(0<=c.a/\0<=c.b/\0<=c.c/\c.a<=m/\c.b<=m/\c.c<=m)->
   0<=(l.foldl (addAt fs) c).a/\0<=(l.foldl (addAt fs) c).b/\0<=(l.foldl (addAt fs) c).c/\(l.foldl (addAt fs) c).a<=m+l.length/\(l.foldl (addAt fs) c).b<=m+l.length/\(l.foldl (addAt fs) c).c<=m+l.length:=by
  intro l
  induction l with
  |nil=>intro c m h;simpa using h
  |cons x r ih=>
   intro c m h
   have h1:=ih (addAt fs c x) (m+1) (q0e2 fs c x m h)
   simp only [ZT,Zg]
   omega
 have:=key l ⟨0,0,0⟩ 0 (by simp)
 simpa [q00n] using this
def preL {α:Type} (f:List Item->α) (l:List Item) (n:Nat):List α:=(List.range n).map fun k=>f (l.take k)
theorem q04d {α:Type} (f:List Item->α) (l:List Item) (n:Nat):(preL f l n).length=n:=by simp [preL]
theorem q0v1 {α:Type} (f:List Item->α) (l:List Item) (n:Nat):preL f l (n+1)=preL f l n++[f (l.take n)]:=by simp [preL,List.range_succ]
theorem q04e {α:Type} (f:List Item->α) (l:List Item) (n i:Nat) (h:i<n):(preL f l n)[i]? =some (f (l.take i)):=by simp [preL,h]
def lineN (l:List Note):Int:=(l.map fun n=>(n.lines.length:Int)).sum
theorem q0Ys (l:List Note) (n:Note):lineN (l++[n])=lineN l+n.lines.length:=by simp [lineN]
def q00z (j:Job) (n:Int):Int:=q01a (j.items.take (putN j.items n))
def q01i (j:Job) (n:Int):C3:=q00n j.floats (j.items.take (putN j.items n))
def dueF (j:Job) (n:Int):C3:=dueP j.floats (j.items.take (putN j.items n))
def q03q (j:Job) (s:Stt):Bool:=
 if s.line=0 then decide (s.note=q00z j s.at_) else
 if s.note≠q00z j s.at_-1\/s.note<0\/s.line<1 then false else
 decide (s.line<(rd j.notes s.note).lines.length)&&mayF (rd j.notes s.note).lines (rd j.notes s.note).pens s.line
def zeroC:C3:=⟨0,0,0⟩
def q01g (j:Job) (s:Stt):Bool:=
 if s.at_<0\/(j.items.length:Int)<s.at_\/(trimF j.items s.at_:Int)≠s.at_\/s.col<0\/j.g.cols<s.col then false else
 q03q j s&&inC zeroC s.h&&inC s.h (q01i j s.at_)
def allS (j:Job):C3:=q00n j.floats j.items
def doneS (j:Job) (s:Stt):Bool:=q01g j s&&decide (s.at_=j.items.length)&&decide (s.line=0)&&decide (s.note=j.notes.length)&&decide (s.h=allS j)
def q022 (j:Job) (s:Stt):Bool:=q01g j s&&inC (dueF j s.at_) s.h
def highS (j:Job) (s:Stt):Int:=if q01g j s=true then (if s.col<j.g.cols then j.g.first else j.g.high) else 0
def spotS (j:Job) (s:Stt) (to:Int):Spot:=if q01g j s=true then ⟨s.note,s.line,q00z j to,decide (q00z j s.at_<q00z j to)⟩ else ⟨0,0,0,false⟩
def q120 (j:Job) (s:Stt):C3:=if q01g j s=true then q129 s.h (q01i j s.at_) else zeroC
def q0Xw (j:Job) (s:Stt):Int:=if q01g j s=true then s.at_+lineN (j.notes.take s.note.toNat)+s.line+sumC s.h else 0
end Go.EnvOf
