/- The program's functions and the document's, evaluated. -/
import Derived.KernelRfl
import Derived.Test.YtjjdmlpdgcdehaaGreatText2
import Derived.Test.YtjjdmlpdgcdehaaGreatText4
import Derived.Test.YtjjdmlpdgcdehaaGreatText3
set_option linter.unusedSimpArgs false
set_option linter.unusedVariables false
namespace Go.EnvOf
open Go Go.Eng
def note (lines pens:List Int):V:= .agg [sli lines,sli pens]
theorem q01y (H:Heap) (L:List Int) (k:IntKind) (i:Int) (h0:0<=i) (h1:i<L.length):ixsI H (.p (.sl (L.map encI))) (.p (.int k i)) 1=some (.eptr [.p (.int .i64 (rd L i))] 0):=
 q0bw H encI L k i 1 (fun _=>rfl) h0 h1
def far:Int:=1125899906842624
def hstep (s x:Int):Int:=min (s+min (max x 0) far) far
def hsum (s:Int) (l:List Int):Int:=l.foldl hstep s
theorem q0mf {s x:Int} (h:0<=s):0<=hstep s x:=by unfold hstep far;omega
theorem q0mg {s x:Int}:hstep s x<=far:=by unfold hstep;omega
theorem q0ip (L:List Int) (i:Int) (t:Nat) (h0:0<=i) (h1:i.toNat<t) (h2:t<=L.length):(L.take t).drop i.toNat=rd L i::(L.take t).drop (i+1).toNat:=by
 have e:(i+1).toNat=i.toNat+1:=by omega
 rw [e,ZA (by simp;omega)]
 congr 1
 unfold rd
 have:i.toNat<L.length:=by omega
 simp [ZB,this]
theorem q0C6 (L M:List Int) (H:Heap) (B:Nat) (D:List Nat) (hL:L.length<=9223372036854775806): ∀(n:Nat) (i s to_:Int),(to_-i).toNat=n->0<=i->to_<=L.length->0<=s->s<=far->
  evD EE q0Wh ⟨[(2,.p (.int .i64 to_)),(3,.lptr 3 0),(7,.p (.int .i64 s)),(8,.p (.int .i64 i))],[(3,[sli L,sli M])],H,B,D⟩=
   some (.exit 0,⟨[(2,.p (.int .i64 to_)),(3,.lptr 3 0),(7,.p (.int .i64 (hsum s ((L.take to_.toNat).drop i.toNat)))),(8,.p (.int .i64 (max i to_))),(19,.p (.bool false))],[(3,[sli L,sli M])],H,B,D⟩):=by
 intro n
 induction n with
 |zero=>
  intro i s to_ hn h0 h1 h2 h3
  unfold q0Wh
  rw [q003]
  have hlt: ¬i<to_:=by omega
  have hd:(L.take to_.toNat).drop i.toNat=[]:=by rw [List.drop_eq_nil_iff];simp;omega
  have hm:max i to_=i:=by omega
  simp [sli,subs,hlt,hd,hm,hsum]
 |succ n ih=>
  intro i s to_ hn h0 h1 h2 h3
  have hlt:i<to_:=by omega
  have hi:i<L.length:=by omega
  have key:=ih (i+1) (hstep s (rd L i)) to_ (by omega) (by omega) h1 (q0mf h2) q0mg
  have hd:=q0ip L i to_.toNat h0 (by omega) (by omega)
  have hm:max (i+1) to_=max i to_:=by omega
  rw [hd]
  rw [hm] at key
  unfold q0Wh
  rw [q003]
  have w1:IntKind.i64.wrap (i+1)=i+1:=q01b _ (by omega) (by omega)
  have w2:IntKind.i64.wrap (s+min (max (rd L i) 0) 1125899906842624)=s+min (max (rd L i) 0) 1125899906842624:=q01b _ (by omega) (by unfold far at h3;omega)
  simp [sli,subs,hlt,q01y,h0,hi,w1,w2]
  exact key
def highF (L:List Int) (frm to_:Int):Int:=hsum 0 ((L.take (min to_ L.length).toNat).drop (max frm 0).toNat)
theorem q0C7 (L M:List Int) (frm to_:Int) (H:Heap) (hL:L.length<=9223372036854775806):
  clD EE (.p (.fn 283)) [note L M,.p (.int .i64 frm),.p (.int .i64 to_)] H=some (.p (.int .i64 (highF L frm to_)),none):=by
 rw [q002 _ _ _ _ _ _ (noP _) fn283]
 have key:=q0C6 L M H H.length [] hL _ (max frm 0) 0 (min to_ L.length) rfl (by omega) (by omega) (by omega) (by unfold far;omega)
 have e:(max frm 0)=max frm 0:=rfl
 simp [note,zEb,sli] at key⊢
 rw [key]
 simp [highF]
theorem q0bh (L:List Int) (i:Int) (h0:0<=i) (h1:i<L.length):L.take (i+1).toNat=L.take i.toNat++[rd L i]:=by
 have e:(i+1).toNat=i.toNat+1:=by omega
 have hlt:i.toNat<L.length:=by omega
 rw [e,List.take_add_one]
 congr 1
 rw [q026 L i h0 h1];rfl
def part (L:List Int) (frm to_ i:Int):List Int:=(L.take (min to_ i).toNat).drop (max frm 0).toNat
theorem q0C8 (L:List Int) (frm to_ i:Int) (h0:0<=i) (h1:i<L.length) (h2:frm<=i) (h3:i<to_):part L frm to_ (i+1)=part L frm to_ i++[rd L i]:=by
 unfold part
 have e1:(min to_ (i+1))=i+1:=by omega
 have e2:(min to_ i)=i:=by omega
 rw [e1,e2,q0bh L i h0 h1,List.drop_append_of_le_length (by simp;omega)]
theorem q0mh (L:List Int) (frm to_ i:Int) (h0:0<=i) (h2: ¬(frm<=i/\i<to_)):part L frm to_ (i+1)=part L frm to_ i:=by
 unfold part
 by_cases h:i<to_
 ·have h3:i<frm:=by omega
  have e1:(L.take (min to_ (i+1)).toNat).drop (max frm 0).toNat=[]:=by rw [List.drop_eq_nil_iff];simp;omega
  have e2:(L.take (min to_ i).toNat).drop (max frm 0).toNat=[]:=by rw [List.drop_eq_nil_iff];simp;omega
  rw [e1,e2]
 ·have e1:(min to_ (i+1)).toNat=(min to_ i).toNat:=by omega
  rw [e1]
theorem q0ul (s:Int) (l:List Int) (x:Int):hsum s (l++[x])=hstep (hsum s l) x:=by simp [hsum]
theorem q0h7: ∀(l:List Int) {s:Int},0<=s->0<=hsum s l
 |[],s,h=>h
 |x::r,s,h=>q0h7 r (q0mf h)
theorem q0h8: ∀(l:List Int) {s:Int},s<=far->hsum s l<=far
 |[],s,h=>h
 |x::r,s,h=>q0h8 r q0mg
theorem q0yb (L M:List Int) (frm to_:Int) (H:Heap) (B:Nat) (D:List Nat) (hL:L.length<=9223372036854775806): ∀(n:Nat) (i:Int),((L.length:Int)-i).toNat=n->0<=i->i<=L.length->
  evD EE q0Wg ⟨[(1,.p (.int .i64 frm)),(2,.p (.int .i64 to_)),(3,.lptr 3 0),(7,.p (.int .i64 (hsum 0 (part L frm to_ i)))),(8,.p (.int .i64 i))],[(3,[sli L,sli M])],H,B,D⟩=
   some (.exit 0,⟨[(1,.p (.int .i64 frm)),(2,.p (.int .i64 to_)),(3,.lptr 3 0),(7,.p (.int .i64 (hsum 0 (part L frm to_ L.length)))),(8,.p (.int .i64 L.length)),(13,.p (.bool false))],[(3,[sli L,sli M])],H,B,D⟩):=by
 intro n
 induction n with
 |zero=>
  intro i hn h0 h1
  have hi:i=L.length:=by omega
  subst hi
  unfold q0Wg
  rw [q003]
  simp [sli,subs]
 |succ n ih=>
  intro i hn h0 h1
  have hi:i<L.length:=by omega
  have key:=ih (i+1) (by omega) (by omega) (by omega)
  have w1:IntKind.i64.wrap (i+1)=i+1:=q01b _ (by omega) (by omega)
  have hlo:=q0h7 (part L frm to_ i) (ZS 0)
  have hhi:=q0h8 (part L frm to_ i) (show (0:Int)<=far by unfold far;omega)
  have w2:IntKind.i64.wrap (hsum 0 (part L frm to_ i)+max 0 (min (rd L i) 1125899906842624))=hsum 0 (part L frm to_ i)+max 0 (min (rd L i) 1125899906842624):=q01b _ (by omega) (by unfold far at hhi;omega)
  have e1:min (hsum 0 (part L frm to_ i)+max 0 (min (rd L i) 1125899906842624)) 1125899906842624=hstep (hsum 0 (part L frm to_ i)) (rd L i):=by unfold hstep far;omega
  unfold q0Wg
  rw [q003]
  by_cases c1:frm<=i
  ·by_cases c2:i<to_
   ·rw [q0C8 L frm to_ i h0 hi c1 c2,q0ul] at key
    simp [sli,subs,hi,c1,c2,q01y,h0,w1,w2,e1]
    exact key
   ·rw [q0mh L frm to_ i h0 (by omega)] at key
    simp [sli,subs,hi,c1,c2,w1]
    exact key
  ·rw [q0mh L frm to_ i h0 (by omega)] at key
   simp [sli,subs,hi,c1,w1]
   exact key
theorem q0yc (L M:List Int) (frm to_:Int) (H:Heap) (hL:L.length<=9223372036854775806):
  clD EE (.p (.fn 248)) [note L M,.p (.int .i64 frm),.p (.int .i64 to_)] H=some (.p (.int .i64 (highF L frm to_)),none):=by
 rw [q002 _ _ _ _ _ _ (noP _) fn248]
 have key:=q0yb L M frm to_ H H.length [] hL _ 0 rfl (by omega) (by omega)
 have e0:hsum 0 (part L frm to_ 0)=0:=by
  have:part L frm to_ 0=[]:=by unfold part;rw [List.drop_eq_nil_iff];simp;omega
  rw [this];rfl
 rw [e0] at key
 simp [note,zEb,sli] at key⊢
 rw [key]
 simp [highF,part]
def q0bi (L M:List Int) (at_:Int):Bool:=decide (0<at_/\at_<L.length/\at_<=M.length/\rd M (at_-1)<10000)
def mayF (L M:List Int) (at_:Int):Bool:=decide (at_=L.length)||q0bi L M at_
def penF (L M:List Int) (at_:Int):Int:=if q0bi L M at_=true then rd M (at_-1) else 0
theorem q0yd (L M:List Int) (at_:Int) (H:Heap) (hL:L.length<=9223372036854775806):
  clD EE (.p (.fn 297)) [note L M,.p (.int .i64 at_)] H=some (.p (.bool (q0bi L M at_)),none):=by
 rw [q002 _ _ _ _ _ _ (noP _) fn297]
 unfold q0bi
 by_cases c1:0<at_
 ·by_cases c2:at_<L.length
  ·by_cases c3:at_<=M.length
   ·have w:IntKind.i64.wrap (at_-1)=at_-1:=q01b _ (by omega) (by omega)
    have i1:0<=at_-1:=by omega
    have i2:at_-1<(M.length:Int):=by omega
    simp (disch:=omega) [note,sli,zEb,c1,c2,c3,q01y,w]
   ·simp [note,sli,zEb,c1,c2,c3]
  ·simp [note,sli,zEb,c1,c2]
 ·simp [note,sli,zEb,c1]
theorem q0um (L M:List Int) (at_:Int) (H:Heap) (hL:L.length<=9223372036854775806):
  clD EE (.p (.fn 158)) [note L M,.p (.int .i64 at_)] H=some (.p (.bool (q0bi L M at_)),none):=by
 rw [q002 _ _ _ _ _ _ (noP _) fn158]
 unfold q0bi
 by_cases c1:0<at_
 ·have c1':1<=at_:=by omega
  by_cases c2:at_<L.length
  ·have w:IntKind.i64.wrap (at_-1)=at_-1:=q01b _ (by omega) (by omega)
   by_cases c3:at_<=M.length
   ·have i1:0<=at_-1:=by omega
    have i2:at_-1<(M.length:Int):=by omega
    simp (disch:=omega) [note,sli,zEb,c1,c1',c2,c3,q01y,w,i2]
   ·have i2: ¬at_-1<(M.length:Int):=by omega
    simp [note,sli,zEb,c1,c1',c2,c3,w,i2]
  ·simp [note,sli,zEb,c1,c1',c2]
 ·have c1': ¬1<=at_:=by omega
  simp [note,sli,zEb,c1,c1']
theorem q0pj (L M:List Int) (at_:Int) (H:Heap) (hL:L.length<=9223372036854775806):
  clD EE (.p (.fn 343)) [note L M,.p (.int .i64 at_)] H=some (.p (.bool (mayF L M at_)),none):=by
 rw [q002 _ _ _ _ _ _ (noP _) fn343]
 have h1:=q0yd L M at_ H hL
 unfold mayF
 simp only [note,sli] at h1
 by_cases c:at_=L.length
 ·simp [note,sli,zEb,c]
 ·simp [note,sli,zEb,c,h1]
theorem q0E3 (L M:List Int) (at_:Int) (H:Heap) (hL:L.length<=9223372036854775806):
  clD EE (.p (.fn 277)) [note L M,.p (.int .i64 at_)] H=some (.p (.bool (mayF L M at_)),none):=by
 rw [q002 _ _ _ _ _ _ (noP _) fn277]
 have h1:=q0pj L M at_ H hL
 simp only [note,sli] at h1
 simp [note,sli,zEb,h1]
theorem q0pk (L M:List Int) (at_:Int) (H:Heap) (hL:L.length<=9223372036854775806):
  clD EE (.p (.fn 148)) [note L M,.p (.int .i64 at_)] H=some (.p (.bool (mayF L M at_)),none):=by
 rw [q002 _ _ _ _ _ _ (noP _) fn148]
 have h1:=q0um L M at_ H hL
 unfold mayF
 simp only [note,sli] at h1
 by_cases c:at_=L.length
 ·simp [note,sli,zEb,c]
 ·simp [note,sli,zEb,c,h1]
theorem q12m {L M:List Int} {at_:Int} (h:q0bi L M at_=true):0<at_/\at_<L.length/\at_<=M.length:=by
 unfold q0bi at h;simp at h;omega
theorem q13e (L M:List Int) (at_:Int) (H:Heap) (hL:L.length<=9223372036854775806):
  clD EE (.p (.fn 223)) [note L M,.p (.int .i64 at_)] H=some (.p (.int .i64 (penF L M at_)),none):=by
 rw [q002 _ _ _ _ _ _ (noP _) fn223]
 have h1:=q0yd L M at_ H hL
 unfold penF
 simp only [note,sli] at h1
 by_cases c:q0bi L M at_=true
 ·obtain ⟨k1,k2,k3⟩:=q12m c
  have w:IntKind.i64.wrap (at_-1)=at_-1:=q01b _ (by omega) (by omega)
  have i1:0<=at_-1:=by omega
  have i2:at_-1<(M.length:Int):=by omega
  simp (disch:=omega) [note,sli,zEb,c,h1,w,q01y]
 ·simp only [Bool.not_eq_true] at c
  simp [note,sli,zEb,c,h1]
theorem q163 (L M:List Int) (at_:Int) (H:Heap) (hL:L.length<=9223372036854775806):
  clD EE (.p (.fn 72)) [note L M,.p (.int .i64 at_)] H=some (.p (.int .i64 (penF L M at_)),none):=by
 rw [q002 _ _ _ _ _ _ (noP _) fn72]
 have h1:=q0um L M at_ H hL
 unfold penF
 simp only [note,sli] at h1
 by_cases c:q0bi L M at_=true
 ·obtain ⟨k1,k2,k3⟩:=q12m c
  have w:IntKind.i64.wrap (at_-1)=at_-1:=q01b _ (by omega) (by omega)
  have i1:0<=at_-1:=by omega
  have i2:at_-1<(M.length:Int):=by omega
  simp (disch:=omega) [note,sli,zEb,c,h1,w,q01y]
 ·simp only [Bool.not_eq_true] at c
  simp [note,sli,zEb,c,h1]
def sel (p:Int->Bool) (a:Int):Nat->List Int
 |0=>[]
 |n+1=>(if p a=true then [a] else [])++sel p (a+1) n
theorem q0cd (p:Int->Bool): ∀(n:Nat) (a:Int),(sel p a n).length<=n
 |0,_=>Zm _
 |n+1,a=>by
  have:=q0cd p n (a+1)
  simp only [sel,Zt]
  split<;>simp<;>omega
theorem q0E4 (hv:V) (p:Int->Bool) (to_:Int) (H:Heap) (hH: ∀t:Int,t<=to_-> ∀H',clD EE hv [.p (.int .i64 t)] H'=some (.p (.bool (p t)),none)) (hto:to_<2147483648): ∀(n:Nat) (i:Int) (out:List Int),
  (to_-i+1).toNat=n-> -2<=i->out.length+n<=4294967290->
  evD EE q0gq ⟨[(1,.p (.int .i64 to_)),(2,hv),(7,.row H.length out.length 0 out.length),(8,.p (.int .i64 i))],[],H++[.row 1 (upV (out.map encI))],H.length,[]⟩=
   some (.exit 0,⟨[(1,.p (.int .i64 to_)),(2,hv),(7,.row H.length (out++sel p i n).length 0 (out++sel p i n).length),(8,.p (.int .i64 (max i (to_+1)))),(12,.p (.bool false))],[],H++[.row 1 (upV ((out++sel p i n).map encI))],H.length,[]⟩):=by
 intro n
 induction n with
 |zero=>
  intro i out hn h0 ho
  have c: ¬i<=to_:=by omega
  have e:max i (to_+1)=i:=by omega
  unfold q0gq
  rw [q003]
  simp [c,e,sel]
 |succ n ih=>
  intro i out hn h0 ho
  have c:i<=to_:=by omega
  have w:IntKind.i64.wrap (i+1)=i+1:=q01b _ (by omega) (by omega)
  have hp:=hH i c (H++[.row 1 (upV (out.map encI))])
  have em:max (i+1) (to_+1)=max i (to_+1):=by omega
  unfold q0gq
  rw [q003]
  by_cases cp:p i=true
  ·have key:=ih (i+1) (out++[i]) (by omega) (by omega) (by simp;omega)
   rw [em] at key
   have hm:out.length+1<most:=by unfold most;omega
   simp [c,hp,cp,w,hm]
   simp [sel,cp,encI,upV] at key⊢
   exact key
  ·have key:=ih (i+1) out (by omega) (by omega) (by omega)
   rw [em] at key
   simp only [Bool.not_eq_true] at cp
   simp [c,hp,cp,w,sel] at key⊢
   exact key
theorem q0E5 (hv:V) (p:Int->Bool) (frm to_:Int) (H:Heap) (hH: ∀t:Int,t<=to_-> ∀H',clD EE hv [.p (.int .i64 t)] H'=some (.p (.bool (p t)),none)) (hto:to_<2147483648) (hf: -2<=frm):
  clD EE (.p (.fn 377)) [.p (.int .i64 frm),.p (.int .i64 to_),hv] H=some (.p (.sl ((sel p frm (to_-frm+1).toNat).map encI)),none):=by
 rw [q002 _ _ _ _ _ _ (noP _) fn377]
 have key:=q0E4 hv p to_ H hH hto _ frm [] rfl hf (by simp;omega)
 simp at key
 simp [zEa,key]
theorem q0ye (L M:List Int) (frm:Int) (H:Heap) (hL:L.length<=1000000):
  clD EE (.p (.fn 339)) [note L M,.p (.int .i64 frm)] H=some (.p (.sl ((sel (mayF L M) (min (max frm (-1)) L.length+1) (L.length-(min (max frm (-1)) L.length+1)+1:Int).toNat).map encI)),none):=by
 rw [q002 _ _ _ _ _ _ (noP _) fn339]
 have hst: ∀(t:Int),∀H',clD EE (.fn (.func 343) [note L M] []) [.p (.int .i64 t)] H'=some (.p (.bool (mayF L M t)),none):=fun t H'=>by
  rw [q02m]
  exact q0pj L M t H' (by omega)
 have key:=q0E5 (.fn (.func 343) [note L M] []) (mayF L M) (min (max frm (-1)) L.length+1) L.length H (fun t _ H'=>hst t H') (by omega) (by omega)
 have w:IntKind.i64.wrap (min (max frm (-1)) L.length+1)=min (max frm (-1)) L.length+1:=q01b _ (by omega) (by omega)
 simp only [note,sli] at key
 simp [note,sli,zEb,w,mkfV,key]
def q02f (L M:List Int) (frm i:Int):Bool:=decide (frm<i)&&mayF L M i
theorem q0mi {p:Int->Bool}: ∀(n:Nat) (a:Int),(∀i,a<=i->i<a+n->p i=false)->sel p a n=[]
 |0,_,_=>rfl
 |n+1,a,h=>by
  simp only [sel,h a (by omega) (by omega),Zh,if_false,Zf]
  exact q0mi n (a+1) fun i h1 h2=>h i (by omega) (by omega)
theorem q0iq {p q:Int->Bool}: ∀(n:Nat) (a:Int),(∀i,a<=i->i<a+n->p i=q i)->sel p a n=sel q a n
 |0,_,_=>rfl
 |n+1,a,h=>by
  simp only [sel,h a (by omega) (by omega)]
  rw [q0iq n (a+1) fun i h1 h2=>h i (by omega) (by omega)]
theorem q0pl {p:Int->Bool}: ∀(m n:Nat) (a:Int),sel p a (m+n)=sel p a m++sel p (a+m) n
 |0,n,a=>by simp [sel]
 |m+1,n,a=>by
  have e:m+1+n=(m+n)+1:=by omega
  rw [e]
  simp only [sel]
  rw [q0pl m n (a+1),Zx]
  congr 3;omega
theorem q0r6 (L M:List Int) (frm:Int):
  sel (mayF L M) (min (max frm (-1)) L.length+1) (L.length-(min (max frm (-1)) L.length+1)+1:Int).toNat=sel (q02f L M frm) 0 (L.length+1):=by
 generalize hb:min (max frm (-1)) (L.length:Int)+1=b
 have h1:0<=b:=by omega
 have h2:b<=L.length+1:=by omega
 have e:L.length+1=b.toNat+(L.length-b+1:Int).toNat:=by omega
 rw [e,q0pl,q0mi b.toNat 0 (fun i h3 h4=>by
  have: ¬frm<i:=by omega
  simp [q02f,this]),Zf]
 have e2:(0:Int)+(b.toNat:Int)=b:=by omega
 rw [e2]
 refine q0iq _ _ fun i h3 h4=> ?_
 have:frm<i:=by omega
 simp [q02f,this]
def bad (lo hi:Int) (l:List Int):Bool:=l.any fun x=>decide (x<lo)||decide (hi<x)
theorem q0ce (L:List Int) (i:Int) (h0:0<=i) (h1:i<L.length):L.drop i.toNat=rd L i::L.drop (i+1).toNat:=by
 have:=q0ip L i L.length h0 (by omega) (Zm _)
 rwa [List.take_length] at this
theorem q0Ca (L M:List Int) (H:Heap) (B:Nat) (hL:L.length<=9223372036854775807): ∀(n:Nat) (i:Int) (wr:Bool),((L.length:Int)-i).toNat=n->0<=i->i<=L.length->
  evD EE q0Wi ⟨[(1,.lptr 1 0),(3,.p (.bool wr)),(29,sli L),(30,.p (.int .i64 L.length)),(31,.p (.int .i64 i))],[(1,[sli L,sli M])],H,B,[]⟩=
   some (.exit 0,⟨[(1,.lptr 1 0),(3,.p (.bool (wr||bad 1 1073741823 (L.drop i.toNat)))),(29,sli L),(30,.p (.int .i64 L.length)),(31,.p (.int .i64 L.length)),(32,.p (.bool false))],[(1,[sli L,sli M])],H,B,[]⟩):=by
 intro n
 induction n with
 |zero=>
  intro i wr hn h0 h1
  have e:i=L.length:=by omega
  subst e
  unfold q0Wi
  rw [q003]
  simp [sli,bad]
 |succ n ih=>
  intro i wr hn h0 h1
  have c:i<(L.length:Int):=by omega
  have w:IntKind.i64.wrap (i+1)=i+1:=q01b _ (by omega) (by omega)
  have key:=ih (i+1) (wr||(decide (rd L i<1)||decide (1073741823<rd L i))) (by omega) (by omega) (by omega)
  have eb:bad 1 1073741823 (L.drop i.toNat)=((decide (rd L i<1)||decide (1073741823<rd L i))||bad 1 1073741823 (L.drop (i+1).toNat)):=by rw [q0ce L i h0 c];simp [bad]
  rw [eb,<-Bool.or_assoc]
  unfold q0Wi
  rw [q003]
  cases wr
  ·by_cases c1:rd L i<1
   ·simp (disch:=omega) [sli,c,q01y,subs,w,c1] at key⊢
    exact key
   ·simp (disch:=omega) [sli,c,q01y,subs,w,c1] at key⊢
    exact key
  ·simp (disch:=omega) [sli,c,q01y,subs,w] at key⊢
   exact key
theorem q0Cb (M:List Int) (H:Heap) (B:Nat) (hM:M.length<=9223372036854775807): ∀(n:Nat) (i:Int) (wr:Bool),((M.length:Int)-i).toNat=n->0<=i->i<=M.length->
  evD EE q0Wj ⟨[(3,.p (.bool wr)),(46,sli M),(47,.p (.int .i64 M.length)),(48,.p (.int .i64 i))],[],H,B,[]⟩=
   some (.exit 2,⟨[(3,.p (.bool (wr||bad 0 10000 (M.drop i.toNat)))),(46,sli M),(47,.p (.int .i64 M.length)),(48,.p (.int .i64 M.length)),(49,.p (.bool false))],[],H,B,[]⟩):=by
 intro n
 induction n with
 |zero=>
  intro i wr hn h0 h1
  have e:i=M.length:=by omega
  subst e
  unfold q0Wj
  rw [q003]
  simp [sli,bad]
 |succ n ih=>
  intro i wr hn h0 h1
  have c:i<(M.length:Int):=by omega
  have w:IntKind.i64.wrap (i+1)=i+1:=q01b _ (by omega) (by omega)
  have key:=ih (i+1) (wr||(decide (rd M i<0)||decide (10000<rd M i))) (by omega) (by omega) (by omega)
  have eb:bad 0 10000 (M.drop i.toNat)=((decide (rd M i<0)||decide (10000<rd M i))||bad 0 10000 (M.drop (i+1).toNat)):=by rw [q0ce M i h0 c];simp [bad]
  rw [eb,<-Bool.or_assoc]
  unfold q0Wj
  rw [q003]
  cases wr
  ·by_cases c1:rd M i<0
   ·simp (disch:=omega) [sli,c,q01y,subs,w,c1] at key⊢
    exact key
   ·simp (disch:=omega) [sli,c,q01y,subs,w,c1] at key⊢
    exact key
  ·simp (disch:=omega) [sli,c,q01y,subs,w] at key⊢
   exact key
def q03x (L M:List Int):Bool:=decide ((L.length:Int)<1)||decide (64<(L.length:Int))|| !decide ((M.length:Int)=L.length-1)
def q01o (L M:List Int):Bool:=q03x L M||bad 1 1073741823 L||bad 0 10000 M
theorem q0yf (L M:List Int) (H:Heap) (hL:L.length<=9223372036854775807) (hM:M.length<=9223372036854775807):clD EE (.p (.fn 314)) [note L M] H=some (.p (.int .i64 (if q01o L M=true then 9 else 0)),none):=by
 rw [q002 _ _ _ _ _ _ (noP _) fn314]
 have k0:=fun wr=>q0Ca L M H H.length hL _ 0 wr rfl (by omega) (by omega)
 have k1:=fun wr=>q0Cb M H H.length hM _ 0 wr rfl (by omega) (by omega)
 have w:IntKind.i64.wrap ((L.length:Int)-1)=L.length-1:=q01b _ (by omega) (by omega)
 have go: ∀b:Bool,q03x L M=b->q01o L M=(b||bad 1 1073741823 L||bad 0 10000 M):=fun b h=>by unfold q01o;rw [h]
 simp [sli] at k0 k1
 by_cases c1:(L.length:Int)<1
 ·have hb:=go true (by simp [q03x,c1])
  simp [hb,note,sli,zEb,c1,k0,k1]
 ·by_cases c2:64<(L.length:Int)
  ·have hb:=go true (by simp [q03x,c2])
   simp [hb,note,sli,zEb,c1,c2,k0,k1]
  ·by_cases c3:(M.length:Int)=L.length-1
   ·have hb:=go false (by simp [q03x,c1,c2,c3])
    rw [hb]
    simp only [c3] at k1
    cases h1:bad 1 1073741823 L<;>cases h2:bad 0 10000 M<;>simp [note,sli,zEb,c1,c2,c3,w,k0,k1,h1,h2]
   ·have hb:=go true (by simp [q03x,c3])
    simp [hb,note,sli,zEb,c1,c2,c3,w,k0,k1]
theorem q0yg (L M:List Int) (H:Heap) (B:Nat) (hL:L.length<=1000000): ∀(n:Nat) (i:Int),((L.length:Int)-i).toNat=n->0<=i->i<=L.length->
  evD EE q053 ⟨[(1,.lptr 1 0),(3,.p (.int .i64 i))],[(1,[sli L,sli M])],H,B,[]⟩=
   if bad 1 1073741823 (L.drop i.toNat)=true then some (.ret,⟨[(2,.p (.bool false))],[],H,B,[]⟩)
   else some (.exit 0,⟨[(1,.lptr 1 0),(3,.p (.int .i64 L.length)),(29,.p (.bool false))],[(1,[sli L,sli M])],H,B,[]⟩):=by
 intro n
 induction n with
 |zero=>
  intro i hn h0 h1
  have e:i=L.length:=by omega
  subst e
  unfold q053
  rw [q003]
  simp [sli,bad,subs]
 |succ n ih=>
  intro i hn h0 h1
  have c:i<(L.length:Int):=by omega
  have w:IntKind.i64.wrap (i+1)=i+1:=q01b _ (by omega) (by omega)
  have key:=ih (i+1) (by omega) (by omega) (by omega)
  have eb:bad 1 1073741823 (L.drop i.toNat)=((decide (rd L i<1)||decide (1073741823<rd L i))||bad 1 1073741823 (L.drop (i+1).toNat)):=by rw [q0ce L i h0 c];simp [bad]
  rw [eb]
  unfold q053
  rw [q003]
  by_cases c1:rd L i<1
  ·simp (disch:=omega) [sli,c,q01y,subs,c1]
  ·by_cases c2:1073741823<rd L i
   ·simp (disch:=omega) [sli,c,q01y,subs,c1,c2]
   ·simp (disch:=omega) [sli,c,q01y,subs,w,c1,c2] at key⊢
    exact key
theorem q0yh (L M:List Int) (H:Heap) (B:Nat) (hM:M.length<=1000000): ∀(n:Nat) (i:Int),((M.length:Int)-i).toNat=n->0<=i->i<=M.length->
  evD EE q0Wf ⟨[(1,.lptr 1 0),(4,.p (.int .i64 i))],[(1,[sli L,sli M])],H,B,[]⟩=
   if bad 0 10000 (M.drop i.toNat)=true then some (.ret,⟨[(2,.p (.bool false))],[],H,B,[]⟩)
   else some (.exit 2,⟨[(1,.lptr 1 0),(4,.p (.int .i64 M.length)),(50,.p (.bool false))],[(1,[sli L,sli M])],H,B,[]⟩):=by
 intro n
 induction n with
 |zero=>
  intro i hn h0 h1
  have e:i=M.length:=by omega
  subst e
  unfold q0Wf
  rw [q003]
  simp [sli,bad,subs]
 |succ n ih=>
  intro i hn h0 h1
  have c:i<(M.length:Int):=by omega
  have w:IntKind.i64.wrap (i+1)=i+1:=q01b _ (by omega) (by omega)
  have key:=ih (i+1) (by omega) (by omega) (by omega)
  have eb:bad 0 10000 (M.drop i.toNat)=((decide (rd M i<0)||decide (10000<rd M i))||bad 0 10000 (M.drop (i+1).toNat)):=by rw [q0ce M i h0 c];simp [bad]
  rw [eb]
  unfold q0Wf
  rw [q003]
  by_cases c1:rd M i<0
  ·simp (disch:=omega) [sli,c,q01y,subs,c1]
  ·by_cases c2:10000<rd M i
   ·simp (disch:=omega) [sli,c,q01y,subs,c1,c2]
   ·simp (disch:=omega) [sli,c,q01y,subs,w,c1,c2] at key⊢
    exact key
theorem q0up (L M:List Int) (H:Heap) (hL:L.length<=1000000) (hM:M.length<=1000000):clD EE (.p (.fn 141)) [note L M] H=some (.p (.bool (!q01o L M)),none):=by
 rw [q002 _ _ _ _ _ _ (noP _) fn141]
 have k0:=q0yg L M H H.length hL _ 0 rfl (by omega) (by omega)
 have k1:=q0yh L M H H.length hM _ 0 rfl (by omega) (by omega)
 have w:IntKind.i64.wrap ((L.length:Int)-1)=L.length-1:=q01b _ (by omega) (by omega)
 have go: ∀b:Bool,q03x L M=b->q01o L M=(b||bad 1 1073741823 L||bad 0 10000 M):=fun b h=>by unfold q01o;rw [h]
 simp [sli] at k0 k1
 by_cases c1:(L.length:Int)<1
 ·have hb:=go true (by simp [q03x,c1])
  simp [hb,note,sli,zEb,c1]
 ·by_cases c2:64<(L.length:Int)
  ·have hb:=go true (by simp [q03x,c2])
   simp [hb,note,sli,zEb,c1,c2]
  ·by_cases c3:(M.length:Int)=L.length-1
   ·have hb:=go false (by simp [q03x,c1,c2,c3])
    rw [hb]
    cases h1:bad 1 1073741823 L<;>cases h2:bad 0 10000 M<;>simp [h1,h2] at k0 k1<;>simp [note,sli,zEb,c1,c2,c3,w,k0,k1]
   ·have hb:=go true (by simp [q03x,c3])
    simp [hb,note,sli,zEb,c1,c2,c3,w]
def rowsG {α:Type} (s:Nat) (enc:α->List PV) (l:List α):Heap:=if l=[] then [] else [.row s (upV (l.map enc))]
@[simp] theorem q0bj {α:Type} (s:Nat) (enc:α->List PV):rowsG s enc [] =[] :=rfl
theorem q02t {α:Type} (s:Nat) (enc:α->List PV) (x:α) (r:List α):rowsG s enc (x::r)=[.row s (upV ((x::r).map enc))]:=rfl
theorem q08t {α:Type} (env:List (Nat×V)) (loc:List (Nat×List V)) (H:Heap) (base:Nat) (dirty:List Nat) (s:Nat) (enc:α->List PV) (l:List α) (x:α) (hs:(enc x).length=s) (hm:l.length+1<most) (hb:base<=H.length):
  appV ⟨env,loc,H++rowsG s enc l,base,dirty⟩ (q00k H.length l) (.p (.sl [enc x])) s=some (q00k H.length (l++[x]),⟨env,loc,H++rowsG s enc (l++[x]),base,dirty⟩):=by
 cases l with
 |nil=>
  have hm':1<most:=by unfold most;omega
  simp [q02t,hs,hm']
 |cons y r=>
  have hm':r.length+1+1<most:=by simpa using hm
  have e:addD base H.length dirty=dirty:=by unfold addD;rw [if_neg (by omega)]
  simp [q02t,hs,hm',hb,upV,okEl,List.all_map]
theorem q0yi (x:Item) (s:Int) (hx:q079 x) (hs:I64 s) (H:Heap):clD EE (.p (.fn 146)) [vItem x,vI s] H=some (vItem (itemG s x),none):=by
 rw [q002 _ _ _ _ _ _ (noP _) fn146]
 have h1:=q08r x.h s H hx.2.1 hs
 have h2:=q0ub x.h s H hx.2.1 hs
 by_cases k1:x.k=1
 ·simp [zEc,k1,h1,itemG]
 ·by_cases k2:x.k=2
  ·simp [zEc,k1,k2,h2,itemG]
  ·simp [zEc,k1,k2,itemG]
def rsE (s:Int) (J Z:List V) (t:Nat) (g:Geom) (a b c:V) (H:Heap) (B:Nat) (i:Nat):St:=
 ⟨[(1,.lptr 1 0),(2,.lptr 2 0),(3,vI s),(4,.lptr 4 0),(t,vI i)],[(1,J),(2,Z),(4,cGeom g++[a,b,c])],H,B,[]⟩
def rsX (s:Int) (J Z:List V) (t u e:Nat) (g:Geom) (a b c:V) (H:Heap) (B:Nat) (i:Nat):Ex×St:=
 (.exit e,⟨[(1,.lptr 1 0),(2,.lptr 2 0),(3,vI s),(4,.lptr 4 0),(t,vI i),(u,.p (.bool false))],[(1,J),(2,Z),(4,cGeom g++[a,b,c])],H,B,[]⟩)
theorem q0uq (j:Job) (ok:okJob j) (hs:I64 j.g.grid) (Z:List V) (g:Geom) (b c:V) (H:Heap):
  evD EE q0Ua (rsE j.g.grid (cGeom j.g++[q006 j.items,q00b j.notes,q005 j.floats]) Z 5 g .nils b c H H.length 0)=
   some (rsX j.g.grid (cGeom j.g++[q006 j.items,q00b j.notes,q005 j.floats]) Z 5 52 0 g (q00k H.length (j.items.map (itemG j.g.grid))) b c (H++rowsG 7 q004 (j.items.map (itemG j.g.grid))) H.length j.items.length):=by
 unfold q0Ua
 rw [show∀a,rsE j.g.grid (cGeom j.g++[q006 j.items,q00b j.notes,q005 j.floats]) Z 5 g a b c H H.length 0=rsE j.g.grid (cGeom j.g++[q006 j.items,q00b j.notes,q005 j.floats]) Z 5 g a b c (H++rowsG 7 q004 []) H.length 0 from fun a=>by rw [q0bj,List.append_nil]]
 refine Eq.trans (q00u j.items (fun (M:List Item) i=>rsE j.g.grid (cGeom j.g++[q006 j.items,q00b j.notes,q005 j.floats]) Z 5 g (q00k H.length M) b c (H++rowsG 7 q004 M) H.length i) (fun M i=>M.length=i) (fun M _ x=>M++[itemG j.g.grid x])
  (fun M=>rsX j.g.grid (cGeom j.g++[q006 j.items,q00b j.notes,q005 j.floats]) Z 5 52 0 g (q00k H.length M) b c (H++rowsG 7 q004 M) H.length j.items.length) (fun _ _=>rfl) ?_ ?_ [] 0 rfl (Zj _)) ?_
 ·rintro M i x hM hx
  refine ⟨?_,by simp [hM]⟩
  have hlt:=(Za.1 hx).1
  have hn:=ok.n1
  have w:IntKind.i64.wrap ((i:Int)+1)=((i+1:Nat):Int):=w64 (by omega) (by omega)
  have ho:=ok.items x (Zp hx)
  have hix:=fun H k=>q00c H q004 (k:=k) (s:=7) hx rfl
  have h1:=fun H'=>q0yi x j.g.grid ho hs H'
  have ha:=fun env loc=>q08t env loc H H.length [] 7 q004 M (itemG j.g.grid x) rfl (by unfold most;omega) (Zm _)
  simp only [q004] at ha hix
  simp [-q08l,rsE,hlt,hix,subs,q001,h1,ha,w]
 ·rintro M hM
  simp [rsE,rsX,subs]
 ·have: ∀(l:List Item) (M:List Item) i,fold (fun (M:List Item) _ x=>M++[itemG j.g.grid x]) M i l=M++l.map (itemG j.g.grid):=by
   intro l
   induction l with
   |nil=>intro M i;simp [fold]
   |cons x r ih=>intro M i;simp [fold,ih]
  simp [this]
theorem q0bk {α β:Type} (g:α->β): ∀(l:List α) (M:List β) i,fold (fun (M:List β) _ x=>M++[g x]) M i l=M++l.map g
 |[],M,i=>by simp [fold]
 |x::r,M,i=>by simp only [fold,q0bk g r,Zo,Zx,Zd,Zf]
theorem q0r7 (j:Job) (ok:okJob j) (hs:I64 j.g.grid) (Z:List V) (g:Geom) (a b:V) (H:Heap) (B:Nat) (hB:B<=H.length):
  evD EE q0Xj (rsE j.g.grid (cGeom j.g++[q006 j.items,q00b j.notes,q005 j.floats]) Z 9 g a b .nils H B 0)=
   some (rsX j.g.grid (cGeom j.g++[q006 j.items,q00b j.notes,q005 j.floats]) Z 9 118 6 g a b (q00k H.length (j.floats.map (q01h j.g.grid))) (H++rowsG 3 q009 (j.floats.map (q01h j.g.grid))) B j.floats.length):=by
 unfold q0Xj
 rw [show∀c,rsE j.g.grid (cGeom j.g++[q006 j.items,q00b j.notes,q005 j.floats]) Z 9 g a b c H B 0=rsE j.g.grid (cGeom j.g++[q006 j.items,q00b j.notes,q005 j.floats]) Z 9 g a b c (H++rowsG 3 q009 []) B 0 from fun a=>by rw [q0bj,List.append_nil]]
 refine Eq.trans (q00u j.floats (fun (M:List Float) i=>rsE j.g.grid (cGeom j.g++[q006 j.items,q00b j.notes,q005 j.floats]) Z 9 g a b (q00k H.length M) (H++rowsG 3 q009 M) B i) (fun M i=>M.length=i) (fun M _ x=>M++[q01h j.g.grid x])
  (fun M=>rsX j.g.grid (cGeom j.g++[q006 j.items,q00b j.notes,q005 j.floats]) Z 9 118 6 g a b (q00k H.length M) (H++rowsG 3 q009 M) B j.floats.length) (fun _ _=>rfl) ?_ ?_ [] 0 rfl (Zj _)) ?_
 ·rintro M i x hM hx
  refine ⟨?_,by simp [hM]⟩
  have hlt:=(Za.1 hx).1
  have hn:=ok.n3
  have w:IntKind.i64.wrap ((i:Int)+1)=((i+1:Nat):Int):=w64 (by omega) (by omega)
  have ho:=ok.floats x (Zp hx)
  have hix:=fun H k=>q00c H q009 (k:=k) (s:=3) hx rfl
  have h1:=fun H'=>q08r x.h j.g.grid H' ho.2.1 hs
  have ha:=fun env loc=>q08t env loc H B [] 3 q009 M (q01h j.g.grid x) rfl (by unfold most;omega) hB
  simp only [q009,q01h] at ha hix
  simp [-q08l,rsE,hlt,hix,subs,q001,h1,ha,w,q01h]
 ·rintro M hM
  simp [rsE,rsX,subs]
 ·simp [q0bk]
def rlE (s:Int) (J Z C:List V) (i:Nat) (v:V) (p:V) (H:Heap) (B:Nat) (k:Nat):St:=
 ⟨[(1,.lptr 1 0),(2,.lptr 2 0),(3,vI s),(4,.lptr 4 0),(6,vI i),(7,.lptr 7 0),(8,vI k)],[(1,J),(2,Z),(4,C),(7,[v,p])],H,B,[]⟩
def rlX (s:Int) (J Z C:List V) (i:Nat) (v:V) (p:V) (H:Heap) (B:Nat) (k:Nat):Ex×St:=
 (.exit 4,⟨[(1,.lptr 1 0),(2,.lptr 2 0),(3,vI s),(4,.lptr 4 0),(6,vI i),(7,.lptr 7 0),(8,vI k),(89,.p (.bool false))],[(1,J),(2,Z),(4,C),(7,[v,p])],H,B,[]⟩)
theorem q0ir (j:Job) (ok:okJob j) (hs:I64 j.g.grid) (Z C:List V) (i:Nat) (n:Note) (hi:j.notes[i]? =some n) (p:V) (H:Heap) (B:Nat) (hB:B<=H.length):
  evD EE q0Xi (rlE j.g.grid (cGeom j.g++[q006 j.items,q00b j.notes,q005 j.floats]) Z C i .nils p H B 0)=
   some (rlX j.g.grid (cGeom j.g++[q006 j.items,q00b j.notes,q005 j.floats]) Z C i (q00k H.length (n.lines.map fun x=>upG x j.g.grid)) p (H++rowsG 1 encI (n.lines.map fun x=>upG x j.g.grid)) B n.lines.length):=by
 unfold q0Xi
 rw [show∀v,rlE j.g.grid (cGeom j.g++[q006 j.items,q00b j.notes,q005 j.floats]) Z C i v p H B 0=rlE j.g.grid (cGeom j.g++[q006 j.items,q00b j.notes,q005 j.floats]) Z C i v p (H++rowsG 1 encI []) B 0 from fun a=>by rw [q0bj,List.append_nil]]
 have hin:=(Za.1 hi).1
 have hiy:=fun H k=>q00c H q00e (k:=k) (s:=2) hi rfl
 have on:=ok.notes n (Zp hi)
 simp only [q00e] at hiy
 refine Eq.trans (q00u n.lines (fun (M:List Int) k=>rlE j.g.grid (cGeom j.g++[q006 j.items,q00b j.notes,q005 j.floats]) Z C i (q00k H.length M) p (H++rowsG 1 encI M) B k) (fun M i=>M.length=i) (fun M _ x=>M++[upG x j.g.grid])
  (fun M=>rlX j.g.grid (cGeom j.g++[q006 j.items,q00b j.notes,q005 j.floats]) Z C i (q00k H.length M) p (H++rowsG 1 encI M) B n.lines.length) (fun _ _=>rfl) ?_ ?_ [] 0 rfl (Zj _)) ?_
 ·rintro M k x hM hx
  refine ⟨?_,by simp [hM]⟩
  have hlt:=(Za.1 hx).1
  have w:IntKind.i64.wrap ((k:Int)+1)=((k+1:Nat):Int):=w64 (by have:=on.2.1;omega) (by have:=on.2.1;omega)
  have ho:=on.1 x (Zp hx)
  have hix:=fun H k=>q00c H encI (k:=k) (s:=1) hx rfl
  have h1:=fun H'=>q08r x j.g.grid H' ho hs
  have ha:=fun env loc=>q08t env loc H B [] 1 encI M (upG x j.g.grid) rfl (by have:=on.2.1;unfold most;omega) hB
  simp only [encI] at ha
  simp only [show∀x,encI x=[PV.int .i64 x] from fun _=>rfl] at hix
  simp [-q08l,rlE,hlt,hix,hiy,subs,q001,h1,ha,w]
 ·rintro M hM
  simp [rlE,rlX,subs,hiy]
 ·simp [q0bk]
def rnH (s:Int) (n:Note):Heap:=rowsG 1 encI (n.lines.map fun x=>upG x s)
def lineV {α:Type} (n:Nat) (l:List α):V:=if l=[] then .p (.sl []) else .row n l.length 0 l.length
def rnV (s:Int) (id:Nat) (n:Note):List V:=[lineV id (n.lines.map fun x=>upG x s),sli n.pens]
def rnsH (s:Int):List Note->Heap
 |[]=>[]
 |n::r=>rnH s n++rnsH s r
def rnsV (s:Int):Nat->List Note->List (List V)
 |_,[]=>[]
 |id,n::r=>rnV s id n::rnsV s (id+(rnH s n).length) r
theorem q0mj (s:Int): ∀a b,rnsH s (a++b)=rnsH s a++rnsH s b
 |[],b=>rfl
 |n::r,b=>by simp only [Zd,rnsH,q0mj s r b,Zx]
theorem q0mk (s:Int): ∀a id b,rnsV s id (a++b)=rnsV s id a++rnsV s (id+(rnsH s a).length) b
 |[],id,b=>by simp [rnsV,rnsH]
 |n::r,id,b=>by simp only [Zd,rnsV,rnsH,q0mk s r,Zt,Z3]
theorem q0dy (s:Int): ∀l id,(rnsV s id l).length=l.length
 |[],_=>rfl
 |n::r,id=>by simp only [rnsV,Zg,q0dy s r]
def rnHp (s:Int) (n:Note) (r:List Note) (G:Heap):Heap:=G++(rnH s n++ .row 2 (rnV s G.length n::rnsV s (G.length+(rnH s n).length+1) r)::rnsH s r)
theorem q0r8 (j:Job) (ok:okJob j) (hs:I64 j.g.grid) (Z:List V) (g:Geom) (a c:V) (G:Heap) (B:Nat) (hB:B<=G.length) (n:Note) (r:List Note) (hj:j.notes=n::r):
  evD EE q0Vx (rsE j.g.grid (cGeom j.g++[q006 j.items,q00b j.notes,q005 j.floats]) Z 6 g a (.row (G.length+(rnH j.g.grid n).length) 1 0 1) c (rnHp j.g.grid n [] G) B 1)=
   some (rsX j.g.grid (cGeom j.g++[q006 j.items,q00b j.notes,q005 j.floats]) Z 6 71 2 g a (.row (G.length+(rnH j.g.grid n).length) (r.length+1) 0 (r.length+1)) c (rnHp j.g.grid n r G) B (r.length+1)):=by
 unfold q0Vx
 refine q00u r (fun (_:Unit) i=>rsE j.g.grid (cGeom j.g++[q006 j.items,q00b j.notes,q005 j.floats]) Z 6 g a (.row (G.length+(rnH j.g.grid n).length) (i+1) 0 (i+1)) c (rnHp j.g.grid n (r.take i) G) B (i+1)) (fun _ _=>True) (fun _ _ _=>())
  (fun _=>rsX j.g.grid (cGeom j.g++[q006 j.items,q00b j.notes,q005 j.floats]) Z 6 71 2 g a (.row (G.length+(rnH j.g.grid n).length) (r.length+1) 0 (r.length+1)) c (rnHp j.g.grid n r G) B (r.length+1)) (fun _ _=>rfl) ?_ ?_ () 0 trivial (Zj _)
 ·rintro _ i x-hx
  refine ⟨?_,trivial⟩
  have hlt:=(Za.1 hx).1
  have hx':j.notes[i+1]? =some x:=by rw [hj];simpa using hx
  have hn:=ok.n2
  have hl:j.notes.length=r.length+1:=by rw [hj];rfl
  have hlt':i+1<j.notes.length:=by omega
  have w:IntKind.i64.wrap (((i+1:Nat):Int)+1)=((i+1+1:Nat):Int):=w64 (by omega) (by omega)
  have hix:=fun H k=>q00c H q00e (k:=k) (s:=2) hx' rfl
  have e:r.take (i+1)=r.take i++[x]:=by rw [List.take_add_one,hx];rfl
  have hA:=q0dy j.g.grid (r.take i) (G.length+(rnH j.g.grid n).length+1)
  rw [ZC,Nat.min_eq_left (Nat.le_of_lt hlt)] at hA
  have key:=fun C=>q0ir j ok hs Z C (i+1) x hx' (sli x.pens) (rnHp j.g.grid n (r.take i) G) B (by unfold rnHp;simp;omega)
  have hm:i+1+1<most:=by unfold most;omega
  have e1:rnHp j.g.grid n (r.take (i+1)) G=G++(rnH j.g.grid n++ .row 2 (rnV j.g.grid G.length n::(rnsV j.g.grid (G.length+(rnH j.g.grid n).length+1) (r.take i)++[rnV j.g.grid (G.length+(rnH j.g.grid n).length+1+(rnsH j.g.grid (r.take i)).length) x]))::(rnsH j.g.grid (r.take i)++rnH j.g.grid x)):=by
   unfold rnHp;rw [e,q0mk,q0mj];simp [rnsV,rnsH]
  rw [e1]
  unfold rnHp at key⊢
  generalize rnsV j.g.grid (G.length+(rnH j.g.grid n).length+1) (r.take i)=A at*
  generalize rnsH j.g.grid (r.take i)=T at*
  generalize rnH j.g.grid n=F at*
  generalize rnV j.g.grid G.length n=v0 at*
  have hrow: ∀es U,Eng.rowAt (G++(F++DObj.row 2 es::U)) (G.length+F.length)=some (2,es):=fun es U=>by simp
  have hset: ∀es fs U,(G++(F++DObj.row 2 es::U)).set (G.length+F.length) (.row 2 fs)=G++(F++DObj.row 2 fs::U):=fun es fs U=>by simp
  have hbl: ¬G.length+F.length<B:=by omega
  have hlt2:(i:Int)+1<j.notes.length:=by omega
  simp only [q00e] at hix
  simp only [Int.natCast_add,Int.natCast_one] at hix w
  cases hL:x.lines with
  |nil=>
   have key':=key (cGeom g++[a,.row (G.length+F.length) (i+1) 0 (i+1),c])
   simp [rlE,rlX,hL] at key'
   simp [-q0hw,-q0p5,rsE,hlt2,hix,subs,q001,key',hrow,hset,hA,hm,hbl,rnV,rnH,lineV,hL,w,upV,okEl]
  |cons y q=>
   have key':=key (cGeom g++[a,.row (G.length+F.length) (i+1) 0 (i+1),c])
   simp [rlE,rlX,hL,q02t] at key'
   simp [-q0hw,-q0p5,rsE,hlt2,hix,subs,q001,key',hrow,hset,hA,hm,hbl,rnV,rnH,lineV,hL,w,upV,okEl,q02t]
   omega
 ·rintro _-
  have hl:j.notes.length=r.length+1:=by rw [hj];rfl
  refine ⟨?_,by simp [rsX]⟩
  simp [rsE,rsX,subs,hl]
def rnHq (s:Int) (l:List Note) (G:Heap):Heap:=match l with|[]=>G|n::r=>rnHp s n r G
def rnVq (s:Int) (l:List Note) (G:Heap):V:=match l with|[]=> .nils|n::r=> .row (G.length+(rnH s n).length) (r.length+1) 0 (r.length+1)
theorem q0ur (j:Job) (ok:okJob j) (hs:I64 j.g.grid) (Z:List V) (g:Geom) (a c:V) (G:Heap) (B:Nat) (hB:B<=G.length):
  evD EE q0Vx (rsE j.g.grid (cGeom j.g++[q006 j.items,q00b j.notes,q005 j.floats]) Z 6 g a .nils c G B 0)=
   some (rsX j.g.grid (cGeom j.g++[q006 j.items,q00b j.notes,q005 j.floats]) Z 6 71 2 g a (rnVq j.g.grid j.notes G) c (rnHq j.g.grid j.notes G) B j.notes.length):=by
 cases hj:j.notes with
 |nil=>
  unfold q0Vx
  rw [q003]
  simp [rsE,rsX,subs,rnHq,rnVq]
 |cons n r=>
  have k1:=q0r8 j ok hs Z g a c G B hB n r hj
  have hx':j.notes[0]? =some n:=by rw [hj];rfl
  have hix:=fun H k=>q00c H q00e (k:=k) (s:=2) hx' rfl
  have key:=q0ir j ok hs Z (cGeom g++[a,.nils,c]) 0 n hx' (sli n.pens) G B hB
  have w:IntKind.i64.wrap 1=1:=w64 (by omega) (by omega)
  have hm:1<most:=by unfold most;omega
  have hlt:0<j.notes.length:=by rw [hj];exact Nat.zero_lt_succ _
  simp only [q00e,Int.natCast_zero] at hix
  rw [<-hj]
  refine Eq.trans ?_ (k1.trans (by rw [hj];rfl))
  conv=>lhs;unfold q0Vx
  rw [q003]
  cases hL:n.lines with
  |nil=>
   simp [rlE,rlX,hL] at key
   simp [rsE,rsX,hix,subs,q001,hlt,key,hm,rnHp,rnV,rnH,rnsV,rnsH,lineV,hL,w,upV,okEl]
   rfl
  |cons y q=>
   simp [rlE,rlX,hL,q02t] at key
   simp [rsE,rsX,hix,subs,q001,hlt,key,hm,rnHp,rnV,rnH,rnsV,rnsH,lineV,hL,w,upV,okEl,q02t]
   rfl
theorem q07b {α:Type} (env:List (Nat×V)) (loc:List (Nat×List V)) (hp:Heap) (base:Nat) (dirty:List Nat) (id s:Nat) (enc:α->List PV) (l:List α) (h:Eng.rowAt hp id=some (s,upV (l.map enc))\/l=[]) (hb:base<=id):
  Eng.freeze ⟨env,loc,hp,base,dirty⟩ (q00k id l)=some (.p (.sl (l.map enc))):=by
 rcases h with h|h
 ·cases l with
  |nil=>rfl
  |cons x r=>rw [q065];simp [hb,h]
 ·subst h;rfl
theorem q09q {α:Type} (s:Nat) (enc:α->List PV) (H U:Heap) (l:List α):Eng.rowAt (H++(rowsG s enc l++U)) H.length=some (s,upV (l.map enc))\/l=[]:=by
 cases l with
 |nil=>exact .inr rfl
 |cons x r=>left;simp [q02t]
theorem q0ml (base id:Nat) (G:Heap) (d:Nat) (L:List Int) (h:Eng.rowAt G id=some (1,upV (L.map encI))\/L=[]) (hb:base<=id):frz base G (d+1) (lineV id L)=some (.sl (L.map encI)):=by
 cases L with
 |nil=>rfl
 |cons x r=>
  rcases h with h|h
  ·unfold lineV;rw [if_neg (by simp),q056,if_pos hb,h,q09c];simp
  ·cases h
theorem q0us (s:Int) (base:Nat): ∀(l:List Note) (H0 U:Heap),base<=H0.length->allO (allO (frz base (H0++(rnsH s l++U)) 2)) (rnsV s H0.length l)=some (l.map fun n=>q00e (noteG s n))
 |[],_,_,_=>rfl
 |n::r,H0,U,hb=>by
  have ih:=q0us s base r (H0++rnH s n) U (by simp;omega)
  rw [Zx,Zt] at ih
  have f1:=q0ml base H0.length (H0++(rnH s n++(rnsH s r++U))) 1 (n.lines.map fun x=>upG x s) (q09q 1 encI H0 _ _) hb
  simp only [rnsH,rnsV,rnV,Zx,allO,f1,ih,Zo]
  rfl
theorem q0ut (env:List (Nat×V)) (loc:List (Nat×List V)) (base:Nat) (dirty:List Nat) (s:Int) (l:List Note) (G U:Heap) (hb:base<=G.length):
  Eng.freeze ⟨env,loc,rnHq s l G++U,base,dirty⟩ (rnVq s l G)=some (.p (.sl ((l.map (noteG s)).map q00e))):=by
 cases l with
 |nil=>rfl
 |cons n r=>
  have h1:=q0ml base G.length (rnHq s (n::r) G++U) 1 (n.lines.map fun x=>upG x s) (by
   have:=q09q 1 encI G (DObj.row 2 (rnV s G.length n::rnsV s (G.length+(rnH s n).length+1) r)::(rnsH s r++U)) (n.lines.map fun x=>upG x s)
   simpa [rnHq,rnHp,rnH] using this) hb
  have h2:=q0us s base r (G++(rnH s n++[DObj.row 2 (rnV s G.length n::rnsV s (G.length+(rnH s n).length+1) r)])) U (by simp;omega)
  have e1:rnHq s (n::r) G++U=G++(rnH s n++[DObj.row 2 (rnV s G.length n::rnsV s (G.length+(rnH s n).length+1) r)])++(rnsH s r++U):=by simp [rnHq,rnHp]
  have e2:(G++(rnH s n++[DObj.row 2 (rnV s G.length n::rnsV s (G.length+(rnH s n).length+1) r)])).length=G.length+(rnH s n).length+1:=by simp;omega
  rw [e2,<-e1] at h2
  have h3:Eng.rowAt (rnHq s (n::r) G++U) (G.length+(rnH s n).length)=some (2,rnV s G.length n::rnsV s (G.length+(rnH s n).length+1) r):=by simp [rnHq,rnHp]
  have hl:=q0dy s r (G.length+(rnH s n).length+1)
  have hb2:base<=G.length+(rnH s n).length:=by omega
  unfold rnVq
  simp only [q0cy,h3,hb2,if_true,frzK,Zg,hl,ZG]
  rw [Zy (by simp [hl])]
  simp only [allO,rnV] at h1 h2⊢
  rw [h1,h2]
  have e5:(r.map (noteG s)).map q00e=r.map fun n=>q00e (noteG s n):=by rw [List.map_map];rfl
  rw [Zo,Zo,e5]
  rfl
@[simp] theorem q0Ng (s:Int) (l:List Note) (G:Heap):(rnVq s l G).oneB=true:=by cases l<;>rfl
@[simp] theorem q0Iu (s:Int) (l:List Note) (G:Heap):(rnVq s l G).cells=[rnVq s l G] :=by cases l<;>rfl
theorem q0mm (s:Int) (l:List Note) (G:Heap):G.length<=(rnHq s l G).length:=by
 cases l with
 |nil=>exact Zm _
 |cons n r=>simp [rnHq,rnHp]
theorem q0Cc (s:Int) (l:List Note) (G U:Heap) (i:Nat) (h:i<G.length):Eng.rowAt (rnHq s l G++U) i=Eng.rowAt G i:=by
 cases l with
 |nil=>exact q03h U h
 |cons n r=>simp only [rnHq,rnHp,Zx];exact q03h _ h
theorem q0mn (j:Job) (ok:okJob j) (H:Heap):clD EE (.p (.fn 66)) [vJob j] H=some (vJob (snapG j),none):=by
 rw [q002 _ _ _ _ _ _ (noP _) fn66]
 have hg:=ok.g
 simp only [q0bg] at hg
 by_cases c:j.g.grid<1
 ·simp [zEc,c,snapG]
 ·have i1:=fun H'=>q0ik j.g.high j.g.grid H' hg.2.2.2.1 hg.2.2.2.2.2.1
  have i2:=fun H'=>q0ik j.g.first j.g.grid H' hg.2.2.2.2.1 hg.2.2.2.2.2.1
  have i3:=fun H'=>q08r j.g.rule j.g.grid H' hg.2.2.2.2.2.2.1 hg.2.2.2.2.2.1
  have i4:=fun H'=>q08r j.g.sep j.g.grid H' hg.2.2.2.2.2.2.2.1 hg.2.2.2.2.2.1
  have k1:=fun Z=>q0uq j ok hg.2.2.2.2.2.1 Z (geomG j.g) .nils .nils H
  have k2:=fun Z=>q0ur j ok hg.2.2.2.2.2.1 Z (geomG j.g) (q00k H.length (j.items.map (itemG j.g.grid))) .nils (H++rowsG 7 q004 (j.items.map (itemG j.g.grid))) H.length (by simp)
  obtain ⟨G,hG⟩: ∃G,G=H++rowsG 7 q004 (j.items.map (itemG j.g.grid)):=⟨_,rfl⟩
  rw [<-hG] at k1 k2
  have k3:=fun Z=>q0r7 j ok hg.2.2.2.2.2.1 Z (geomG j.g) (q00k H.length (j.items.map (itemG j.g.grid))) (rnVq j.g.grid j.notes G) (rnHq j.g.grid j.notes G) H.length (by
   have:=q0mm j.g.grid j.notes G
   have:H.length<=G.length:=by rw [hG];simp
   omega)
  have f1:=fun env loc=>q07b env loc (rnHq j.g.grid j.notes G++rowsG 3 q009 (j.floats.map (q01h j.g.grid))) H.length [] H.length 7 q004 (j.items.map (itemG j.g.grid)) (by
   cases hI:j.items.map (itemG j.g.grid) with
   |nil=>exact .inr rfl
   |cons x r=>left;rw [q0Cc _ _ _ _ _ (by rw [hG,hI];simp [q02t]),hG,hI];simp [q02t]) (Zm _)
  have f2:=fun env loc=>q0ut env loc H.length [] j.g.grid j.notes G (rowsG 3 q009 (j.floats.map (q01h j.g.grid))) (by rw [hG];simp)
  have f3:=fun env loc=>q07b env loc (rnHq j.g.grid j.notes G++rowsG 3 q009 (j.floats.map (q01h j.g.grid))) H.length [] (rnHq j.g.grid j.notes G).length 3 q009 (j.floats.map (q01h j.g.grid)) (by
   have:=q09q 3 q009 (rnHq j.g.grid j.notes G) [] (j.floats.map (q01h j.g.grid))
   simpa using this) (by
   have:=q0mm j.g.grid j.notes G
   have:H.length<=G.length:=by rw [hG];simp
   omega)
  have hj:snapG j=⟨geomG j.g,j.items.map (itemG j.g.grid),j.notes.map (noteG j.g.grid),j.floats.map (q01h j.g.grid)⟩:=if_neg c
  rw [hj]
  simp only [rsE,rsX,geomG] at k1 k2 k3
  generalize hu1:q00k H.length (j.items.map (itemG j.g.grid))=u1 at*
  generalize hu2:rnVq j.g.grid j.notes G=u2 at*
  generalize hu3:q00k (rnHq j.g.grid j.notes G).length (j.floats.map (q01h j.g.grid))=u3 at*
  have o1:u1.oneB=true:=by rw [<-hu1];simp
  have o2:u2.oneB=true:=by rw [<-hu2];simp
  have o3:u3.oneB=true:=by rw [<-hu3];simp
  have p1:u1.cells=[u1]:=by rw [<-hu1];simp
  have p2:u2.cells=[u2]:=by rw [<-hu2];simp
  have p3:u3.cells=[u3]:=by rw [<-hu3];simp
  clear hu1 hu2 hu3
  generalize rnHq j.g.grid j.notes G++rowsG 3 q009 (j.floats.map (q01h j.g.grid))=G3 at*
  simp at k1 k2 k3 f1 f2 f3
  simp [zEc,c,i1,i2,i3,i4,k1,k2,k3,f1,f2,f3,o1,o2,o3,geomG]
end Go.EnvOf
namespace Go.EnvOf
open Go Go.Eng
def encN (x:List Int×List Int):List PV:=[.sl (x.1.map encI),.sl (x.2.map encI)]
@[simp] theorem q0R1 (x:List Int×List Int):(encN x).length=2:=rfl
def notes (l:List (List Int×List Int)):V:= .p (.sl (l.map encN))
theorem q0uu (H:Heap) (L:List (List Int×List Int)) (k:IntKind) (i:Int) (h0:0<=i) (h1:i<L.length):ixsI H (.p (.sl (L.map encN))) (.p (.int k i)) 2=some (.eptr [.p (.sl ((rd L i).1.map encI)),.p (.sl ((rd L i).2.map encI))] 0):=
 q0bw H encN L k i 2 (fun _=>rfl) h0 h1
def q037 (l:List (List Int×List Int)):Int:=l.foldr (fun x s=>(x.1.length:Int)+s) 0
theorem q0yj {α:Type} [Inhabited α] (L:List α) (i:Int) (h0:0<=i) (h1:i<L.length):L.drop i.toNat=rd L i::L.drop (i+1).toNat:=by
 have e:(i+1).toNat=i.toNat+1:=by omega
 rw [e,ZA (by omega)]
 congr 1
 unfold rd
 have:i.toNat<L.length:=by omega
 simp [ZB,this]
theorem q0a4: ∀l,0<=q037 l
 |[]=>by simp [q037]
 |x::r=>by have:=q0a4 r;simp only [q037,List.foldr_cons] at this⊢;omega
theorem q0yk (l:List (List Int×List Int)) (H:Heap) (Bs:Nat) (hl:l.length<=1000000): ∀(n:Nat) (i s:Int),((l.length:Int)-i).toNat=n->0<=i->i<=l.length->0<=s->s+q037 (l.drop i.toNat)<=9223372036854775807->
  evD EE q0Wn ⟨[(3,.p (.int .i64 s)),(6,notes l),(7,.p (.int .i64 l.length)),(8,.p (.int .i64 i))],[],H,Bs,[]⟩=
   some (.exit 0,⟨[(3,.p (.int .i64 (s+q037 (l.drop i.toNat)))),(6,notes l),(7,.p (.int .i64 l.length)),(8,.p (.int .i64 l.length)),(9,.p (.bool false))],[],H,Bs,[]⟩):=by
 intro n
 induction n with
 |zero=>
  intro i s hn h0 h1 h2 h3
  have e:i=l.length:=by omega
  subst e
  unfold q0Wn
  rw [q003]
  simp [notes,q037]
 |succ n ih=>
  intro i s hn h0 h1 h2 h3
  have c:i<(l.length:Int):=by omega
  have w:IntKind.i64.wrap (i+1)=i+1:=q01b _ (by omega) (by omega)
  have hd:=q0yj l i h0 c
  have hs:q037 (l.drop i.toNat)=((rd l i).1.length:Int)+q037 (l.drop (i+1).toNat):=by rw [hd];rfl
  have hnn:=q0a4 (l.drop (i+1).toNat)
  have w2:IntKind.i64.wrap (s+((rd l i).1.length:Int))=s+((rd l i).1.length:Int):=q01b _ (by omega) (by omega)
  have key:=ih (i+1) (s+((rd l i).1.length:Int)) (by omega) (by omega) (by omega) (by omega) (by omega)
  have e2:s+q037 (l.drop i.toNat)=s+((rd l i).1.length:Int)+q037 (l.drop (i+1).toNat):=by omega
  rw [e2]
  unfold q0Wn
  rw [q003]
  simp (disch:=omega) [notes,c,q0uu,subs,q001,w,w2] at key⊢
  exact key
theorem q0yl (l:List (List Int×List Int)) (H:Heap) (hl:l.length<=1000000) (hs:q037 l<=9223372036854775807):clD EE (.p (.fn 59)) [notes l] H=some (.p (.int .i64 (q037 l)),none):=by
 rw [q002 _ _ _ _ _ _ (noP _) fn59]
 have key:=q0yk l H H.length hl _ 0 0 rfl (by omega) (by omega) (by omega) (by simpa using hs)
 simp [notes] at key
 simp [notes,zEa,key]
end Go.EnvOf
namespace Go.EnvOf
open Go Go.Eng
structure small (j:Job):Prop where
 items:j.items.length<=100
 notes:j.notes.length<=100
 floats:j.floats.length<=100
 each: ∀n∈j.notes,n.lines.length<=100/\n.pens.length<=100
def q059 (n:Note):Bool:=decide (100<(n.lines.length:Int))||decide (100<(n.pens.length:Int))
def q0bl (j:Job):Bool:=(j.notes.take 100).any q059||decide (100<(j.items.length:Int))||decide (100<(j.notes.length:Int))||decide (100<(j.floats.length:Int))
theorem q0ym {j:Job} (h:q0bl j=false):small j:=by
 unfold q0bl at h
 simp only [Bool.or_eq_false_iff,decide_eq_false_iff_not] at h
 obtain ⟨⟨⟨h1,h2⟩,h3⟩,h4⟩:=h
 have hl:j.notes.length<=100:=by omega
 rw [Zy hl] at h1
 refine ⟨by omega,hl,by omega,fun n hn=> ?_⟩
 have:=List.any_eq_false.1 h1 n hn
 simp [q059] at this
 omega
def lgE (j:Job) (H:Heap) (i:Nat):St:=⟨[(1,.lptr 1 0),(3,vI i)],[(1,cGeom j.g++[q006 j.items,q00b j.notes,q005 j.floats])],H,H.length,[]⟩
def lgX (j:Job) (H:Heap) (i:Nat):Ex×St:=(.exit 0,⟨[(1,.lptr 1 0),(3,vI i),(12,vB false)],[(1,cGeom j.g++[q006 j.items,q00b j.notes,q005 j.floats])],H,H.length,[]⟩)
def lgB (H:Heap):Ex×St:=(.ret,⟨[(2,vB true)],[],H,H.length,[]⟩)
theorem q0yn (j:Job) (H:Heap):evD EE q0Xd (lgE j H 0)=some (if (j.notes.take 100).any q059=true then lgB H else lgX j H (min 100 j.notes.length)):=by
 unfold q0Xd
 refine Eq.trans (q013 (j.notes.take 100) (fun (_:Unit) i=>lgE j H i) (fun _ _=>True) (stepB q059 (lgB H)) (fun _=>lgX j H (min 100 j.notes.length)) (fun _ _=>rfl) ?_ ?_ () 0 trivial (Zj _)) (by rw [q043];rfl)
 ·rintro _ i x-hx
  have hlt:=(Za.1 hx).1
  rw [ZC] at hlt
  have hx':j.notes[i]? =some x:=by rw [List.getElem?_take] at hx;split at hx<;>simp_all
  have hl1:i<j.notes.length:=by omega
  have hl2:(i:Int)<100:=by omega
  have w1:IntKind.i64.wrap ((i:Int)+1)=((i+1:Nat):Int):=w64 (by omega) (by omega)
  have hix:=fun H k=>q00c H q00e (k:=k) (s:=2) hx' rfl
  simp only [q00e] at hix
  by_cases a:100<(x.lines.length:Int)
  ·simp [stepB,q059,lgE,lgB,hl1,hl2,hix,subs,a]
  ·by_cases b:100<(x.pens.length:Int)
   ·simp [stepB,q059,lgE,lgB,hl1,hl2,hix,subs,a,b]
   ·simp [stepB,q059,lgE,hl1,hl2,hix,subs,a,b,w1]
 ·rintro _-
  refine ⟨?_,by simp [lgX]⟩
  rw [ZC]
  by_cases h:j.notes.length<=100
  ·have e:min 100 j.notes.length=j.notes.length:=by omega
   rw [e]
   simp [lgE,lgX,subs]
  ·have e:min 100 j.notes.length=100:=by omega
   have h2:(100:Int)<j.notes.length:=by omega
   rw [e]
   simp [lgE,lgX,subs,h2]
theorem q0yo (j:Job) (H:Heap):clD EE (.p (.fn 31)) [vJob j] H=some (vB (q0bl j),none):=by
 rw [q002 _ _ _ _ _ _ (noP _) fn31]
 have k0:=q0yn j H
 unfold q0bl
 simp only [lgE,lgX,lgB] at k0
 cases b:(j.notes.take 100).any q059 with
 |true=>
  rw [b,if_pos rfl] at k0
  simp at k0
  simp [zEb,k0]
 |false=>
  rw [b,if_neg (by simp)] at k0
  simp at k0
  by_cases a1:100<(j.items.length:Int)
  ·simp [zEb,k0,a1]
  ·by_cases a2:100<(j.notes.length:Int)
   ·simp [zEb,k0,a1,a2]
   ·simp [zEb,k0,a1,a2]
structure jobI (j:Job):Prop where
 g:q0bg j.g
 items: ∀x∈j.items,q079 x
 notes: ∀n∈j.notes,∀x∈n.lines,I64 x
 floats: ∀x∈j.floats,q0h3 x
theorem q0mo {j:Job} (h:jobI j) (s:small j):okJob j:=
 ⟨h.g,h.items,fun n hn=>⟨h.notes n hn,by have:=s.each n hn;omega,by have:=s.each n hn;omega⟩,h.floats,by have:=s.items;omega,by have:=s.notes;omega,by have:=s.floats;omega⟩
theorem q0r9 {j:Job} (s:small j):small (snapG j):=by
 unfold snapG
 split
 ·exact s
 ·refine ⟨by simpa using s.items,by simpa using s.notes,by simpa using s.floats,fun n hn=> ?_⟩
  simp only [ZJ] at hn
  obtain ⟨m,hm,rfl⟩:=hn
  have:=s.each m hm
  simpa [noteG] using this
theorem q07r (j:Job): ∃J,vJob j= .agg J/\J.length=22/\subs J 0 22=some J/\ ¬J=[]/\J.all V.oneB=true/\J.map normC=J:=⟨_,rfl,rfl,rfl,by simp,rfl,rfl⟩
def q01l (f:Float):Bool:=decide (0<=f.c)&&decide (f.c<=2)&&decide (1<=f.h)&&decide (f.h<=1073741823)&&decide (0<=f.w)&&decide (f.w<=3)
theorem q0jr (f:Float) (H:Heap):clD EE (.p (.fn 317)) [q03v f] H=some (vI (if q01l f=true then 0 else 10),none):=by
 rw [q002 _ _ _ _ _ _ (noP _) fn317]
 unfold q01l
 by_cases a1:0<=f.c
 ·have b1: ¬f.c<0:=by omega
  by_cases a2:f.c<=2
  ·have b2: ¬3<=f.c:=by omega
   by_cases a3:1<=f.h
   ·have b3: ¬f.h<1:=by omega
    by_cases a4:f.h<=1073741823
    ·have b4: ¬1073741823<f.h:=by omega
     by_cases a5:0<=f.w
     ·have b5: ¬f.w<0:=by omega
      by_cases a6:f.w<=3
      ·have b6: ¬3<f.w:=by omega
       simp [zEb,a1,a2,a3,a4,a5,a6,b1,b2,b3,b4,b5,b6]
      ·have b6:3<f.w:=by omega
       simp [zEb,a1,a2,a3,a4,a5,a6,b1,b2,b3,b4,b5,b6]
     ·have b5:f.w<0:=by omega
      simp [zEb,a1,a2,a3,a4,a5,b1,b2,b3,b4,b5]
    ·have b4:1073741823<f.h:=by omega
     simp [zEb,a1,a2,a3,a4,b1,b2,b3,b4]
   ·have b3:f.h<1:=by omega
    simp [zEb,a1,a2,a3,b1,b2,b3]
  ·have b2:3<=f.c:=by omega
   simp [zEb,a1,a2,b1,b2]
 ·have b1:f.c<0:=by omega
  simp [zEb,a1,b1]
theorem q0h9 (f:Float) (H:Heap):clD EE (.p (.fn 142)) [q03v f] H=some (vB (q01l f),none):=by
 rw [q002 _ _ _ _ _ _ (noP _) fn142]
 unfold q01l
 by_cases a1:0<=f.c
 ·by_cases a2:f.c<=2
  ·by_cases a3:1<=f.h
   ·by_cases a4:f.h<=1073741823
    ·by_cases a5:0<=f.w
     ·simp [zEb,a1,a2,a3,a4,a5]
     ·simp [zEb,a1,a2,a3,a4,a5]
    ·simp [zEb,a1,a2,a3,a4]
   ·simp [zEb,a1,a2,a3]
  ·simp [zEb,a1,a2]
 ·simp [zEb,a1]
theorem q0ra:EE.fns 361=some (idxI 7 true):=fn361
theorem q0rb:EE.fns 367=some (idxI 2 true):=fn367
theorem q0d5:EE.fns 370=some (idxI 3 true):=fn370
theorem q0o6 (x:Item) (p:Nat) (H:Heap) (hb:Eng.boxAt H p=some [.p (.fn 311)]):clD EE (.fn (.func 362) [] [.ptr p 0]) [vItem x] H=some (vB (!q016 x),none):=by
 rw [q02m,q002 _ _ _ _ _ _ (noP _) fn362]
 have h:=q0me x H
 cases e:q016 x<;>rw [e] at h<;>simp at h<;>simp [zEb,hb,h]
theorem q0o7 (x:Note) (hx:x.lines.length<=1000000/\x.pens.length<=1000000) (p:Nat) (H:Heap) (hb:Eng.boxAt H p=some [.p (.fn 314)]):clD EE (.fn (.func 368) [] [.ptr p 0]) [vNote x] H=some (vB (q01o x.lines x.pens),none):=by
 rw [q02m,q002 _ _ _ _ _ _ (noP _) fn368]
 have h:=q0yf x.lines x.pens H (by omega) (by omega)
 simp only [note,sli] at h
 cases e:q01o x.lines x.pens<;>rw [e] at h<;>simp at h<;>simp [zEb,hb,h]
theorem q0mp (x:Float) (p:Nat) (H:Heap) (hb:Eng.boxAt H p=some [.p (.fn 317)]):clD EE (.fn (.func 371) [] [.ptr p 0]) [q03v x] H=some (vB (!q01l x),none):=by
 rw [q02m,q002 _ _ _ _ _ _ (noP _) fn371]
 have h:=q0jr x H
 cases e:q01l x<;>rw [e] at h<;>simp at h<;>simp [zEb,hb,h]
theorem q0mq (l:List Item) (hl:l.length<=1000000) (p:Nat) (H:Heap) (hb:Eng.boxAt H p=some [.p (.fn 311)]):clD EE (.p (.fn 360)) [q006 l,.ptr p 0] H=some (vI (idxF (fun x=> !q016 x) 0 l),none):=by
 rw [q002 _ _ _ _ _ _ (noP _) fn360]
 have h:=q0b7 _ 7 true q004 (fun x=>vItem x) (noP _) q0ra (fun _=>rfl) (fun _=>rfl) (fun _=>rfl) (fun _=>rfl) l (by omega) (.fn (.func 362) [] [.ptr p 0]) (fun x=> !q016 x) H (fun x _=>q0o6 x p H hb)
 simp [zEa,h]
theorem q0mr (l:List Note) (hl:l.length<=1000000) (hx: ∀x∈l,x.lines.length<=1000000/\x.pens.length<=1000000) (p:Nat) (H:Heap) (hb:Eng.boxAt H p=some [.p (.fn 314)]):clD EE (.p (.fn 366)) [q00b l,.ptr p 0] H=some (vI (idxF (fun x=>q01o x.lines x.pens) 0 l),none):=by
 rw [q002 _ _ _ _ _ _ (noP _) fn366]
 have h:=q0b7 _ 2 true q00e (fun x=>vNote x) (noP _) q0rb (fun _=>rfl) (fun _=>rfl) (fun _=>rfl) (fun _=>rfl) l (by omega) (.fn (.func 368) [] [.ptr p 0]) (fun x=>q01o x.lines x.pens) H (fun x h=>q0o7 x (hx x h) p H hb)
 simp [zEa,h]
theorem q0js (l:List Float) (hl:l.length<=1000000) (p:Nat) (H:Heap) (hb:Eng.boxAt H p=some [.p (.fn 317)]):clD EE (.p (.fn 369)) [q005 l,.ptr p 0] H=some (vI (idxF (fun x=> !q01l x) 0 l),none):=by
 rw [q002 _ _ _ _ _ _ (noP _) fn369]
 have h:=q0b7 _ 3 true q009 (fun x=>q03v x) (noP _) q0d5 (fun _=>rfl) (fun _=>rfl) (fun _=>rfl) (fun _=>rfl) l (by omega) (.fn (.func 371) [] [.ptr p 0]) (fun x=> !q01l x) H (fun x _=>q0mp x p H hb)
 simp [zEa,h]
def refF (k:Int) (most:Nat):Nat->Nat->List Item->Int
 |i,n,[]=>if n<most then i else-1
 |i,n,x::r=>if x.k=k then (if x.n=n/\n<most then refF k most (i+1) (n+1) r else i) else refF k most (i+1) n r
def raE (l:List Item) (k:Int) (most:Nat) (H:Heap) (n i:Nat):St:=⟨[(0,q006 l),(1,vI k),(2,vI most),(7,vI n),(8,vI i)],[],H,H.length,[]⟩
def raS (k:Int) (most:Nat) (H:Heap) (n i:Nat) (x:Item):Nat⊕(Ex×St):=if x.k=k then (if x.n=n/\n<most then .inl (n+1) else .inr (.ret,⟨[(6,vI i)],[],H,H.length,[]⟩)) else .inl n
def raX (l:List Item) (k:Int) (most:Nat) (H:Heap) (n:Nat):Ex×St:=(.exit 0,⟨[(0,q006 l),(1,vI k),(2,vI most),(7,vI n),(8,vI l.length),(12,vB false)],[],H,H.length,[]⟩)
theorem ra_lp (l:List Item) (k:Int) (most:Nat) (H:Heap) (hl:l.length<=1000000):evD EE q0Ws (raE l k most H 0 0)=some (rng (raS k most H) (raX l k most H) 0 0 l):=by
 unfold q0Ws
 refine q013 l (raE l k most H) (fun n i=>n<=i) (raS k most H) (raX l k most H) (fun _ _=>rfl) ?_ ?_ 0 0 (Zm _) (Zj _)
 ·intro n i x hn hx
  have hlt:=(Za.1 hx).1
  have hix:=fun H k=>q00c H q004 (k:=k) (s:=7) hx rfl
  have w:IntKind.i64.wrap ((i:Int)+1)=((i+1:Nat):Int):=w64 (by omega) (by omega)
  have w2:IntKind.i64.wrap ((n:Int)+1)=((n+1:Nat):Int):=w64 (by omega) (by omega)
  simp only [q004] at hix
  by_cases hk:x.k=k
  ·by_cases hn:x.n=n
   ·by_cases hm:n<most
    ·have hm2: ¬(most:Int)<=n:=by omega
     simp [raS,raE,hlt,hix,subs,hk,hn,hm,hm2,w,w2];omega
    ·have hm2:(most:Int)<=n:=by omega
     simp [raS,raE,hlt,hix,subs,hk,hn,hm,hm2]
   ·simp [raS,raE,hlt,hix,subs,hk,hn]
  ·simp [raS,raE,hlt,hix,subs,hk,w];omega
 ·intro n hn
  simp [raE,raX]
theorem q0ms (l:List Item) (k:Int) (most:Nat) (H:Heap): ∀(r:List Item) (n i:Nat),(∃n',rng (raS k most H) (raX l k most H) n i r=raX l k most H n'/\refF k most i n r=if n'<most then ((i+r.length:Nat):Int) else-1)\/
  ∃j:Nat,rng (raS k most H) (raX l k most H) n i r=(.ret,⟨[(6,vI j)],[],H,H.length,[]⟩)/\refF k most i n r=j
 |[],n,i=> .inl ⟨n,rfl,rfl⟩
 |x::r,n,i=>by
  have e: ∀a:Nat,i+1+r.length=i+(x::r).length:=fun _=>by simp;omega
  by_cases hk:x.k=k
  ·by_cases hn:x.n=n/\n<most
   ·have:=q0ms l k most H r (n+1) (i+1)
    rw [e 0] at this
    simpa only [rng,raS,refF,hk,hn,if_true,and_self] using this
   ·exact .inr ⟨i,by simp only [rng,raS,if_pos hk,if_neg hn],by simp only [refF,if_pos hk,if_neg hn]⟩
  ·have:=q0ms l k most H r n (i+1)
   rw [e 0] at this
   simpa only [rng,raS,refF,hk,if_false] using this
theorem q0d6 (l:List Item) (k:Int) (most:Nat) (H:Heap) (hl:l.length<=1000000):clD EE (.p (.fn 143)) [q006 l,vI k,vI most] H=some (vI (refF k most 0 0 l),none):=by
 rw [q002 _ _ _ _ _ _ (noP _) fn143]
 have key:=ra_lp l k most H hl
 rcases q0ms l k most H l 0 0 with ⟨n',h1,h2⟩|⟨j,h1,h2⟩
 ·rw [h1] at key
  simp only [Zs] at h2
  by_cases c:n'<most
  ·simp [raE,raX] at key
   simp [zEa,key,h2,c]
  ·simp [raE,raX] at key
   simp [zEa,key,h2,c]
 ·rw [h1] at key
  simp [raE] at key
  simp [zEa,key,h2]
theorem q09r (k:Int): ∀(l:List Item) (i n:Nat),anchF k i n l= -1\/(i:Int)<=anchF k i n l
 |[],_,_=> .inl rfl
 |x::r,i,n=>by
  simp only [anchF]
  split
  ·split
   ·rcases q09r k r (i+1) (n+1) with h|h
    ·exact .inl h
    ·exact .inr (by omega)
   ·exact .inr (ZS _)
  ·rcases q09r k r (i+1) n with h|h
   ·exact .inl h
   ·exact .inr (by omega)
def rfE (l:List Item) (k:Int) (most:Nat) (at_:Int) (H:Heap) (n i:Nat):St:=⟨[(0,q006 l),(1,vI k),(2,vI most),(7,vI at_),(8,vI n),(14,q006 l),(15,vI l.length),(16,vI i)],[],H,H.length,[]⟩
def rfS (k:Int) (most:Nat) (at_:Int) (H:Heap) (n i:Nat) (x:Item):Nat⊕(Ex×St):=if (i:Int)=at_ then .inr (.ret,⟨[(6,vI i)],[],H,H.length,[]⟩) else if x.k=k then (if n=most then .inr (.ret,⟨[(6,vI i)],[],H,H.length,[]⟩) else .inl (n+1)) else .inl n
def rfX (l:List Item) (k:Int) (most:Nat) (at_:Int) (H:Heap) (n:Nat):Ex×St:=(.exit 0,⟨[(0,q006 l),(1,vI k),(2,vI most),(7,vI at_),(8,vI n),(14,q006 l),(15,vI l.length),(16,vI l.length),(17,vB false)],[],H,H.length,[]⟩)
theorem rf_lp (l:List Item) (k:Int) (most:Nat) (at_:Int) (H:Heap) (hl:l.length<=1000000):evD EE q0B3 (rfE l k most at_ H 0 0)=some (rng (rfS k most at_ H) (rfX l k most at_ H) 0 0 l):=by
 unfold q0B3
 refine q013 l (rfE l k most at_ H) (fun n i=>n<=i) (rfS k most at_ H) (rfX l k most at_ H) (fun _ _=>rfl) ?_ ?_ 0 0 (Zm _) (Zj _)
 ·intro n i x hn hx
  have hlt:=(Za.1 hx).1
  have hix:=fun H k=>q00c H q004 (k:=k) (s:=7) hx rfl
  have w:IntKind.i64.wrap ((i:Int)+1)=((i+1:Nat):Int):=w64 (by omega) (by omega)
  have w2:IntKind.i64.wrap ((n:Int)+1)=((n+1:Nat):Int):=w64 (by omega) (by omega)
  simp only [q004] at hix
  by_cases ha:(i:Int)=at_
  ·subst ha
   simp [rfS,rfE,hlt,hix,subs,q001]
  ·by_cases hk:x.k=k
   ·by_cases hm:n=most
    ·simp [rfS,rfE,hlt,hix,subs,q001,ha,hk,hm]
    ·have hm2: ¬(n:Int)=most:=by omega
     simp [rfS,rfE,hlt,hix,subs,q001,ha,hk,hm,hm2,w,w2];omega
   ·simp [rfS,rfE,hlt,hix,subs,q001,ha,hk,w];omega
 ·intro n hn
  simp [rfE,rfX]
theorem q0mt (l:List Item) (k:Int) (most:Nat) (at_:Int) (H:Heap): ∀(r:List Item) (n i:Nat),n<=most->at_=anchF k i n r->(∃n',rng (rfS k most at_ H) (rfX l k most at_ H) n i r=rfX l k most at_ H n'/\refF k most i n r=if n'<most then ((i+r.length:Nat):Int) else-1)\/
  ∃j:Nat,rng (rfS k most at_ H) (rfX l k most at_ H) n i r=(.ret,⟨[(6,vI j)],[],H,H.length,[]⟩)/\refF k most i n r=j
 |[],n,i,_,_=> .inl ⟨n,rfl,rfl⟩
 |x::r,n,i,hm,ha=>by
  have e:i+1+r.length=i+(x::r).length:=by simp;omega
  simp only [anchF] at ha
  by_cases hk:x.k=k
  ·rw [if_pos hk] at ha
   by_cases hn:x.n=n
   ·rw [if_pos hn] at ha
    have hne: ¬(i:Int)=at_:=by
     rcases q09r k r (i+1) (n+1) with h|h<;>omega
    by_cases hmm:n=most
    ·refine .inr ⟨i,by simp only [rng,rfS,if_neg hne,if_pos hk,if_pos hmm],?_⟩
     have: ¬(x.n=n/\n<most):=by omega
     simp only [refF,if_pos hk,if_neg this]
    ·have hlt:x.n=n/\n<most:=⟨hn,by omega⟩
     have:=q0mt l k most at_ H r (n+1) (i+1) (by omega) ha
     rw [e] at this
     simp only [rng,rfS,if_neg hne,if_pos hk,if_neg hmm,refF,if_pos hlt]
     exact this
   ·rw [if_neg hn] at ha
    have: ¬(x.n=n/\n<most):=fun h=>hn h.1
    exact .inr ⟨i,by simp only [rng,rfS,if_pos ha.symm],by simp only [refF,if_pos hk,if_neg this]⟩
  ·rw [if_neg hk] at ha
   have hne: ¬(i:Int)=at_:=by
    rcases q09r k r (i+1) n with h|h<;>omega
   have:=q0mt l k most at_ H r n (i+1) hm ha
   rw [e] at this
   simp only [rng,rfS,if_neg hne,if_neg hk,refF]
   exact this
theorem q0pn (l:List Item) (k:Int) (most:Nat) (H:Heap) (hl:l.length<=1000000):clD EE (.p (.fn 372)) [q006 l,vI k,vI most] H=some (vI (refF k most 0 0 l),none):=by
 rw [q002 _ _ _ _ _ _ (noP _) fn372]
 have h0:=q0Bk l k H hl
 have key:=rf_lp l k most (anchF k 0 0 l) H hl
 rcases q0mt l k most (anchF k 0 0 l) H l 0 0 (Zj _) rfl with ⟨n',h1,h2⟩|⟨j,h1,h2⟩
 ·rw [h1] at key
  simp only [Zs] at h2
  by_cases c:n'<most
  ·simp [rfE,rfX] at key
   simp [zEa,h0,key,h2,c]
  ·simp [rfE,rfX] at key
   simp [zEa,h0,key,h2,c]
 ·rw [h1] at key
  simp [rfE] at key
  simp [zEa,h0,key,h2]
end Go.EnvOf
