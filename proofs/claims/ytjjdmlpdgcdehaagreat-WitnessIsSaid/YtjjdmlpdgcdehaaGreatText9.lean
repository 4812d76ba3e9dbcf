/- The program's functions and the document's, evaluated. -/
import Derived.Test.YtjjdmlpdgcdehaaGreatText8
import Derived.Test.YtjjdmlpdgcdehaaGreatText5
import Derived.Test.YtjjdmlpdgcdehaaGreatText7
import Derived.Test.YtjjdmlpdgcdehaaGreatText6
set_option linter.unusedSimpArgs false
set_option linter.unusedVariables false
namespace Go.EnvOf
open Go Go.Eng
set_option maxRecDepth 100000
structure spotB (l:List Note) (s:Spot):Prop where
 l1:l.length≤1000000
 l2: ∀n∈l,n.lines.length≤1000000
 b:s.begun≤l.length
 n0:0≤s.note
 n1:s.note≤1000000
 li:0≤s.line
def lsEnv (h:Nat):List (Nat×V):=[(4,.ptr h 0),(8,allV (h+1))]
def q06a (st:LSt) (h:Nat):DObj:= .loop st (lsEnv h) [9] q0Vt q0Vu
def lsR (h:Nat) (i:Nat) (A:List Nat) (H:Heap):Prop:=i=0∧A=[h,h+3]∧h+3<H.length∧H[h+3]? =some (q06a .ready h)∧Eng.boxAt H h=some [.nils]
def lsF (L:List (List Piece)) (h:Nat) (A:List Nat) (H:Heap):Prop:= ∃p v B,L[0]? =some p∧repP p v H B∧(∀k∈B,h≤k)∧H[h+3]? =some (q06a (.done .ret) h)∧Eng.boxAt H h=some [v]∧h+3<H.length
theorem q07p {p:List Piece} {v:V} {H K:Heap} {B:List Nat} (h:repP p v H B) (g:Stay B H K):repP p v K B:=by
 rcases h with h|⟨id,h1,h2,rfl⟩
 ·exact .inl h
 ·exact .inr ⟨id,h1,g.row h2 (by simp),rfl⟩
theorem q0lp {p:List Piece} {v:V} {H:Heap} {B:List Nat} (h:repP p v H B):v.oneB=true∧v.cells=[v]∧v.notL=true∧outL v=v∧v.outB=true∧normA v=v:=by
 rcases h with ⟨rfl,-⟩|⟨id,rfl,-,-⟩<;>exact ⟨rfl,rfl,rfl,rfl,rfl,rfl⟩
theorem q0Bb (L:List (List Piece)) (h:Nat):Eats repP (h+3) L (lsR h) (lsF L h):=by
 refine ⟨?_,?_,?_⟩
 ·rintro i A H K ⟨rfl,rfl,h1,h2,h3⟩ g
  exact ⟨rfl,rfl,by have:=g.1;omega,by rw [g.2 _ (by simp)];exact h2,g.box h3 (by simp)⟩
 ·rintro i A H ⟨rfl,rfl,h1,h2,h3⟩ k hk
  have:=q02y h3
  simp at hk;omega
 ·rintro i A H x v B hL ⟨rfl,rfl,h1,h2,h3⟩ hr hB
  obtain ⟨o1,o2,o3,o4,o5,o6⟩:=q0lp hr
  have hh:=q02y h3
  have ne:h+3≠h:=by omega
  have b2: ∀o,Eng.boxAt (H.set (h+3) o) h=some [.nils]:=fun o=>(q01p H (h+3) h o ne).trans h3
  refine ⟨false,((H.set (h+3) (q06a .busy h)).set h (.box [v])).set (h+3) (q06a (.done .ret) h),[h,h+3],[h,h+3]++B,?_,by simp,?_,fun k hk=> .inl hk,fun k hk=> ?_,(fun e=>nomatch e),fun _=> ?_⟩
  ·have hs2: ∀o:DObj,((H.set (h+3) (q06a .busy h)).set h o)[h+3]? =some (q06a .busy h):=fun o=>by
    rw [List.getElem?_set_ne (by omega)];exact List.getElem?_set_self h1
   refine q0e5 h2 rfl (env1:=[(4,.ptr h 0),(5,v)]) (loc1:=[]) ?_ (x:= .ret) (env2:=[(4,.ptr h 0)]) (loc2:=[]) (d2:=[h,h+3]) ?_ (hs2 _)
   ·simp [lsEnv,q0Vt]
   ·simp [q0Vu,o1,o2,b2,q001,hh]
    rfl
  ·exact ((Keep.set _ _ _ _ (.inl (by simp))).trans (Keep.set [h,h+3] _ _ _ (.inl (by simp))) (fun k hk=> .inl hk)).trans (Keep.set [h,h+3] _ _ _ (.inl (by simp))) (fun k hk=> .inl hk)
  ·simp only [List.mem_append] at hk
   exact hk.imp id .inl
  ·refine ⟨x,v,B,hL,?_,fun k hk=> ?_,?_,?_,by simpa using h1⟩
   ·refine q07p hr ⟨by simp,fun k hk=> ?_⟩
    have:=hB k hk
    simp at this
    rw [List.getElem?_set_ne (by omega),List.getElem?_set_ne (by omega),List.getElem?_set_ne (by omega)]
   ·have:=(hB k hk).2;omega
   ·exact List.getElem?_set_self (by simpa using h1)
   ·rw [q01p _ _ _ _ (by omega)]
    exact q07o _ _ _ (by simpa using hh)
theorem q0a2 (l:List Note) (s:Spot) (o:spotB l s) (H:Heap):clD EE (.p (.fn 260)) [q00b l,vSpot s] H=some (q00v (q05q l s),none):=by
 have al:=fun H=>q0dc l s H
 obtain ⟨H1,hH1⟩: ∃H1,H1=H++[DObj.box [.nils],.box [q00b l],.box (cSpot s)]:=⟨_,rfl⟩
 have hl1:H1.length=H.length+3:=by simp [hH1]
 have e0:lsR H.length 0 [H.length,H.length+3] (H1++[q06a .ready H.length]):=by
  refine ⟨rfl,rfl,by simp [hl1],?_,?_⟩
  ·rw [←hl1];simp
  ·simp [hH1,List.append_assoc]
 obtain ⟨r,h1,A',hk,hd,hs,hR⟩:=q0a5 l s o.l1 o.l2 o.b o.n0 o.n1 o.li (H.length+1) (H.length+3) (q0Bb (q00j l s) H.length) e0 (by simp [hl1]) (by simp [hH1,List.append_assoc])
  (by rw [show H.length+1+1=H.length+2 by omega];simp [hH1,List.append_assoc]) (by simp) (by simp;omega)
 have hds:(dsOf r).foldr (addD H.length) []=[]:=q0bt fun k hk=>by
  rcases hd k hk with h|h
  ·simp at h;omega
  ·simp [hl1] at h;omega
 rw [q002 _ _ _ _ _ _ (noP _) fn260]
 have hv:(∃f,allV (H.length+1)= .p (.fn f))∨ ∃f u v,allV (H.length+1)= .fn (.func f) u v:= .inr ⟨_,_,_,rfl⟩
 have hloop:q06a .ready H.length= .loop .ready (outE [(4,.ptr H.length 0),(8,allV (H.length+1))]) [9] q0Vt q0Vu:=rfl
 rw [hloop,←hl1] at h1
 rw [hloop] at hR
 have fin: ∀ {st e ps' a' b'},(hpOf (H1++[DObj.loop .ready (outE [(4,.ptr H.length 0),(8,allV (H.length+1))]) [9] q0Vt q0Vu]) r)[H.length+3]? =some (.loop st e ps' a' b')→st≠ .busy→
   evD EE (.rangeFunc (.t 8) [9] q0Vt q0Vu) ⟨[(4,.ptr H.length 0),(8,allV (H.length+1))],[],H++[DObj.box [.nils],.box [q00b l],.box (cSpot s)],H.length,[]⟩=
    some (exSt st,⟨[(4,.ptr H.length 0),(8,allV (H.length+1))],[],(hpOf (H1++[DObj.loop .ready (outE [(4,.ptr H.length 0),(8,allV (H.length+1))]) [9] q0Vt q0Vu]) r).set (H.length+3) .dead,H.length,[]⟩):=by
  intro st e ps' a' b' hq hst
  have rg:=q0n9 (env:=[(4,.ptr H.length 0),(8,allV (H.length+1))]) (loc:=[]) (hp:=H1) (base:=H.length) (dirty:=[]) (x:= .t 8) (ps:=[9]) hv rfl h1 (by rw [hl1];exact hq) hst
  rw [hds,hl1] at rg
  rw [←hH1];exact rg
 generalize hpOf (H1++[DObj.loop .ready (outE [(4,.ptr H.length 0),(8,allV (H.length+1))]) [9] q0Vt q0Vu]) r=K at hR fin
 rcases hR with ⟨h0,-,hlt,hq,hb⟩|⟨p,v,B,hL,hr,hB,hq,hb,hlt⟩
 ·have rg:=fin hq (by simp)
  have hnil:q05q l s=[]:=by unfold q05q;rw [List.length_eq_zero_iff.1 h0];rfl
  rw [hnil]
  have b2: ∀o,Eng.boxAt (K.set (H.length+3) o) H.length=some [.nils]:=fun o=>(q01p _ _ _ _ (by omega)).trans hb
  have hlt2:=q02y hb
  have b3: ∀o cs,Eng.boxAt ((K.set (H.length+3) o).set H.length (.box cs)) H.length=some cs:=fun o cs=>q07o _ _ _ (by simpa using hlt2)
  simp [St.enter,q000,subs,q001,al,rg,exSt,b2,b3,hlt2]
 ·have rg:=fin hq (by simp)
  have hp:q05q l s=p:=by
   unfold q05q
   cases hc:q00j l s with
   |nil=>rw [hc] at hL;cases hL
   |cons x r=>rw [hc] at hL;simpa using hL
  rw [hp]
  have b2: ∀o,Eng.boxAt (K.set (H.length+3) o) H.length=some [v]:=fun o=>(q01p _ _ _ _ (by omega)).trans hb
  rcases hr with ⟨rfl,-⟩|⟨id,rfl,h2,rfl⟩
  ·simp [St.enter,q000,subs,q001,al,rg,exSt,b2]
  ·have hid:H.length≤id:=hB id (by simp)
   have ne:id≠H.length+3:=by
    rintro rfl
    unfold Eng.rowAt at h2
    rw [hq] at h2;cases h2
   have hr2: ∀o,Eng.rowAt (K.set (H.length+3) o) id=some (3,upV (p.map q00g)):=fun o=>(q05l _ _ _ _ (Ne.symm ne)).trans h2
   simp [St.enter,q000,subs,q001,al,rg,exSt,b2,hr2,hid]
section
variable {α:Type} [DecidableEq α] {E:Env} (f:FuncId) (s:Nat) (sh:List Bool) (enc:α→List PV)
theorem q0Ds (hp:E.prims f=none) (hf:E.fns f=some (eqI s sh)) (hs: ∀x,(enc x).length=s) (hagg: ∀x,aggOr true ((enc x).map .p)=some (.agg ((enc x).map .p))) (heq: ∀x y,q00h sh ((enc x).map .p) ((enc y).map .p)=some (decide (x=y)))
  (a b:List α) (hn:a.length≤9223372036854775806) (H:Heap) (id:Nat) (hr:Eng.rowAt H id=some (s,upV (a.map enc))):clD E (.p (.fn f)) [.row id a.length 0 a.length,.p (.sl (b.map enc))] H=some (vB (decide (a=b)),none):=by
 rw [q002 E f _ _ _ _ hp hf]
 by_cases hl:a.length=b.length
 ·have key:evD E (eqL s sh) (eqE (.row id a.length 0 a.length) (.p (.sl (b.map enc))) a.length H H.length 0)=some (rng (step2 (fun x y=>decide (x=y)) b (eqBad H H.length)) (fun _=>eqX (.row id a.length 0 a.length) (.p (.sl (b.map enc))) a.length H H.length) () 0 a):=by
   unfold eqL
   refine q013 a (fun (_:Unit) i=>eqE (.row id a.length 0 a.length) (.p (.sl (b.map enc))) a.length H H.length i) (fun _ _=>True) _ (fun _=>eqX (.row id a.length 0 a.length) (.p (.sl (b.map enc))) a.length H H.length) (fun _ _=>rfl) ?_ ?_ () 0 trivial (Nat.zero_le _)
   ·rintro _ i x-hx
    have hlt:=(List.getElem?_eq_some_iff.1 hx).1
    have hy:b[i]? =some (b[i]'(by omega)):=List.getElem?_eq_getElem (by omega)
    generalize (b[i]'(by omega))=y at hy
    have w:IntKind.i64.wrap ((i:Int)+1)=((i+1:Nat):Int):=w64 (by omega) (by omega)
    have hix:=fun k=>q01f H id a.length 0 a.length s k i
    have hg2:(upV (a.map enc))[i]? =some ((enc x).map .p):=by simp [upV,hx]
    have hg: ∀h,(upV (a.map enc))[i]'h=(enc x).map .p:=fun h=>by rw [List.getElem?_eq_getElem h] at hg2;exact Option.some.inj hg2
    have hiy:=fun H k=>q00c H enc (k:=k) (s:=s) hy (hs y)
    have hsub: ∀x,subs ((enc x).map V.p) 0 s=some ((enc x).map V.p):=fun x=>by simp [subs,hs x,List.take_of_length_le]
    rw [q04n hy]
    by_cases hxy:x=y
    ·simp [eqE,hlt,hix,hr,hg,hiy,hsub,hagg,heq,hxy,w]
    ·simp [eqE,eqBad,hlt,hix,hr,hg,hiy,hsub,hagg,heq,hxy]
   ·rintro _-
    simp [eqE,eqX]
  rw [q05w (fun x y=>decide (x=y)) b (eqBad H H.length) (eqX (.row id a.length 0 a.length) (.p (.sl (b.map enc))) a.length H H.length) a 0 (by omega),List.drop_zero,q06s a b hl] at key
  have hl':(a.length:Int)=b.length:=by omega
  by_cases h:a=b
  ·rw [if_pos (by simpa using h)] at key
   subst h
   simp [eqE,eqX] at key
   simp [St.enter,q000,key]
  ·rw [if_neg (by simpa using h)] at key
   have hl2:(b.length:Int)=a.length:=hl'.symm
   simp [eqE,eqBad] at key
   simp [St.enter,q000,hl2,key,h]
 ·have hl': ¬(a.length:Int)=b.length:=by omega
  have h:a≠b:=by rintro rfl;exact hl rfl
  simp [St.enter,q000,hl',h]
end
def syEnv (h:Nat):List (Nat×V):=[(5,.ptr h 0),(6,.ptr (h+1) 0),(10,allV (h+2))]
def q06b (st:LSt) (h:Nat):DObj:= .loop st (syEnv h) [11] q0Vq q0Vr
def syR (L:List (List Piece)) (x:List Piece) (h:Nat) (i:Nat) (A:List Nat) (H:Heap):Prop:=
 A=[h,h+1,h+4]∧h+4<H.length∧H[h+4]? =some (q06b .ready h)∧Eng.boxAt H h=some [q00v x]∧Eng.boxAt H (h+1)=some [vB false]∧ ∀k p,k<i→L[k]? =some p→p≠x
def syF (L:List (List Piece)) (x:List Piece) (h:Nat) (A:List Nat) (H:Heap):Prop:=
 A=[h,h+1,h+4]∧h+4<H.length∧H[h+4]? =some (q06b (.done .ret) h)∧Eng.boxAt H (h+1)=some [vB true]∧x∈L
theorem q0ww (p x:List Piece) (v:V) (H:Heap) (B:List Nat) (h:repP p v H B) (hp:p.length≤1000000):clD EE (.p (.fn 198)) [v,q00v x] H=some (vB (decide (p=x)),none):=by
 rcases h with ⟨rfl,-⟩|⟨id,rfl,hr,-⟩
 ·exact q0bn p x hp H
 ·rw [q002 _ _ _ _ _ _ (noP _) fn198]
  have:=q0Ds _ 3 _ q00g (noP _) q0d9 (fun _=>rfl) (fun _=>rfl) q083 p x (by omega) H id hr
  simp [St.enter,q000,this]
theorem q0Bc (L:List (List Piece)) (hL: ∀p∈L,p.length≤1000000) (x:List Piece) (h:Nat):Eats repP (h+4) L (syR L x h) (syF L x h):=by
 refine ⟨?_,?_,?_⟩
 ·rintro i A H K ⟨rfl,h1,h2,h3,h4,h5⟩ g
  exact ⟨rfl,by have:=g.1;omega,by rw [g.2 _ (by simp)];exact h2,g.box h3 (by simp),g.box h4 (by simp),h5⟩
 ·rintro i A H ⟨rfl,h1,h2,h3,h4,h5⟩ k hk
  have:=q02y h3
  simp at hk;omega
 ·rintro i A H p v B hLi ⟨rfl,h1,h2,h3,h4,h5⟩ hr hB
  obtain ⟨o1,o2,o3,o4,o5,o6⟩:=q0lp hr
  have hh:=q02y h4
  have b2: ∀o,Eng.boxAt (H.set (h+4) o) h=some [q00v x]:=fun o=>(q01p H (h+4) h o (by omega)).trans h3
  have b3: ∀o,Eng.boxAt (H.set (h+4) o) (h+1)=some [vB false]:=fun o=>(q01p H (h+4) (h+1) o (by omega)).trans h4
  have hpm:=List.mem_of_getElem? hLi
  have sm:=fun o=>q0ww p x v (H.set (h+4) o) B (q07p hr (Stay.set _ _ _ _ (fun hk=>(hB _ hk).1 (by simp)))) (hL p hpm)
  by_cases c:p=x
  ·refine ⟨false,((H.set (h+4) (q06b .busy h)).set (h+1) (.box [vB true])).set (h+4) (q06b (.done .ret) h),[h+1,h+4],[h,h+1,h+4],?_,by simp,?_,fun k hk=> .inl (by simp at hk⊢;omega),fun k hk=> .inl hk,(fun e=>nomatch e),fun _=> ?_⟩
   ·refine q0e5 h2 rfl (env1:=[(5,.ptr h 0),(6,.ptr (h+1) 0),(7,v)]) (loc1:=[]) ?_ (x:= .ret) (env2:=[(6,.ptr (h+1) 0)]) (loc2:=[]) (d2:=[h+1,h+4]) ?_ (by rw [List.getElem?_set_ne (by omega)];exact List.getElem?_set_self h1)
    ·simp [syEnv,q0Vq]
    ·simp [q0Vr,b2,b3,sm,c,o5,o6,q001,subs,hh]
     rfl
   ·exact ((Keep.set _ _ _ _ (.inl (by simp))).trans (Keep.set [h,h+1,h+4] _ _ _ (.inl (by simp))) (fun k hk=> .inl hk)).trans (Keep.set [h,h+1,h+4] _ _ _ (.inl (by simp))) (fun k hk=> .inl hk)
   ·refine ⟨rfl,by simpa using h1,List.getElem?_set_self (by simpa using h1),?_,c▸hpm⟩
    rw [q01p _ _ _ _ (by omega)]
    exact q07o _ _ _ (by simpa using hh)
  ·refine ⟨true,(H.set (h+4) (q06b .busy h)).set (h+4) (q06b .ready h),[h+4],[h,h+1,h+4],?_,by simp,?_,fun k hk=> .inl (by simp at hk⊢;omega),fun k hk=> .inl hk,fun _=> ?_,(fun e=>nomatch e)⟩
   ·refine q0e5 h2 rfl (env1:=[(5,.ptr h 0),(6,.ptr (h+1) 0),(7,v)]) (loc1:=[]) ?_ (x:= .normal) (env2:=[(6,.ptr (h+1) 0),(14,vB false)]) (loc2:=[]) (d2:=[h+4]) ?_ (List.getElem?_set_self h1)
    ·simp [syEnv,q0Vq]
    ·simp [q0Vr,b2,b3,sm,c,o5,o6,q001,subs,hh]
     rfl
   ·exact (Keep.set _ _ _ _ (.inl (by simp))).trans (Keep.set [h,h+1,h+4] _ _ _ (.inl (by simp))) (fun k hk=> .inl hk)
   ·refine ⟨rfl,by simpa using h1,List.getElem?_set_self (by simpa using h1),?_,?_,fun k p' hk hp'=> ?_⟩
    ·rw [q01p _ _ _ _ (by omega)];exact b2 _
    ·rw [q01p _ _ _ _ (by omega)];exact b3 _
    ·by_cases e:k=i
     ·subst e;rw [hLi] at hp';cases hp';exact c
     ·exact h5 k p' (by omega) hp'
theorem q0d0 {l:List Note} {s:Spot} (o:spotB l s): ∀p∈q00j l s,p.length≤1000000:=by
 intro p hp
 have wl: ∀(k:Nat) (a b:Int),(q01j l k a b).length=k:=by
  intro k
  induction k with
  |zero=>intro a b;rfl
  |succ k ih=>intro a b;simp [q01j,ih]
 have hn:openN l s≤1000000:=by
  rw [q08w o.b o.n0 o.li]
  have:=o.b;have:=o.n0;have:=o.l1;omega
 unfold q00j at hp
 rcases List.mem_append.1 hp with h|h
 ·split at h
  ·simp at h;subst h;simp
  ·cases h
 ·split at h
  ·cases h
  ·obtain ⟨t,-,rfl⟩:=List.mem_map.1 h
   unfold oneP
   rw [List.length_append,wl]
   simp only [List.length_cons,List.length_nil]
   omega
theorem q0d1 (l:List Note) (s:Spot) (o:spotB l s) (x:List Piece) (H:Heap):clD EE (.p (.fn 186)) [q00b l,vSpot s,q00v x] H=some (vB (mayPc l s x),none):=by
 have al:=fun H=>q0dc l s H
 obtain ⟨H1,hH1⟩: ∃H1,H1=H++[DObj.box [q00v x],.box [vB false],.box [q00b l],.box (cSpot s)]:=⟨_,rfl⟩
 have hl1:H1.length=H.length+4:=by simp [hH1]
 have e0:syR (q00j l s) x H.length 0 [H.length,H.length+1,H.length+4] (H1++[q06b .ready H.length]):=by
  refine ⟨rfl,by simp [hl1],?_,?_,?_,fun k p hk=>by omega⟩
  ·rw [←hl1];simp
  ·simp [hH1,List.append_assoc]
  ·simp [hH1,List.append_assoc]
 obtain ⟨r,h1,A',hk,hd,hs,hR⟩:=q0a5 l s o.l1 o.l2 o.b o.n0 o.n1 o.li (H.length+2) (H.length+4) (q0Bc (q00j l s) (q0d0 o) x H.length) e0 (by simp [hl1]) (by simp [hH1,List.append_assoc])
  (by rw [show H.length+2+1=H.length+3 by omega];simp [hH1,List.append_assoc]) (by simp) (by simp;omega)
 have hds:(dsOf r).foldr (addD H.length) []=[]:=q0bt fun k hk=>by
  rcases hd k hk with h|h
  ·simp at h;omega
  ·simp [hl1] at h;omega
 rw [q002 _ _ _ _ _ _ (noP _) fn186]
 have hv:(∃f,allV (H.length+2)= .p (.fn f))∨ ∃f u v,allV (H.length+2)= .fn (.func f) u v:= .inr ⟨_,_,_,rfl⟩
 have hloop:q06b .ready H.length= .loop .ready (outE [(5,.ptr H.length 0),(6,.ptr (H.length+1) 0),(10,allV (H.length+2))]) [11] q0Vq q0Vr:=rfl
 rw [hloop,←hl1] at h1
 rw [hloop] at hR
 have fin: ∀ {st e ps' a' b'},(hpOf (H1++[DObj.loop .ready (outE [(5,.ptr H.length 0),(6,.ptr (H.length+1) 0),(10,allV (H.length+2))]) [11] q0Vq q0Vr]) r)[H.length+4]? =some (.loop st e ps' a' b')→st≠ .busy→
   evD EE (.rangeFunc (.t 10) [11] q0Vq q0Vr) ⟨[(5,.ptr H.length 0),(6,.ptr (H.length+1) 0),(10,allV (H.length+2))],[],H++[DObj.box [q00v x],.box [vB false],.box [q00b l],.box (cSpot s)],H.length,[]⟩=
    some (exSt st,⟨[(5,.ptr H.length 0),(6,.ptr (H.length+1) 0),(10,allV (H.length+2))],[],(hpOf (H1++[DObj.loop .ready (outE [(5,.ptr H.length 0),(6,.ptr (H.length+1) 0),(10,allV (H.length+2))]) [11] q0Vq q0Vr]) r).set (H.length+4) .dead,H.length,[]⟩):=by
  intro st e ps' a' b' hq hst
  have rg:=q0n9 (env:=[(5,.ptr H.length 0),(6,.ptr (H.length+1) 0),(10,allV (H.length+2))]) (loc:=[]) (hp:=H1) (base:=H.length) (dirty:=[]) (x:= .t 10) (ps:=[11]) hv rfl h1 (by rw [hl1];exact hq) hst
  rw [hds,hl1] at rg
  rw [←hH1];exact rg
 generalize hpOf (H1++[DObj.loop .ready (outE [(5,.ptr H.length 0),(6,.ptr (H.length+1) 0),(10,allV (H.length+2))]) [11] q0Vq q0Vr]) r=K at hR fin
 rcases hR with ⟨-,hlt,hq,-,hb,hno⟩|⟨-,hlt,hq,hb,hin⟩
 ·have rg:=fin hq (by simp)
  have hm:mayPc l s x=false:=by
   cases e:mayPc l s x with
   |false=>rfl
   |true=>
    have:=(q0ja _ _ _).1 e
    obtain ⟨k,hk,rfl⟩:=List.mem_iff_getElem.1 this
    exact absurd rfl (hno k _ hk (List.getElem?_eq_getElem hk))
  rw [hm]
  have hlt2:=q02y hb
  have b2: ∀o,Eng.boxAt (K.set (H.length+4) o) (H.length+1)=some [vB false]:=fun o=>(q01p _ _ _ _ (by omega)).trans hb
  have b3: ∀o cs,Eng.boxAt ((K.set (H.length+4) o).set (H.length+1) (.box cs)) (H.length+1)=some cs:=fun o cs=>q07o _ _ _ (by simpa using hlt2)
  simp [St.enter,q000,subs,q001,al,rg,exSt,b2,b3,hlt2]
 ·have rg:=fin hq (by simp)
  rw [(q0ja _ _ _).2 hin]
  have b2: ∀o,Eng.boxAt (K.set (H.length+4) o) (H.length+1)=some [vB true]:=fun o=>(q01p _ _ _ _ (by omega)).trans hb
  simp [St.enter,q000,subs,q001,al,rg,exSt,b2]
def q03i (j:Job) (s:Stt) (n:C3):Option Colm:=
 if s.h.a<n.a then some ⟨2,s.at_,s.at_,[],takeL j.floats s.h ⟨1,0,0⟩,[]⟩
 else if s.h.b<n.b then some ⟨2,s.at_,s.at_,[],takeL j.floats s.h ⟨0,1,0⟩,[]⟩
 else if s.h.c<n.c then some ⟨2,s.at_,s.at_,[],takeL j.floats s.h ⟨0,0,1⟩,[]⟩
 else none
def openS (j:Job) (s:Stt):Bool:=q01g j s&& !doneS j s
def textC (j:Job) (s:Stt):Option Colm:=
 if openS j s=true∧q022 j s=true∧s.at_<j.items.length then some ⟨1,s.at_,q015 j.items s.at_,q05q j.notes (spotS j s (q015 j.items s.at_)),[],[]⟩ else none
def noteC (j:Job) (s:Stt):Option Colm:=
 if openS j s=true∧s.at_=j.items.length∧s.note≠j.notes.length then some ⟨3,s.at_,s.at_,q05q j.notes (q02h (spotS j s s.at_)),[],[]⟩ else none
def dueC (j:Job) (s:Stt):Option Colm:=if openS j s=true then q03i j s (dueF j s.at_) else none
def q08m (j:Job) (s:Stt):Option Colm:=if openS j s=true then q03i j s (q01i j s.at_) else none
def q04r (j:Job) (s:Stt):Option Colm:=(textC j s).or ((dueC j s).or ((noteC j s).or (q08m j s)))
def q0b1 (j:Job) (s:Stt) (c:Colm):C3:=addC (addC s.h (ofL j.floats c.top)) (ofL j.floats c.bot)
def setF (j:Job) (s:Stt) (c:Colm) (to:Int):Bool:=
 nextQ j.floats s.h c.top&&nextQ j.floats (addC s.h (ofL j.floats c.top)) c.bot&&inC (q0b1 j s c) (q01i j to)
def fitsC (j:Job) (c:Colm):Bool:=fitT j.g j.floats c.top&&fitB j.g j.floats c.bot
def textE (j:Job) (s:Stt) (c:Colm):Int:=
 if q022 j s=false then 18 else if (brkF j.items s.at_).contains c.to=false then 14
 else if mayPc j.notes (spotS j s c.to) c.notes=false then 15 else if setF j s c c.to=false∨fitsC j c=false then 16 else 0
def q0b2 (j:Job) (s:Stt) (c:Colm):Int:=
 if c.notes≠[] then 15 else if c.top=[]∨8<c.top.length∨c.bot≠[]∨setF j s c s.at_=false∨(q02r j s c).over=true then 16 else 0
def noteE (j:Job) (s:Stt) (c:Colm):Int:=
 if c.notes=[]∨mayPc j.notes (q02h (spotS j s s.at_)) c.notes=false then 15 else if c.top≠[]∨c.bot≠[] then 16 else 0
def endE (j:Job) (s:Stt) (c:Colm):Bool:=
 decide (openS j s=false∨c.k<1∨3<c.k∨c.frm≠s.at_∨(c.k=1∧s.at_=j.items.length)∨(c.k≠1∧c.to≠s.at_)∨(c.k=3∧s.at_≠j.items.length))
def kindE (j:Job) (s:Stt) (c:Colm):Int:=if c.k=1 then textE j s c else if c.k=2 then q0b2 j s c else noteE j s c
def q014:Colm:=⟨0,0,0,[],[],[]⟩
def q06c (j:Job) (s:Stt) (c:Colm):Int:=
 if endE j s c=true then 19 else if kindE j s c≠0 then kindE j s c
 else if (q02r j s c).over=true∧sameC c ((q04r j s).getD q014)=false then 17 else 0
theorem q10m (fs:List Float): ∀(xs:List Int) (s:C3),leC s (xs.foldl (ofS fs) s)∧(xs.foldl (ofS fs) s).a≤s.a+xs.length∧(xs.foldl (ofS fs) s).b≤s.b+xs.length∧(xs.foldl (ofS fs) s).c≤s.c+xs.length
 |[],s=>by simp [leC]
 |x::r,s=>by
  have h:=q10m fs r (ofS fs s x)
  have e:leC s (ofS fs s x)∧(ofS fs s x).a≤s.a+1∧(ofS fs s x).b≤s.b+1∧(ofS fs s x).c≤s.c+1:=by
   unfold ofS bump leC
   (repeat' split)<;>(try simp only)<;>omega
  simp only [List.foldl_cons,List.length_cons]
  unfold leC at*
  push_cast
  omega
theorem q0Zj (fs:List Float) (xs:List Int):leC zeroC (ofL fs xs)∧(ofL fs xs).a≤xs.length∧(ofL fs xs).b≤xs.length∧(ofL fs xs).c≤xs.length:=by
 have:=q10m fs xs ⟨0,0,0⟩
 unfold ofL
 unfold leC zeroC at*
 simp only at*
 omega
theorem q119 {x y:C3} (hx:leC zeroC x) (hy:leC zeroC y) (bx:x.a≤1000000∧x.b≤1000000∧x.c≤1000000):leC x (addC x y):=by
 unfold leC zeroC addC zipF held big at*
 simp only at*
 omega
theorem q0Yw {a b q:Int} (ha:0≤a) (hb:0≤b) (h:held (held a (-big) big+held b (-big) big) (-big) big≤q) (hq:q≤1000000):a≤held (held a (-big) big+held b (-big) big) (-big) big:=by
 unfold held big at*
 omega
theorem q0Zt {x y q:C3} (hx:leC zeroC x) (hy:leC zeroC y) (h:leC (addC x y) q) (hq:q.a≤1000000∧q.b≤1000000∧q.c≤1000000):leC x (addC x y):=
 ⟨q0Yw hx.1 hy.1 h.1 hq.1,q0Yw hx.2.1 hy.2.1 h.2.1 hq.2.1,q0Yw hx.2.2 hy.2.2 h.2.2 hq.2.2⟩
theorem q0Zk {a:Int} (ha:0≤a) (hq:a≤1000000):held (held a (-big) big+held 0 (-big) big) (-big) big=a:=by
 unfold held big at*
 omega
theorem q0Zl {x:C3} (h:leC zeroC x) (b:x.a≤1000000∧x.b≤1000000∧x.c≤1000000):addC x zC=x:=by
 obtain ⟨h1,h2,h3⟩:=h
 unfold addC zipF
 rw [show (zC).a=0 from rfl,show (zC).b=0 from rfl,show (zC).c=0 from rfl,q0Zk h1 b.1,q0Zk h2 b.2.1,q0Zk h3 b.2.2]
theorem q0wx {j:Job} (w:okW j) (n:Int):leC zeroC (q01i j n)∧(q01i j n).a≤1000000∧(q01i j n).b≤1000000∧(q01i j n).c≤1000000:=by
 unfold q01i
 have h:=q0ix j.floats (j.items.take (putN j.items n))
 have hl:((j.items.take (putN j.items n)).length:Int)≤1000000:=by
  have:=w.n1
  rw [List.length_take]
  omega
 unfold leC zeroC
 simp only
 omega
theorem q0Y7 {x:C3} (h:leC zeroC x) (b:x.a≤1000000∧x.b≤1000000∧x.c≤1000000):sumC x=x.a+x.b+x.c:=by
 unfold sumC held big leC zeroC at*
 simp only at*
 omega
theorem q0Bd {l:List Item} {a t:Int} (h0:0≤a) (h:t∈brkF l a):a<t∧t≤l.length∧mayV l t=true∧t≤q010 l a:=by
 unfold brkF at h
 obtain ⟨m,hm,rfl⟩:=List.mem_map.1 h
 unfold brkN at hm
 rw [List.mem_filter,List.mem_range'] at hm
 obtain ⟨⟨i,hi,rfl⟩,h2⟩:=hm
 simp only [Bool.and_eq_true,decide_eq_true_eq] at h2
 unfold mayN at h2
 unfold pos at*
 simp only [Int.ofNat_eq_natCast]
 exact ⟨by omega,by omega,h2.2,h2.1⟩
theorem q0Yc {j:Job} {s:Stt} (r:rightP j s):q0Xw j s=s.at_+progN j.notes s.note s.line+sumC s.h:=by
 unfold q0Xw progN
 rw [if_pos ((q02k j s).2 r)]
 omega
theorem q0p6 {j:Job} {s:Stt} (r:rightP j s) (to:Int):spotS j s to=⟨s.note,s.line,q00z j to,decide (q00z j s.at_<q00z j to)⟩:=by
 unfold spotS
 rw [if_pos ((q02k j s).2 r)]
theorem q108 (l:List Item) (n:Int):trimF l (trimF l n)=trimF l n:=by
 have h:=q0Yf l n
 unfold trimF at*
 rw [h,q0Zy]
theorem q10y {l:List Item} {n:Int} (h0:0≤n) (h1:n≤l.length):n≤trimF l n:=by
 unfold trimF
 have:=q10w l (putN l n)
 have e:(putN l n:Int)=n:=by unfold putN;omega
 omega
theorem q0Yx {j:Job} (w:wfJ j) {s:Stt} (r:rightP j s) {c:Colm} {b:Int} {fr:Bool} {at':Int} (e0:nextF j.notes (spotS j s c.to) c.notes=nextF j.notes ⟨s.note,s.line,b,fr⟩ c.notes)
  (ha:at'=if c.k=1 then (trimF j.items c.to:Int) else s.at_) (hb:b=q00z j at') (hle:s.at_≤at') (ht:(trimF j.items at':Int)=at') (hle2:at'≤j.items.length) (hf:fr=false→b≤q00z j s.at_)
  (hp:c.notes∈q00j j.notes ⟨s.note,s.line,b,fr⟩) (hh:leC (q0b1 j s c) (q01i j at')):
  rightP j (nextS j s c)∧q0Xw j s+(at'-s.at_)≤q0Xw j (nextS j s c)∧(c.notes≠[]∨s.at_<at'∨sumC s.h<sumC (q0b1 j s c)→q0Xw j s<q0Xw j (nextS j s c)):=by
 have hr:=(q02k j s).2 r
 obtain ⟨g1,g2,g3⟩:=q10l w r (p:=c.notes) (b:=b) (fr:=fr) (by rw [hb];exact q106 j hle) (by rw [hb];exact q03o w.w _) hf hp
 have e:nextS j s c=⟨at',min (s.col+1) j.g.cols,(nextF j.notes ⟨s.note,s.line,b,fr⟩ c.notes).1,(nextF j.notes ⟨s.note,s.line,b,fr⟩ c.notes).2,q0b1 j s c⟩:=by
  unfold nextS
  rw [if_pos hr,e0,←ha];rfl
 have bd:=q0wx w.w s.at_
 have bd2:=q0wx w.w at'
 have o1:=q0Zj j.floats c.top
 have o2:=q0Zj j.floats c.bot
 have hb1:s.h.a≤1000000∧s.h.b≤1000000∧s.h.c≤1000000:=by
  have:=r.h1
  unfold leC at this
  omega
 have m1:leC s.h (addC s.h (ofL j.floats c.top)):=q119 r.h0 o1.1 hb1
 have z1:leC zeroC (addC s.h (ofL j.floats c.top)):=q0bu r.h0 m1
 have m2:leC (addC s.h (ofL j.floats c.top)) (q0b1 j s c):=q0Zt z1 o2.1 hh ⟨bd2.2.1,bd2.2.2.1,bd2.2.2.2⟩
 have z2:=q0bu z1 m2
 have hs2:(q0b1 j s c).a≤1000000∧(q0b1 j s c).b≤1000000∧(q0b1 j s c).c≤1000000:=by
  unfold leC at hh;omega
 have s1:=q0Y7 r.h0 hb1
 have s2:=q0Y7 z2 hs2
 have mm:=q0bu m1 m2
 have rn:rightP j (nextS j s c):=by
  rw [e]
  refine ⟨by have:=r.at0;simp only;omega,hle2,ht,by have:=r.col0;have:=w.cols;simp only;omega,by simp only;omega,?_,z2,hh⟩
  rw [q0od]
  simp only
  rcases g1 with ⟨a,b'⟩|⟨a,b',c',d,f⟩
  ·exact .inl ⟨a,by rw [b',hb]⟩
  ·exact .inr ⟨a,by rw [b',hb],c',d,f⟩
 have q1:=q0Yc r
 have q2:=q0Yc rn
 rw [e] at q2
 rw [e] at rn⊢
 simp only at q2
 refine ⟨rn,?_,?_⟩
 ·unfold leC at mm;omega
 ·intro h
  unfold leC at mm
  rcases h with h|h|h
  ·have:=g3 h;omega
  ·omega
  ·omega
theorem q0Y1 {j:Job} (w:wfJ j) {s:Stt} {c:Colm} (h:q06c j s c=0):rightP j s∧rightP j (nextS j s c)∧q0Xw j s<q0Xw j (nextS j s c):=by
 unfold q06c at h
 by_cases he:endE j s c=true
 ·rw [if_pos he] at h;cases h
 rw [if_neg he] at h
 by_cases hk:kindE j s c≠0
 ·rw [if_pos hk] at h;exact absurd h hk
 have hk:kindE j s c=0:=by omega
 unfold endE at he
 simp only [decide_eq_true_eq,not_or,not_and,Bool.not_eq_false,Int.not_lt] at he
 obtain ⟨e1,e2,e3,e4,e5,e6,e7⟩:=he
 unfold openS at e1
 simp only [Bool.and_eq_true] at e1
 have r:=(q02k j s).1 e1.1
 refine ⟨r,?_⟩
 unfold kindE at hk
 by_cases k1:c.k=1
 ·rw [if_pos k1] at hk
  unfold textE at hk
  split at hk
  ·cases hk
  split at hk
  ·cases hk
  split at hk
  ·cases hk
  split at hk
  ·cases hk
  rename_i f1 f2 f3 f4
  simp only [Bool.not_eq_false,not_or] at f1 f2 f3 f4
  have hm:=q0Bd r.at0 (by simpa using f2)
  have hp:=(q0ja _ _ _).1 f3
  rw [q0p6 r] at hp
  have hset:=f4.1
  unfold setF at hset
  simp only [Bool.and_eq_true,q0pw] at hset
  have hge:=q10y (l:=j.items) (n:=c.to) (by have:=r.at0;omega) hm.2.1
  have hlt:s.at_<trimF j.items c.to:=by omega
  have:=q0Yx w r (c:=c) (b:=q00z j c.to) (fr:=decide (q00z j s.at_<q00z j c.to)) (at':=trimF j.items c.to) (by rw [q0p6 r]) (by rw [if_pos k1])
   (q104 j c.to).symm (by omega) (by rw [q108]) (by have:=q0Zi j.items c.to;omega) (fun h=>by simpa using h) hp (by rw [q105];exact hset.2)
  exact ⟨this.1,this.2.2 (.inr (.inl hlt))⟩
 ·rw [if_neg k1] at hk
  have hto:=e6 k1
  by_cases k2:c.k=2
  ·rw [if_pos k2] at hk
   unfold q0b2 at hk
   split at hk
   ·cases hk
   split at hk
   ·cases hk
   rename_i f1 f2
   simp only [not_or,Bool.not_eq_false,ne_eq,Decidable.not_not] at f1 f2
   obtain ⟨f2,f3,f4,f5,f6⟩:=f2
   unfold setF at f5
   simp only [Bool.and_eq_true,q0pw] at f5
   have hp:c.notes∈q00j j.notes ⟨s.note,s.line,q00z j s.at_,false⟩:=by
    rw [f1]
    unfold q00j
    rw [if_pos (.inr rfl)];simp
   have:=q0Yx w r (c:=c) (b:=q00z j s.at_) (fr:=false) (at':=s.at_) (by rw [f1,q0Ye,q0Ye,q0p6 r]) (by rw [if_neg k1])
    rfl (Int.le_refl _) r.trim r.at1 (fun _=>Int.le_refl _) hp f5.2
   refine ⟨this.1,this.2.2 (.inr (.inr ?_))⟩
   have hn:=f5.1.1
   unfold nextQ at hn
   simp only [Bool.and_eq_true,decide_eq_true_eq] at hn
   have hz:ofL j.floats c.top≠zC:=by
    intro hz
    rw [hz,q0Ya] at hn
    exact f2 hn.2.symm
   have ok:=hn.1
   have o1:=(q0Zj j.floats c.top).1
   have bd:=q0wx w.w s.at_
   have hsm:=q0Z2 w.w.n3 ok
   have ebot:q0b1 j s c=addC (addC s.h (ofL j.floats c.top)) zC:=by unfold q0b1;rw [f4];rfl
   have hh:=f5.2
   have h0:=r.h0
   have h1:=r.h1
   rw [hsm] at ebot
   have hz1:leC zeroC (plus s.h (ofL j.floats c.top)):=by
    have h0:=r.h0
    unfold leC zeroC plus at*
    simp only at*
    omega
   have hup:=q0Zt (y:=zC) hz1 (q0e6 _) (ebot▸f5.2) ⟨bd.2.1,bd.2.2.1,bd.2.2.2⟩
   have hle:=q0bu hup (ebot▸f5.2)
   have hs:(plus s.h (ofL j.floats c.top)).a≤1000000∧(plus s.h (ofL j.floats c.top)).b≤1000000∧(plus s.h (ofL j.floats c.top)).c≤1000000:=by
    unfold leC at hle;omega
   rw [ebot,q0Zl hz1 hs,q0Y7 hz1 hs,q0Y7 r.h0 (by have:=r.h1;unfold leC at this;omega)]
   have hy:0<(ofL j.floats c.top).a+(ofL j.floats c.top).b+(ofL j.floats c.top).c:=by
    have: ¬((ofL j.floats c.top).a=0∧(ofL j.floats c.top).b=0∧(ofL j.floats c.top).c=0):=fun h=>hz (by
     revert h
     generalize ofL j.floats c.top=y
     obtain ⟨a,b,d⟩:=y
     rintro ⟨rfl,rfl,rfl⟩
     rfl)
    unfold leC zeroC at o1
    simp only at o1
    omega
   unfold plus
   simp only
   omega
  ·rw [if_neg k2] at hk
   unfold noteE at hk
   split at hk
   ·cases hk
   split at hk
   ·cases hk
   rename_i f1 f2
   simp only [not_or,Bool.not_eq_false,ne_eq,Decidable.not_not] at f1 f2
   have hp:=(q0ja _ _ _).1 f1.2
   rw [q0p6 r] at hp
   unfold q02h at hp
   simp only at hp
   have hh:leC (q0b1 j s c) (q01i j s.at_):=by
    have e:q0b1 j s c=addC (addC s.h zC) zC:=by unfold q0b1;rw [f2.1,f2.2];rfl
    rw [e]
    have h0:=r.h0
    have h1:=r.h1
    have bd:=q0wx w.w s.at_
    generalize s.h=x at*
    generalize q01i j s.at_=q at*
    unfold leC zeroC addC zipF held big zC at*
    simp only at*
    omega
   have e0:nextF j.notes (spotS j s c.to) c.notes=nextF j.notes ⟨s.note,s.line,q00z j s.at_,true⟩ c.notes:=by
    unfold nextF
    cases hl:c.notes.getLast? with
    |none=>exact absurd (List.getLast?_eq_none_iff.1 hl) f1.1
    |some x=>rfl
   have:=q0Yx w r (c:=c) (b:=q00z j s.at_) (fr:=true) (at':=s.at_) e0 (by rw [if_neg k1])
    rfl (Int.le_refl _) r.trim r.at1 (fun h=>by cases h) hp hh
   exact ⟨this.1,this.2.2 (.inl f1.1)⟩
theorem q0b3 {p:Nat→Bool}: ∀(k n m:Nat),n≤m→m<n+k→p m=true→seekP p k n≠ -1∧seekP p k n≤m
 |0,n,m,h1,h2,_=>by omega
 |k+1,n,m,h1,h2,h3=>by
  rw [seekP]
  by_cases q:p n=true
  ·rw [if_pos q];omega
  ·rw [if_neg q]
   have:n≠m:=fun e=>q (e▸h3)
   exact q0b3 k (n+1) m (by omega) (by omega) h3
theorem q0Be {l:List Item} (h:1≤l.length):mayN l l.length=true:=by
 unfold mayN mayV
 rw [if_neg (by omega)]
 have:q02g l (l.length:Int)=none:=by unfold q02g;rw [if_neg (by omega)]
 rw [this]
theorem q0wy {l:List Item} {n:Nat} (h1:1≤n) (h2:n≤l.length) (h:mustP l n=true):mayN l n=true:=by
 by_cases e:n=l.length
 ·subst e;exact q0Be h1
 ·have hx:l[n]? =some (l[n]'(by omega)):=List.getElem?_eq_getElem (by omega)
  unfold mustP at h
  rw [hx] at h
  unfold mayN mayV
  rw [if_neg (by omega),q06n,hx]
  simp only at h⊢
  unfold q05z at h
  simp only [Bool.and_eq_true,decide_eq_true_eq] at h
  rw [if_neg (by omega),if_pos h.1]
  unfold forbX
  simp [h.1]
  omega
theorem q0tc {l:List Item} {a:Int} (h0:0≤a) (h1:a<l.length):q015 l a∈brkF l a:=by
 have hp:(pos a:Int)=a:=by unfold pos;omega
 have hF:=q0b3 (p:=mustP l) (l.length-pos a) (pos a+1) l.length (by omega) (by omega) (by unfold mustP;rw [List.getElem?_eq_none (Nat.le_refl _)])
 have bF:=q07g (mustP l) (l.length-pos a) (pos a+1)
 change q010 l a≠ -1∧q010 l a≤_ at hF
 change q010 l a= -1∨_≤q010 l a∧q010 l a<_∧mustP l (q010 l a).toNat=true at bF
 rcases bF with bF|⟨b1,b2,b3⟩
 ·exact absurd bF hF.1
 have hm:=q0wy (n:=(q010 l a).toNat) (by omega) (by omega) b3
 have hB:=q0b3 (p:=mayN l) (l.length-pos a) (pos a+1) (q010 l a).toNat (by omega) (by omega) hm
 have bB:=q07g (mayN l) (l.length-pos a) (pos a+1)
 change q015 l a≠ -1∧q015 l a≤_ at hB
 change q015 l a= -1∨_≤q015 l a∧q015 l a<_∧mayN l (q015 l a).toNat=true at bB
 rcases bB with bB|⟨c1,c2,c3⟩
 ·exact absurd bB hB.1
 unfold brkF
 refine List.mem_map.2 ⟨(q015 l a).toNat,?_,by simp only [Int.ofNat_eq_natCast];omega⟩
 unfold brkN
 rw [List.mem_filter,List.mem_range']
 refine ⟨⟨(q015 l a).toNat-(pos a+1),by omega,by omega⟩,?_⟩
 simp only [Bool.and_eq_true,decide_eq_true_eq]
 exact ⟨by omega,c3⟩
theorem q0Zc (fs:List Float) (h:C3) (g0:leC zeroC h) (g1:leC h (allC fs)):okT fs h zC:=by
 unfold okT okU leC zeroC allC zC at*
 simp only at*
 omega
theorem q0hy {j:Job} (w:wfJ j) {s:Stt} (r:rightP j s):leC s.h (allC j.floats):=q0bu r.h1 (q0jb w.six _)
theorem q10o {j:Job} (w:wfJ j) {s:Stt} (r:rightP j s) {c:Colm} (ht:c.top=[]) (hb:c.bot=[]) {to:Int} (h:s.at_≤to):setF j s c to=true:=by
 have ok:=q0Zc _ _ r.h0 (q0hy w r)
 have bd:=q0wx w.w s.at_
 have hs:s.h.a≤1000000∧s.h.b≤1000000∧s.h.c≤1000000:=by have:=r.h1;unfold leC at this;omega
 have ez:=q0Zl r.h0 hs
 have e0:ofL j.floats []=zC:=rfl
 have hn:nextQ j.floats s.h []=true:=by
  unfold nextQ
  rw [e0,q0Ya]
  simp [ok]
 unfold setF q0b1
 rw [ht,hb,e0,ez,ez,hn]
 simp only [Bool.true_and,q0pw]
 exact q0bu r.h1 (q107 j h)
theorem q109 {j:Job} (w:wfJ j) {c:Colm} (ht:c.top=[]) (hb:c.bot=[]):fitsC j c=true:=by
 have m:=w.many
 unfold fitsC fitT fitB fitsF
 rw [ht,hb]
 have e:highQ j.floats [] j.g.sep=0:=rfl
 rw [e]
 simp [m.1,m.2.1,m.2.2.1,m.2.2.2]
theorem q113 {j:Job} (w:wfJ j) {s:Stt} (r:rightP j s) {y:C3} (hy0:leC zeroC y) (hy:leC (plus s.h y) (q01i j s.at_)) (hz:leC s.h (plus s.h y)) {c:Colm} (ht:c.top=takeL j.floats s.h y) (hb:c.bot=[]):
  setF j s c s.at_=true∧okT j.floats s.h y:=by
 have ok:okT j.floats s.h y:=by
  have h0:=r.h0
  have h1:=q0bu hy (q0jb w.six _)
  unfold okT okU leC zeroC allC plus at*
  simp only at*
  omega
 have bd:=q0wx w.w s.at_
 have e1:ofL j.floats c.top=y:=by rw [ht,q0Zg _ _ _ ok]
 have e0:ofL j.floats []=zC:=rfl
 have ep:addC s.h y=plus s.h y:=q0Z2 w.w.n3 ok
 have hp0:leC zeroC (plus s.h y):=q0bu r.h0 hz
 have hp1:(plus s.h y).a≤1000000∧(plus s.h y).b≤1000000∧(plus s.h y).c≤1000000:=by
  have:=hy
  unfold leC at this;omega
 have ok2:=q0Zc _ _ hp0 (q0bu hy (q0jb w.six _))
 refine ⟨?_,ok⟩
 unfold setF q0b1
 rw [e1,hb,e0,ep,q0Zl hp0 hp1]
 simp only [Bool.and_eq_true,q0pw]
 refine ⟨⟨?_,?_⟩,hy⟩
 ·rw [ht];exact q10h _ _ _ ok
 ·unfold nextQ
  rw [e0,q0Ya]
  simp [ok2]
theorem q0Zu {j:Job} (w:wfJ j) {s:Stt} (r:rightP j s) {c:Colm} (hk:c.k=2) (hn:c.notes=[]) {x:Int} (ht:c.top=[x]):(q02r j s c).over=false:=by
 unfold q02r
 rw [if_pos ((q02k j s).2 r),if_neg (by omega)]
 have hf:fullC j c=false:=by unfold fullC;rw [hn];simp
 rw [hf]
 simp only [Bool.false_or,decide_eq_false_iff_not,Int.not_lt]
 unfold roomC q05b q05p
 rw [if_neg (by omega),if_pos hk,hn]
 have hh:highP j.notes [] j.g.rule=0:=rfl
 rw [hh]
 have hi:j.g.first≤highS j s∧highS j s≤4294967296:=by
  have:=w.high
  unfold highS
  rw [if_pos ((q02k j s).2 r)]
  split<;>omega
 have sp:=w.sep
 have key:highQ j.floats c.top j.g.sep=0∨(∃f∈j.floats,highQ j.floats c.top j.g.sep=hz (0+hz f.h+hz j.g.sep)):=by
  rw [ht]
  unfold highQ
  simp only [List.foldl_cons,List.foldl_nil,hiS]
  unfold atF
  by_cases q:0≤x∧x<j.floats.length
  ·rw [if_pos q]
   exact .inr ⟨_,q05a q.1 q.2,rfl⟩
  ·rw [if_neg q];exact .inl rfl
 have hi0:0≤highS j s:=by
  have:=w.high
  rcases key with _|⟨f,hf,_⟩
  ·unfold highS;rw [if_pos ((q02k j s).2 r)];have:=w.hi0;split<;>omega
  ·have:=w.fl f hf;omega
 rw [Int.sub_zero,w64 (n:=highS j s) (by omega) (by omega)]
 rcases key with e|⟨f,hf,e⟩
 ·rw [if_pos e,Int.sub_zero,w64 (by omega) (by omega)];exact hi0
 ·have hb:=w.fl f hf
  rw [e]
  have e1:hz (0+hz f.h+hz j.g.sep)=f.h+j.g.sep:=by unfold hz fz;omega
  rw [e1]
  have e2:min (max j.g.sep 0) 1125899906842624=j.g.sep:=by omega
  rw [e2]
  split
  ·rw [Int.sub_zero,w64 (by omega) (by omega)];exact hi0
  ·rw [show f.h+j.g.sep-j.g.sep=f.h by omega,w64 (n:=f.h) (by omega) (by omega),w64 (by omega) (by omega)]
   omega
theorem q04a (j:Job) (s:Stt):openS j s=true↔rightP j s∧doneS j s=false:=by
 unfold openS
 rw [Bool.and_eq_true,q02k,Bool.not_eq_true']
theorem q0Y8 {j:Job} {s:Stt} {c:Colm} (he:endE j s c=false) (hk:kindE j s c=0) (ho:(q02r j s c).over=false∨q04r j s=some c):q06c j s c=0:=by
 unfold q06c
 rw [if_neg (by rw [he];simp),if_neg (by omega),if_neg]
 rintro ⟨h1,h2⟩
 rcases ho with h|h
 ·rw [h] at h1;cases h1
 ·rw [h,Option.getD_some] at h2
  unfold sameC at h2
  simp at h2
theorem q10p {j:Job} {s:Stt} {y:C3} (ok:okT j.floats s.h y) (h1:y.a+y.b+y.c=1) (h0:leC zeroC y): ∃x,takeL j.floats s.h y=[x]:=by
 have:(takeL j.floats s.h y).length=1:=by
  unfold takeL raw
  rw [isort_len,List.length_append,List.length_append,q0Bn ok.1,q0Bn ok.2.1,q0Bn ok.2.2]
  unfold leC zeroC at h0
  simp only at h0
  omega
 match h:takeL j.floats s.h y,this with
 |[x],_=>exact ⟨x,rfl⟩
theorem q0Yh {j:Job} (w:wfJ j) {s:Stt} (r:rightP j s) (hd:doneS j s=false) {n:C3} (hn2:leC n (q01i j s.at_)) {c:Colm} (h:q03i j s n=some c):
  endE j s c = false ∧ kindE j s c = 0 ∧ (q02r j s c).over = false ∧ c.frm = s.at_ ∧ ∃ x, c.top = [x] := by
 have key: ∀y:C3,c=⟨2,s.at_,s.at_,[],takeL j.floats s.h y,[]⟩→y.a+y.b+y.c=1→leC zeroC y→leC (plus s.h y) (q01i j s.at_)→leC s.h (plus s.h y)→endE j s c=false∧kindE j s c=0∧(q02r j s c).over=false∧c.frm=s.at_∧ ∃x,c.top=[x]:=by
  rintro y rfl h1 h0 hy hz
  obtain ⟨hs,ok⟩:=q113 w r h0 hy hz (c:=⟨2,s.at_,s.at_,[],takeL j.floats s.h y,[]⟩) rfl rfl
  obtain ⟨x,hx⟩:=q10p ok h1 h0
  have ho:=q0Zu w r (c:=⟨2,s.at_,s.at_,[],takeL j.floats s.h y,[]⟩) rfl rfl hx
  refine ⟨?_,?_,ho,rfl,x,hx⟩
  ·unfold endE
   rw [decide_eq_false_iff_not]
   simp [(q04a j s).2 ⟨r,hd⟩]
  ·unfold kindE q0b2
   rw [if_neg (by simp),if_pos rfl,if_neg (by simp),if_neg]
   rw [hs,ho]
   simp [hx]
 have h1:=r.h1
 unfold q03i at h
 split at h
 ·exact key ⟨1,0,0⟩ (Option.some.inj h).symm rfl (by simp [leC,zeroC]) (by unfold leC plus at*;simp only;omega) (by simp [leC,plus];omega)
 split at h
 ·exact key ⟨0,1,0⟩ (Option.some.inj h).symm rfl (by simp [leC,zeroC]) (by unfold leC plus at*;simp only;omega) (by simp [leC,plus];omega)
 split at h
 ·exact key ⟨0,0,1⟩ (Option.some.inj h).symm rfl (by simp [leC,zeroC]) (by unfold leC plus at*;simp only;omega) (by simp [leC,plus];omega)
 cases h
theorem q0qp {j:Job} {s:Stt} {n:C3} (h: ¬leC n s.h): ∃c,q03i j s n=some c:=by
 unfold q03i
 split
 ·exact ⟨_,rfl⟩
 split
 ·exact ⟨_,rfl⟩
 split
 ·exact ⟨_,rfl⟩
 exfalso;apply h;unfold leC;omega
theorem q0hz {j:Job} {s:Stt} (r:rightP j s):q022 j s=true↔leC (dueF j s.at_) s.h:=by
 unfold q022
 rw [(q02k j s).2 r,Bool.true_and,q0pw]
theorem q11b {x y:C3} (h:leC x y) (g:leC y x):x=y:=by
 obtain ⟨a,b,c⟩:=x
 obtain ⟨d,e,f⟩:=y
 unfold leC at*
 simp only [C3.mk.injEq] at*
 omega
theorem q10a (j:Job) {n:Int} (h:n=j.items.length):q01i j n=allS j:=by
 unfold q01i allS
 subst h
 have:putN j.items (j.items.length:Int)=j.items.length:=by unfold putN;omega
 rw [this,List.take_length]
theorem q10b (j:Job) {n:Int} (h:n=j.items.length):q00z j n=q01a j.items:=by
 unfold q00z
 subst h
 have:putN j.items (j.items.length:Int)=j.items.length:=by unfold putN;omega
 rw [this,List.take_length]
theorem q0Yi {j:Job} (w:wfJ j) {s:Stt} (ho:openS j s=true): ∃c,q04r j s=some c∧q06c j s c=0∧c.frm=s.at_:=by
 obtain ⟨r,hd⟩:=(q04a j s).1 ho
 obtain ⟨n0,l0,n1,n2⟩:=q09w w r
 by_cases ht:q022 j s=true∧s.at_<j.items.length
 ·have e:textC j s=some ⟨1,s.at_,q015 j.items s.at_,q05q j.notes (spotS j s (q015 j.items s.at_)),[],[]⟩:=by unfold textC;rw [if_pos ⟨ho,ht⟩]
  have hb:=q0tc r.at0 ht.2
  have hm:=q0Bd r.at0 hb
  have hl:q04r j s=some ⟨1,s.at_,q015 j.items s.at_,q05q j.notes (spotS j s (q015 j.items s.at_)),[],[]⟩:=by unfold q04r;rw [e];rfl
  refine ⟨_,hl,q0Y8 ?_ ?_ (.inr hl),rfl⟩
  ·unfold endE
   rw [decide_eq_false_iff_not]
   simp [ho]
   omega
  ·unfold kindE
   rw [if_pos rfl]
   unfold textE
   simp only
   rw [if_neg (by rw [ht.1];simp),if_neg (by simpa using hb),if_neg,if_neg]
   ·rw [q10o w r rfl rfl (by omega),q109 w rfl rfl];simp
   ·rw [Bool.not_eq_false,q0ja,q0p6 r]
    refine q0Z5 (q03o w.w _) n0 l0 w.notes fun h=> ?_
    simp only at h⊢
    by_cases z:s.line=0
    ·rw [z]
     have:=w.notes (rd j.notes s.note) (q05a n0 (by have:=q03o w.w (q015 j.items s.at_);omega))
     omega
    ·exact (n2 z).2
 ·have e:textC j s=none:=by unfold textC;rw [if_neg (fun h=>ht h.2)]
  by_cases hf:q022 j s=true
  ·have ha:s.at_=j.items.length:=by have:=r.at1;have: ¬s.at_<j.items.length:=fun h=>ht ⟨hf,h⟩;omega
   have e2:dueC j s=none:=by
    unfold dueC
    rw [if_pos ho]
    have hle:=(q0hz r).1 hf
    unfold leC at hle
    unfold q03i
    rw [if_neg (by omega),if_neg (by omega),if_neg (by omega)]
   by_cases hn:s.note=j.notes.length
   ·have e3:noteC j s=none:=by unfold noteC;rw [if_neg (fun h=>h.2.2 hn)]
    have hne: ¬leC (q01i j s.at_) s.h:=by
     intro hle
     have heq:=q11b r.h1 hle
     rw [q10a j ha] at heq
     have hl:s.line=0:=by
      by_cases z:s.line=0
      ·exact z
      ·have:=(n2 z).1;omega
     unfold doneS at hd
     rw [(q02k j s).2 r] at hd
     simp [ha,hl,hn,heq] at hd
    obtain ⟨c,hc⟩:=q0qp (j:=j) hne
    have a:=q0Yh w r hd (q0e6 _) hc
    have hl:q04r j s=some c:=by unfold q04r q08m;rw [e,e2,e3,if_pos ho,hc];rfl
    exact ⟨c,hl,q0Y8 a.1 a.2.1 (.inl a.2.2.1),a.2.2.2.1⟩
   ·have e3:noteC j s=some ⟨3,s.at_,s.at_,q05q j.notes (q02h (spotS j s s.at_)),[],[]⟩:=by unfold noteC;rw [if_pos ⟨ho,ha,hn⟩]
    have hl:q04r j s=some ⟨3,s.at_,s.at_,q05q j.notes (q02h (spotS j s s.at_)),[],[]⟩:=by unfold q04r;rw [e,e2,e3];rfl
    have hm:q05q j.notes (q02h (spotS j s s.at_))∈q00j j.notes (q02h (spotS j s s.at_)):=by
     rw [q0p6 r]
     refine q0Z5 (q03o w.w _) n0 l0 w.notes fun h=> ?_
     simp only [q02h] at h⊢
     by_cases z:s.line=0
     ·rw [z]
      have:=w.notes (rd j.notes s.note) (q05a n0 (by omega))
      omega
     ·exact (n2 z).2
    have hne:q05q j.notes (q02h (spotS j s s.at_))≠[]:=by
     intro h0
     rw [h0] at hm
     rw [q0p6 r] at hm
     rcases q0Yk (s:=q02h ⟨s.note,s.line,q00z j s.at_,decide (q00z j s.at_<q00z j s.at_)⟩) (q03o w.w _) n0 l0 hm with ⟨_,h|h⟩|⟨_,q,t,h,_⟩
     ·simp only [q02h] at h
      have:=q10b j ha
      have:=w.five
      omega
     ·cases h
     ·simp at h
    refine ⟨_,hl,q0Y8 ?_ ?_ (.inr hl),rfl⟩
    ·unfold endE
     rw [decide_eq_false_iff_not]
     simp [ho,ha]
    ·unfold kindE
     rw [if_neg (by simp),if_neg (by simp)]
     unfold noteE
     simp only
     rw [if_neg,if_neg (by simp)]
     rintro (h|h)
     ·exact hne h
     ·rw [(q0ja _ _ _).2 hm] at h;cases h
  ·have hne: ¬leC (dueF j s.at_) s.h:=fun h=>hf ((q0hz r).2 h)
   obtain ⟨c,hc⟩:=q0qp (j:=j) hne
   have a:=q0Yh w r hd (q0vq _ _) hc
   have hl:q04r j s=some c:=by unfold q04r dueC;rw [e,if_pos ho,hc];rfl
   exact ⟨c,hl,q0Y8 a.1 a.2.1 (.inl a.2.2.1),a.2.2.2.1⟩
theorem q0Y9 {j:Job} {s:Stt} (ho:openS j s=false):q04r j s=none:=by
 unfold q04r textC dueC noteC q08m
 rw [ho]
 simp
def vOC (o:Option Colm):V:= .tup [vColm (o.getD q014),vB o.isSome]
theorem q0b4 (j:Job) (w:okW j) (s:Stt) (H:Heap):clD EE (.p (.fn 181)) [vW j,vStt s] H=some (vB (q022 j s),none):=by
 rw [q002 _ _ _ _ _ _ (noP _) fn181]
 have hr:=fun H=>q03r j w s H
 have hd:=fun H=>q0v8 j.items j.floats s.at_ H
 change∀H,clD EE _ _ H=some (vC (dueF j s.at_),none) at hd
 have re:=fun H=>in_ev (dueF j s.at_) s.h H
 unfold q022
 cases c:q01g j s with
 |false=>
  rw [c] at hr
  simp [St.enter,q000,subs,q001,hr]
 |true=>
  rw [c] at hr
  simp only [vW,q00o,cJobW,cGeom,List.cons_append,List.nil_append] at hr⊢
  simp [St.enter,q000,subs,q001,hr,hd,re]
theorem q0gw (j:Job) (H:Heap):clD EE (.p (.fn 262)) [vW j] H=some (vMapW j.items j.floats,none):=by
 have hp: ∀H,clD EE (.p (.fn 229)) [vW j] H=some (q00o j,none):=by
  intro H
  rw [q002 _ _ _ _ _ _ (noP _) fn229]
  simp only [vW,cJobW,cGeom,List.cons_append,List.nil_append]
  simp [St.enter,q000,subs,q001]
 have hq: ∀H,clD EE (.p (.fn 332)) [q00o j] H=some (vMapW j.items j.floats,none):=by
  intro H
  rw [q002 _ _ _ _ _ _ (noP _) fn332]
  simp only [q00o]
  simp [St.enter,q000,subs,q001]
 rw [q002 _ _ _ _ _ _ (noP _) fn262]
 simp [St.enter,q000,subs,q001,hp,hq]
section
variable (j:Job) (w:wfJ j)
include w
theorem q08n (s:Stt) (to:Int):spotB j.notes (spotS j s to):=by
 have hb:=q03o w.w to
 unfold spotS
 by_cases r:q01g j s=true
 ·rw [if_pos r]
  have c:=q09w w ((q02k j s).1 r)
  have:=w.w.n2
  exact ⟨w.w.n2,w.w.lines,hb,c.1,by simp only;omega,c.2.1⟩
 ·rw [if_neg r]
  exact ⟨w.w.n2,w.w.lines,by simp only;omega,by simp,by simp,by simp⟩
theorem q09f (s:Stt) (to:Int):spotB j.notes (q02h (spotS j s to)):=by
 have o:=q08n j w s to
 exact ⟨o.l1,o.l2,o.b,o.n0,o.n1,o.li⟩
theorem q09g (s:Stt) (H:Heap):clD EE (.p (.fn 258)) [vW j,vStt s] H=some (vB (openS j s),none):=by
 rw [q002 _ _ _ _ _ _ (noP _) fn258]
 have r:=fun H=>q03r j w.w s H
 have d:=fun H=>q0j3 j w.w s H
 unfold openS
 cases c:q01g j s with
 |false=>rw [c] at r;simp [St.enter,q000,subs,q001,r]
 |true=>rw [c] at r;simp [St.enter,q000,subs,q001,r,d]
theorem q0wz (s:Stt) (H:Heap):clD EE (.p (.fn 162)) [vW j,vStt s] H=some (vOC (textC j s),none):=by
 rw [q002 _ _ _ _ _ _ (noP _) fn162]
 have op:=fun H=>q09g j w s H
 have fl:=fun H=>q0b4 j w.w s H
 have wl:=fun H=>q07e j H
 have fb:=fun H=>q0bs j.items w.w.n1 s.at_ H
 have pl:=fun H=>q07d j H
 have sp:=fun H=>q07t j w.w s (q015 j.items s.at_) H
 have le:=fun H=>q0a2 j.notes (spotS j s (q015 j.items s.at_)) (q08n j w s _) H
 unfold textC vOC
 cases c1:openS j s with
 |false=>rw [c1] at op;simp [St.enter,q000,subs,q001,op,q014]
 |true=>
  rw [c1] at op
  cases c2:q022 j s with
  |false=>rw [c2] at fl;simp [St.enter,q000,subs,q001,op,fl,q014]
  |true=>
   rw [c2] at fl
   have r:=((q04a j s).1 c1).1
   simp only [vJob,cGeom,List.cons_append,List.nil_append] at pl
   by_cases c3:s.at_<j.items.length
   ·have hb:=q0Bd r.at0 (q0tc r.at0 c3)
    have h0:=r.at0
    have hn: ¬q015 j.items s.at_<0:=by omega
    generalize q015 j.items s.at_=t at*
    generalize spotS j s t=q at*
    simp [St.enter,q000,subs,q001,fldvV,op,fl,wl,fb,pl,sp,le,hn,c3]
   ·have hn:q015 j.items s.at_= -1:=by
     unfold q015
     rw [show j.items.length-pos s.at_=0 by unfold pos;have:=r.at0;omega];rfl
    rw [hn] at fb
    simp [St.enter,q000,subs,q001,op,fl,wl,fb,c3,q014]
theorem q0i0 {s:Stt} (r:rightP j s) {n:C3} (hn:leC n (q01i j s.at_)):
  (s.h.a<n.a→okT j.floats s.h ⟨1,0,0⟩)∧(s.h.b<n.b→okT j.floats s.h ⟨0,1,0⟩)∧(s.h.c<n.c→okT j.floats s.h ⟨0,0,1⟩):=by
 have h0:=r.h0
 have h1:=q0bu hn (q0jb w.six _)
 have h2:=q0hy w r
 unfold okT okU leC zeroC allC at*
 simp only at*
 omega
theorem q0i1 {s:Stt} (r:rightP j s) {n:C3} (hn:leC n (q01i j s.at_)) (H:Heap):clD EE (.p (.fn 261)) [vW j,vStt s,vC n] H=some (vOC (q03i j s n),none):=by
 rw [q002 _ _ _ _ _ _ (noP _) fn261]
 have ok:=q0i0 j w r hn
 have pl:=fun H=>q07d j H
 have w1:IntKind.i64.wrap 1=1:=by decide
 have w2:IntKind.i64.wrap 2=2:=by decide
 have w3:IntKind.i64.wrap 3=3:=by decide
 have t1:=fun y H=>q0pb j.floats s.h y H w.w.n3
 unfold vTake at t1
 unfold q03i vOC
 simp only [vJob,cGeom,List.cons_append,List.nil_append] at pl
 by_cases c1:s.h.a<n.a
 ·have t:=fun H=>t1 ⟨1,0,0⟩ H
  simp only [if_pos (ok.1 c1)] at t
  generalize takeL j.floats s.h ⟨1,0,0⟩=T at*
  simp [St.enter,q000,subs,q001,fldvV,q0W7,q003,ixaV,ixvV,q007,w1,w2,w3,c1,pl,t]
 ·by_cases c2:s.h.b<n.b
  ·have t:=fun H=>t1 ⟨0,1,0⟩ H
   simp only [if_pos (ok.2.1 c2)] at t
   generalize takeL j.floats s.h ⟨0,1,0⟩=T at*
   simp [St.enter,q000,subs,q001,fldvV,q0W7,q003,ixaV,ixvV,q007,w1,w2,w3,c1,c2,pl,t]
  ·by_cases c3:s.h.c<n.c
   ·have t:=fun H=>t1 ⟨0,0,1⟩ H
    simp only [if_pos (ok.2.2 c3)] at t
    generalize takeL j.floats s.h ⟨0,0,1⟩=T at*
    simp [St.enter,q000,subs,q001,fldvV,q0W7,q003,ixaV,ixvV,q007,w1,w2,w3,c1,c2,c3,pl,t]
   ·simp [St.enter,q000,subs,q001,q0W7,q003,ixaV,ixvV,q007,w1,w2,w3,c1,c2,c3,q014]
theorem q0Bf (s:Stt) (H:Heap):clD EE (.p (.fn 163)) [vW j,vStt s] H=some (vOC (dueC j s),none):=by
 rw [q002 _ _ _ _ _ _ (noP _) fn163]
 have op:=fun H=>q09g j w s H
 have mp:=fun H=>q0gw j H
 have hd:=fun H=>q0v8 j.items j.floats s.at_ H
 change∀H,clD EE _ _ H=some (vC (dueF j s.at_),none) at hd
 unfold dueC
 cases c1:openS j s with
 |false=>rw [c1] at op;simp [St.enter,q000,subs,q001,op,vOC,q014]
 |true=>
  rw [c1] at op
  have r:=((q04a j s).1 c1).1
  have al:=fun H=>q0i1 j w r (q0vq j.floats (j.items.take (putN j.items s.at_))) H
  change∀H,clD EE _ [vW j,vStt s,vC (dueF j s.at_)] H=some (vOC (q03i j s (dueF j s.at_)),none) at al
  unfold vOC at*
  simp [St.enter,q000,subs,q001,op,mp,hd,al]
theorem q0td (s:Stt) (H:Heap):clD EE (.p (.fn 165)) [vW j,vStt s] H=some (vOC (q08m j s),none):=by
 rw [q002 _ _ _ _ _ _ (noP _) fn165]
 have op:=fun H=>q09g j w s H
 have mp:=fun H=>q0gw j H
 have hd:=fun H=>q09v j.items j.floats s.at_ H
 change∀H,clD EE _ _ H=some (vC (q01i j s.at_),none) at hd
 unfold q08m
 cases c1:openS j s with
 |false=>rw [c1] at op;simp [St.enter,q000,subs,q001,op,vOC,q014]
 |true=>
  rw [c1] at op
  have r:=((q04a j s).1 c1).1
  have al:=fun H=>q0i1 j w r (q0e6 (q01i j s.at_)) H
  unfold vOC at*
  simp [St.enter,q000,subs,q001,op,mp,hd,al]
theorem q0x0 (s:Stt) (H:Heap):clD EE (.p (.fn 164)) [vW j,vStt s] H=some (vOC (noteC j s),none):=by
 rw [q002 _ _ _ _ _ _ (noP _) fn164]
 have op:=fun H=>q09g j w s H
 have pl:=fun H=>q07d j H
 have wl:=fun H=>q07e j H
 have ll:=fun H=>q021 j.items H
 have sp:=fun H=>q07t j w.w s s.at_ H
 have le:=fun H=>q0a2 j.notes (q02h (spotS j s s.at_)) (q09f j w s _) H
 unfold noteC vOC
 simp only [vJob,cGeom,List.cons_append,List.nil_append] at pl
 cases c1:openS j s with
 |false=>rw [c1] at op;simp [St.enter,q000,subs,q001,fldvV,op,pl,q014]
 |true=>
  rw [c1] at op
  have r:=((q04a j s).1 c1).1
  have h1:=r.at1
  generalize spotS j s s.at_=q at*
  unfold q02h at*
  by_cases c2:s.at_<j.items.length
  ·have c3: ¬s.at_=j.items.length:=by omega
   simp [St.enter,q000,subs,q001,fldvV,op,pl,wl,ll,c2,c3,q014]
  ·have c3:s.at_=j.items.length:=by omega
   have c3:=eq_true c3
   by_cases c4:s.note=j.notes.length
   ·have c4:=eq_true c4
    simp [St.enter,q000,subs,q001,fldvV,op,pl,wl,ll,c2,c3,c4,q014]
   ·simp [St.enter,q000,subs,q001,fldvV,op,pl,wl,ll,c2,c3,c4,sp,le]
theorem q0qq (s:Stt) (H:Heap):clD EE (.p (.fn 82)) [vW j,vStt s] H=some (vOC (q04r j s),none):=by
 rw [q002 _ _ _ _ _ _ (noP _) fn82]
 have f1:=fun H=>q0wz j w s H
 have f2:=fun H=>q0Bf j w s H
 have f3:=fun H=>q0x0 j w s H
 have f4:=fun H=>q0td j w s H
 have w1:IntKind.i64.wrap 1=1:=by decide
 have w2:IntKind.i64.wrap 2=2:=by decide
 have w3:IntKind.i64.wrap 3=3:=by decide
 have w4:IntKind.i64.wrap 4=4:=by decide
 unfold q04r vOC at*
 cases e1:textC j s with
 |some c=>rw [e1] at f1;simp [St.enter,q000,subs,q001,q0Vy,q003,ixsI,ixsV,w1,w2,w3,w4,f1]
 |none=>
  rw [e1] at f1
  cases e2:dueC j s with
  |some c=>rw [e2] at f2;simp [St.enter,q000,subs,q001,q0Vy,q003,ixsI,ixsV,w1,w2,w3,w4,f1,f2]
  |none=>
   rw [e2] at f2
   cases e3:noteC j s with
   |some c=>rw [e3] at f3;simp [St.enter,q000,subs,q001,q0Vy,q003,ixsI,ixsV,w1,w2,w3,w4,f1,f2,f3]
   |none=>
    rw [e3] at f3
    cases e4:q08m j s with
    |some c=>rw [e4] at f4;simp [St.enter,q000,subs,q001,q0Vy,q003,ixsI,ixsV,w1,w2,w3,w4,f1,f2,f3,f4]
    |none=>rw [e4] at f4;simp [St.enter,q000,subs,q001,q0Vy,q003,ixsI,ixsV,w1,w2,w3,w4,f1,f2,f3,f4,q014]
end
end Go.EnvOf
namespace Go.EnvOf
open Go Go.Eng
set_option maxRecDepth 100000
abbrev c6 (t:Tot):List V:=[vI t.nat,vI t.s0,vI t.s1,vI t.s2,vI t.s3,vI t.shr]
section
variable (j:Job) (n1:j.items.length≤1000000) (hf: ∀x∈j.items,fairI x)
include n1 hf in
include n1 in
end
theorem q0tu (l:List Int) (x:Int) (hl:l.length≤1000000) (H:Heap):evD EE q0X7 ⟨[(0,sli l),(1,vI x),(7,vI l.length),(8,vI 0)],[],H,H.length,[]⟩=
  some (rng (fun (_:Unit) i y=>if x=y then .inr (Ex.ret,(⟨[(4,vI i)],[],H,H.length,[]⟩:St)) else .inl ()) (fun _=>(Ex.exit 0,(⟨[(0,sli l),(1,vI x),(7,vI l.length),(8,vI l.length),(9,vB false)],[],H,H.length,[]⟩:St))) () 0 l):=by
 unfold q0X7
 refine q013 l (fun (_:Unit) i=>⟨[(0,sli l),(1,vI x),(7,vI l.length),(8,vI i)],[],H,H.length,[]⟩) (fun _ _=>True) _ _ (fun _ _=>rfl) ?_ ?_ () 0 trivial (Nat.zero_le _)
 ·rintro _ i y-hx
  have hlt:=(List.getElem?_eq_some_iff.1 hx).1
  have w:IntKind.i64.wrap ((i:Int)+1)=((i+1:Nat):Int):=w64 (by omega) (by omega)
  have hix:=fun H k=>q00c H encI (k:=k) (s:=1) hx rfl
  simp only [encI] at hix
  by_cases c:x=y
  ·simp [hlt,hix,encI,subs,c]
  ·simp [hlt,hix,encI,subs,c,w]
 ·rintro _-
  simp
theorem q09i (x:Int) (H:Heap) (fin:Ex×St): ∀(l:List Int) (i:Nat),(l.contains x=false→rng (fun (_:Unit) i y=>if x=y then .inr (Ex.ret,(⟨[(4,vI i)],[],H,H.length,[]⟩:St)) else .inl ()) (fun _=>fin) () i l=fin)∧
  (l.contains x=true→ ∃k:Nat,rng (fun (_:Unit) i y=>if x=y then .inr (Ex.ret,(⟨[(4,vI i)],[],H,H.length,[]⟩:St)) else .inl ()) (fun _=>fin) () i l=(Ex.ret,⟨[(4,vI k)],[],H,H.length,[]⟩))
 |[],i=>by simp [rng]
 |y::r,i=>by
  have ih:=q09i x H fin r (i+1)
  simp only [rng]
  by_cases c:x=y
  ·subst c
   simp only [if_true]
   refine ⟨fun h=>by simp at h,fun _=>⟨i,rfl⟩⟩
  ·simp only [if_neg c]
   have e:(y::r).contains x=r.contains x:=by simp [c]
   rw [e];exact ih
theorem q0tv (l:List Int) (x:Int) (hl:l.length≤1000000) (H:Heap):clD EE (.p (.fn 183)) [sli l,vI x] H=some (vB (l.contains x),none):=by
 rw [q002 _ _ _ _ _ _ (noP _) fn183]
 have key:=fun H=>q0tu l x hl H
 cases c:l.contains x with
 |false=>
  have i: ∀H,clD EE (.p (.fn 270)) [sli l,vI x] H=some (vI (-1),none):=by
   intro H
   rw [q002 _ _ _ _ _ _ (noP _) fn270]
   have k:=key H
   rw [(q09i x H _ l 0).1 c] at k
   simp [St.enter,q000,k]
  simp [St.enter,q000,i]
 |true=>
  have i: ∀H,∃k:Nat,clD EE (.p (.fn 270)) [sli l,vI x] H=some (vI k,none):=by
   intro H
   rw [q002 _ _ _ _ _ _ (noP _) fn270]
   have k:=key H
   obtain ⟨z,hz⟩:=(q09i x H (Ex.exit 0,⟨[(0,sli l),(1,vI x),(7,vI l.length),(8,vI l.length),(9,vB false)],[],H,H.length,[]⟩) l 0).2 c
   rw [hz] at k
   exact ⟨z,by simp [St.enter,q000,k]⟩
  obtain ⟨z,hz⟩:=i H
  have z0:(0:Int)≤z:=by omega
  simp [St.enter,q000,hz,z0]
section
variable (j:Job) (n1:j.items.length≤1000000) (hf: ∀x∈j.items,fairI x)
include n1 hf in
include n1 hf in
end
end Go.EnvOf
