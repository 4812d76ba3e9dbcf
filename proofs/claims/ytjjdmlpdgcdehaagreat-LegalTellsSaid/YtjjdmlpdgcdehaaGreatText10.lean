/- The program's functions and the document's, evaluated. -/
import Derived.Test.YtjjdmlpdgcdehaaGreatText9
import Derived.Test.YtjjdmlpdgcdehaaGreatText7
import Derived.Test.YtjjdmlpdgcdehaaGreatText8
import Derived.Test.YtjjdmlpdgcdehaaGreatText3
set_option linter.unusedSimpArgs false
set_option linter.unusedVariables false
namespace Go.EnvOf
open Go Go.Eng
set_option maxRecDepth 100000
structure spotB (l:List Note) (s:Spot):Prop where
 l1:l.length≤1000000
 l2: ∀n∈l,n.lines.length≤1000000
 b:s.begun≤l.length
 n0:0≤s.note
 n1:s.note≤1000000
 li:0≤s.line
def lsEnv (h:Nat):List (Nat×V):=[(4,.ptr h 0),(8,allV (h+1))]
def q06a (st:LSt) (h:Nat):DObj:= .loop st (lsEnv h) [9] q0Vt q0Vu
def lsR (h:Nat) (i:Nat) (A:List Nat) (H:Heap):Prop:=i=0∧A=[h,h+3]∧h+3<H.length∧H[h+3]? =some (q06a .ready h)∧Eng.boxAt H h=some [.nils]
def lsF (L:List (List Piece)) (h:Nat) (A:List Nat) (H:Heap):Prop:= ∃p v B,L[0]? =some p∧repP p v H B∧(∀k∈B,h≤k)∧H[h+3]? =some (q06a (.done .ret) h)∧Eng.boxAt H h=some [v]∧h+3<H.length
theorem q07p {p:List Piece} {v:V} {H K:Heap} {B:List Nat} (h:repP p v H B) (g:Stay B H K):repP p v K B:=by
 rcases h with h|⟨id,h1,h2,rfl⟩
 ·exact .inl h
 ·exact .inr ⟨id,h1,g.row h2 (by simp),rfl⟩
theorem q0Ba {p:List Piece} {v:V} {H:Heap} {B:List Nat} (h:repP p v H B): ∀k∈B,k<H.length:=by
 rcases h with ⟨-,rfl⟩|⟨id,-,h2,rfl⟩
 ·simp
 ·intro k hk
  simp at hk;subst hk;exact q09d h2
theorem q0lp {p:List Piece} {v:V} {H:Heap} {B:List Nat} (h:repP p v H B):v.oneB=true∧v.cells=[v]∧v.notL=true∧outL v=v∧v.outB=true∧normA v=v:=by
 rcases h with ⟨rfl,-⟩|⟨id,rfl,-,-⟩<;>exact ⟨rfl,rfl,rfl,rfl,rfl,rfl⟩
theorem q0Bb (L:List (List Piece)) (h:Nat):Eats repP (h+3) L (lsR h) (lsF L h):=by
 refine ⟨?_,?_,?_⟩
 ·rintro i A H K ⟨rfl,rfl,h1,h2,h3⟩ g
  exact ⟨rfl,rfl,by have:=g.1;omega,by rw [g.2 _ (by simp)];exact h2,g.box h3 (by simp)⟩
 ·rintro i A H ⟨rfl,rfl,h1,h2,h3⟩ k hk
  have:=q02y h3
  simp at hk;omega
 ·rintro i A H x v B hL ⟨rfl,rfl,h1,h2,h3⟩ hr hB
  obtain ⟨o1,o2,o3,o4,o5,o6⟩:=q0lp hr
  have hh:=q02y h3
  have ne:h+3≠h:=by omega
  have b2: ∀o,Eng.boxAt (H.set (h+3) o) h=some [.nils]:=fun o=>(q01p H (h+3) h o ne).trans h3
  refine ⟨false,((H.set (h+3) (q06a .busy h)).set h (.box [v])).set (h+3) (q06a (.done .ret) h),[h,h+3],[h,h+3]++B,?_,by simp,?_,fun k hk=> .inl hk,fun k hk=> ?_,(fun e=>nomatch e),fun _=> ?_⟩
  ·have hs2: ∀o:DObj,((H.set (h+3) (q06a .busy h)).set h o)[h+3]? =some (q06a .busy h):=fun o=>by
    rw [List.getElem?_set_ne (by omega)];exact List.getElem?_set_self h1
   refine q0e5 h2 rfl (env1:=[(4,.ptr h 0),(5,v)]) (loc1:=[]) ?_ (x:= .ret) (env2:=[(4,.ptr h 0)]) (loc2:=[]) (d2:=[h,h+3]) ?_ (hs2 _)
   ·simp [lsEnv,q0Vt]
   ·simp [q0Vu,o1,o2,b2,q001,hh]
    rfl
  ·exact ((Keep.set _ _ _ _ (.inl (by simp))).trans (Keep.set [h,h+3] _ _ _ (.inl (by simp))) (fun k hk=> .inl hk)).trans (Keep.set [h,h+3] _ _ _ (.inl (by simp))) (fun k hk=> .inl hk)
  ·simp only [List.mem_append] at hk
   exact hk.imp id .inl
  ·refine ⟨x,v,B,hL,?_,fun k hk=> ?_,?_,?_,by simpa using h1⟩
   ·refine q07p hr ⟨by simp,fun k hk=> ?_⟩
    have:=hB k hk
    simp at this
    rw [List.getElem?_set_ne (by omega),List.getElem?_set_ne (by omega),List.getElem?_set_ne (by omega)]
   ·have:=(hB k hk).2;omega
   ·exact List.getElem?_set_self (by simpa using h1)
   ·rw [q01p _ _ _ _ (by omega)]
    exact q07o _ _ _ (by simpa using hh)
theorem frz_rep {p:List Piece} {v:V} {H:Heap} {B:List Nat} {b:Nat} (h:repP p v H B) (hb: ∀k∈B,b≤k) (d:Nat):frz b H (d+1) v=some (.sl (p.map q00g)):=by
 rcases h with ⟨rfl,-⟩|⟨id,rfl,h2,rfl⟩
 ·rfl
 ·rw [q056,if_pos (hb id (by simp)),h2,q09c,if_pos (by simp),List.drop_zero,List.take_of_length_le (by simp)]
theorem q0a2 (l:List Note) (s:Spot) (o:spotB l s) (H:Heap):clD EE (.p (.fn 260)) [q00b l,vSpot s] H=some (q00v (q05q l s),none):=by
 have al:=fun H=>q0dc l s H
 obtain ⟨H1,hH1⟩: ∃H1,H1=H++[DObj.box [.nils],.box [q00b l],.box (cSpot s)]:=⟨_,rfl⟩
 have hl1:H1.length=H.length+3:=by simp [hH1]
 have e0:lsR H.length 0 [H.length,H.length+3] (H1++[q06a .ready H.length]):=by
  refine ⟨rfl,rfl,by simp [hl1],?_,?_⟩
  ·rw [←hl1];simp
  ·simp [hH1,List.append_assoc]
 obtain ⟨r,h1,A',hk,hd,hs,hR⟩:=q0a5 l s o.l1 o.l2 o.b o.n0 o.n1 o.li (H.length+1) (H.length+3) (q0Bb (q00j l s) H.length) e0 (by simp [hl1]) (by simp [hH1,List.append_assoc])
  (by rw [show H.length+1+1=H.length+2 by omega];simp [hH1,List.append_assoc]) (by simp) (by simp;omega)
 have hds:(dsOf r).foldr (addD H.length) []=[]:=q0bt fun k hk=>by
  rcases hd k hk with h|h
  ·simp at h;omega
  ·simp [hl1] at h;omega
 rw [q002 _ _ _ _ _ _ (noP _) fn260]
 have hv:(∃f,allV (H.length+1)= .p (.fn f))∨ ∃f u v,allV (H.length+1)= .fn (.func f) u v:= .inr ⟨_,_,_,rfl⟩
 have hloop:q06a .ready H.length= .loop .ready (outE [(4,.ptr H.length 0),(8,allV (H.length+1))]) [9] q0Vt q0Vu:=rfl
 rw [hloop,←hl1] at h1
 rw [hloop] at hR
 have fin: ∀ {st e ps' a' b'},(hpOf (H1++[DObj.loop .ready (outE [(4,.ptr H.length 0),(8,allV (H.length+1))]) [9] q0Vt q0Vu]) r)[H.length+3]? =some (.loop st e ps' a' b')→st≠ .busy→
   evD EE (.rangeFunc (.t 8) [9] q0Vt q0Vu) ⟨[(4,.ptr H.length 0),(8,allV (H.length+1))],[],H++[DObj.box [.nils],.box [q00b l],.box (cSpot s)],H.length,[]⟩=
    some (exSt st,⟨[(4,.ptr H.length 0),(8,allV (H.length+1))],[],(hpOf (H1++[DObj.loop .ready (outE [(4,.ptr H.length 0),(8,allV (H.length+1))]) [9] q0Vt q0Vu]) r).set (H.length+3) .dead,H.length,[]⟩):=by
  intro st e ps' a' b' hq hst
  have rg:=q0n9 (env:=[(4,.ptr H.length 0),(8,allV (H.length+1))]) (loc:=[]) (hp:=H1) (base:=H.length) (dirty:=[]) (x:= .t 8) (ps:=[9]) hv rfl h1 (by rw [hl1];exact hq) hst
  rw [hds,hl1] at rg
  rw [←hH1];exact rg
 generalize hpOf (H1++[DObj.loop .ready (outE [(4,.ptr H.length 0),(8,allV (H.length+1))]) [9] q0Vt q0Vu]) r=K at hR fin
 rcases hR with ⟨h0,-,hlt,hq,hb⟩|⟨p,v,B,hL,hr,hB,hq,hb,hlt⟩
 ·have rg:=fin hq (by simp)
  have hnil:q05q l s=[]:=by unfold q05q;rw [List.length_eq_zero_iff.1 h0];rfl
  rw [hnil]
  have b2: ∀o,Eng.boxAt (K.set (H.length+3) o) H.length=some [.nils]:=fun o=>(q01p _ _ _ _ (by omega)).trans hb
  have hlt2:=q02y hb
  have b3: ∀o cs,Eng.boxAt ((K.set (H.length+3) o).set H.length (.box cs)) H.length=some cs:=fun o cs=>q07o _ _ _ (by simpa using hlt2)
  simp [St.enter,q000,subs,q001,al,rg,exSt,b2,b3,hlt2]
 ·have rg:=fin hq (by simp)
  have hp:q05q l s=p:=by
   unfold q05q
   cases hc:q00j l s with
   |nil=>rw [hc] at hL;cases hL
   |cons x r=>rw [hc] at hL;simpa using hL
  rw [hp]
  have b2: ∀o,Eng.boxAt (K.set (H.length+3) o) H.length=some [v]:=fun o=>(q01p _ _ _ _ (by omega)).trans hb
  rcases hr with ⟨rfl,-⟩|⟨id,rfl,h2,rfl⟩
  ·simp [St.enter,q000,subs,q001,al,rg,exSt,b2]
  ·have hid:H.length≤id:=hB id (by simp)
   have ne:id≠H.length+3:=by
    rintro rfl
    unfold Eng.rowAt at h2
    rw [hq] at h2;cases h2
   have hr2: ∀o,Eng.rowAt (K.set (H.length+3) o) id=some (3,upV (p.map q00g)):=fun o=>(q05l _ _ _ _ (Ne.symm ne)).trans h2
   simp [St.enter,q000,subs,q001,al,rg,exSt,b2,hr2,hid]
section
variable {α:Type} [DecidableEq α] {E:Env} (f:FuncId) (s:Nat) (sh:List Bool) (enc:α→List PV)
theorem q0Ds (hp:E.prims f=none) (hf:E.fns f=some (eqI s sh)) (hs: ∀x,(enc x).length=s) (hagg: ∀x,aggOr true ((enc x).map .p)=some (.agg ((enc x).map .p))) (heq: ∀x y,q00h sh ((enc x).map .p) ((enc y).map .p)=some (decide (x=y)))
  (a b:List α) (hn:a.length≤9223372036854775806) (H:Heap) (id:Nat) (hr:Eng.rowAt H id=some (s,upV (a.map enc))):clD E (.p (.fn f)) [.row id a.length 0 a.length,.p (.sl (b.map enc))] H=some (vB (decide (a=b)),none):=by
 rw [q002 E f _ _ _ _ hp hf]
 by_cases hl:a.length=b.length
 ·have key:evD E (eqL s sh) (eqE (.row id a.length 0 a.length) (.p (.sl (b.map enc))) a.length H H.length 0)=some (rng (step2 (fun x y=>decide (x=y)) b (eqBad H H.length)) (fun _=>eqX (.row id a.length 0 a.length) (.p (.sl (b.map enc))) a.length H H.length) () 0 a):=by
   unfold eqL
   refine q013 a (fun (_:Unit) i=>eqE (.row id a.length 0 a.length) (.p (.sl (b.map enc))) a.length H H.length i) (fun _ _=>True) _ (fun _=>eqX (.row id a.length 0 a.length) (.p (.sl (b.map enc))) a.length H H.length) (fun _ _=>rfl) ?_ ?_ () 0 trivial (Nat.zero_le _)
   ·rintro _ i x-hx
    have hlt:=(List.getElem?_eq_some_iff.1 hx).1
    have hy:b[i]? =some (b[i]'(by omega)):=List.getElem?_eq_getElem (by omega)
    generalize (b[i]'(by omega))=y at hy
    have w:IntKind.i64.wrap ((i:Int)+1)=((i+1:Nat):Int):=w64 (by omega) (by omega)
    have hix:=fun k=>q01f H id a.length 0 a.length s k i
    have hg2:(upV (a.map enc))[i]? =some ((enc x).map .p):=by simp [upV,hx]
    have hg: ∀h,(upV (a.map enc))[i]'h=(enc x).map .p:=fun h=>by rw [List.getElem?_eq_getElem h] at hg2;exact Option.some.inj hg2
    have hiy:=fun H k=>q00c H enc (k:=k) (s:=s) hy (hs y)
    have hsub: ∀x,subs ((enc x).map V.p) 0 s=some ((enc x).map V.p):=fun x=>by simp [subs,hs x,List.take_of_length_le]
    rw [q04n hy]
    by_cases hxy:x=y
    ·simp [eqE,hlt,hix,hr,hg,hiy,hsub,hagg,heq,hxy,w]
    ·simp [eqE,eqBad,hlt,hix,hr,hg,hiy,hsub,hagg,heq,hxy]
   ·rintro _-
    simp [eqE,eqX]
  rw [q05w (fun x y=>decide (x=y)) b (eqBad H H.length) (eqX (.row id a.length 0 a.length) (.p (.sl (b.map enc))) a.length H H.length) a 0 (by omega),List.drop_zero,q06s a b hl] at key
  have hl':(a.length:Int)=b.length:=by omega
  by_cases h:a=b
  ·rw [if_pos (by simpa using h)] at key
   subst h
   simp [eqE,eqX] at key
   simp [St.enter,q000,key]
  ·rw [if_neg (by simpa using h)] at key
   have hl2:(b.length:Int)=a.length:=hl'.symm
   simp [eqE,eqBad] at key
   simp [St.enter,q000,hl2,key,h]
 ·have hl': ¬(a.length:Int)=b.length:=by omega
  have h:a≠b:=by rintro rfl;exact hl rfl
  simp [St.enter,q000,hl',h]
end
def syEnv (h:Nat):List (Nat×V):=[(5,.ptr h 0),(6,.ptr (h+1) 0),(10,allV (h+2))]
def q06b (st:LSt) (h:Nat):DObj:= .loop st (syEnv h) [11] q0Vq q0Vr
def syR (L:List (List Piece)) (x:List Piece) (h:Nat) (i:Nat) (A:List Nat) (H:Heap):Prop:=
 A=[h,h+1,h+4]∧h+4<H.length∧H[h+4]? =some (q06b .ready h)∧Eng.boxAt H h=some [q00v x]∧Eng.boxAt H (h+1)=some [vB false]∧ ∀k p,k<i→L[k]? =some p→p≠x
def syF (L:List (List Piece)) (x:List Piece) (h:Nat) (A:List Nat) (H:Heap):Prop:=
 A=[h,h+1,h+4]∧h+4<H.length∧H[h+4]? =some (q06b (.done .ret) h)∧Eng.boxAt H (h+1)=some [vB true]∧x∈L
theorem q0ww (p x:List Piece) (v:V) (H:Heap) (B:List Nat) (h:repP p v H B) (hp:p.length≤1000000):clD EE (.p (.fn 198)) [v,q00v x] H=some (vB (decide (p=x)),none):=by
 rcases h with ⟨rfl,-⟩|⟨id,rfl,hr,-⟩
 ·exact q0bn p x hp H
 ·rw [q002 _ _ _ _ _ _ (noP _) fn198]
  have:=q0Ds _ 3 _ q00g (noP _) q0d9 (fun _=>rfl) (fun _=>rfl) q083 p x (by omega) H id hr
  simp [St.enter,q000,this]
theorem q0Bc (L:List (List Piece)) (hL: ∀p∈L,p.length≤1000000) (x:List Piece) (h:Nat):Eats repP (h+4) L (syR L x h) (syF L x h):=by
 refine ⟨?_,?_,?_⟩
 ·rintro i A H K ⟨rfl,h1,h2,h3,h4,h5⟩ g
  exact ⟨rfl,by have:=g.1;omega,by rw [g.2 _ (by simp)];exact h2,g.box h3 (by simp),g.box h4 (by simp),h5⟩
 ·rintro i A H ⟨rfl,h1,h2,h3,h4,h5⟩ k hk
  have:=q02y h3
  simp at hk;omega
 ·rintro i A H p v B hLi ⟨rfl,h1,h2,h3,h4,h5⟩ hr hB
  obtain ⟨o1,o2,o3,o4,o5,o6⟩:=q0lp hr
  have hh:=q02y h4
  have b2: ∀o,Eng.boxAt (H.set (h+4) o) h=some [q00v x]:=fun o=>(q01p H (h+4) h o (by omega)).trans h3
  have b3: ∀o,Eng.boxAt (H.set (h+4) o) (h+1)=some [vB false]:=fun o=>(q01p H (h+4) (h+1) o (by omega)).trans h4
  have hpm:=List.mem_of_getElem? hLi
  have sm:=fun o=>q0ww p x v (H.set (h+4) o) B (q07p hr (Stay.set _ _ _ _ (fun hk=>(hB _ hk).1 (by simp)))) (hL p hpm)
  by_cases c:p=x
  ·refine ⟨false,((H.set (h+4) (q06b .busy h)).set (h+1) (.box [vB true])).set (h+4) (q06b (.done .ret) h),[h+1,h+4],[h,h+1,h+4],?_,by simp,?_,fun k hk=> .inl (by simp at hk⊢;omega),fun k hk=> .inl hk,(fun e=>nomatch e),fun _=> ?_⟩
   ·refine q0e5 h2 rfl (env1:=[(5,.ptr h 0),(6,.ptr (h+1) 0),(7,v)]) (loc1:=[]) ?_ (x:= .ret) (env2:=[(6,.ptr (h+1) 0)]) (loc2:=[]) (d2:=[h+1,h+4]) ?_ (by rw [List.getElem?_set_ne (by omega)];exact List.getElem?_set_self h1)
    ·simp [syEnv,q0Vq]
    ·simp [q0Vr,b2,b3,sm,c,o5,o6,q001,subs,hh]
     rfl
   ·exact ((Keep.set _ _ _ _ (.inl (by simp))).trans (Keep.set [h,h+1,h+4] _ _ _ (.inl (by simp))) (fun k hk=> .inl hk)).trans (Keep.set [h,h+1,h+4] _ _ _ (.inl (by simp))) (fun k hk=> .inl hk)
   ·refine ⟨rfl,by simpa using h1,List.getElem?_set_self (by simpa using h1),?_,c▸hpm⟩
    rw [q01p _ _ _ _ (by omega)]
    exact q07o _ _ _ (by simpa using hh)
  ·refine ⟨true,(H.set (h+4) (q06b .busy h)).set (h+4) (q06b .ready h),[h+4],[h,h+1,h+4],?_,by simp,?_,fun k hk=> .inl (by simp at hk⊢;omega),fun k hk=> .inl hk,fun _=> ?_,(fun e=>nomatch e)⟩
   ·refine q0e5 h2 rfl (env1:=[(5,.ptr h 0),(6,.ptr (h+1) 0),(7,v)]) (loc1:=[]) ?_ (x:= .normal) (env2:=[(6,.ptr (h+1) 0),(14,vB false)]) (loc2:=[]) (d2:=[h+4]) ?_ (List.getElem?_set_self h1)
    ·simp [syEnv,q0Vq]
    ·simp [q0Vr,b2,b3,sm,c,o5,o6,q001,subs,hh]
     rfl
   ·exact (Keep.set _ _ _ _ (.inl (by simp))).trans (Keep.set [h,h+1,h+4] _ _ _ (.inl (by simp))) (fun k hk=> .inl hk)
   ·refine ⟨rfl,by simpa using h1,List.getElem?_set_self (by simpa using h1),?_,?_,fun k p' hk hp'=> ?_⟩
    ·rw [q01p _ _ _ _ (by omega)];exact b2 _
    ·rw [q01p _ _ _ _ (by omega)];exact b3 _
    ·by_cases e:k=i
     ·subst e;rw [hLi] at hp';cases hp';exact c
     ·exact h5 k p' (by omega) hp'
theorem q0d0 {l:List Note} {s:Spot} (o:spotB l s): ∀p∈q00j l s,p.length≤1000000:=by
 intro p hp
 have wl: ∀(k:Nat) (a b:Int),(q01j l k a b).length=k:=by
  intro k
  induction k with
  |zero=>intro a b;rfl
  |succ k ih=>intro a b;simp [q01j,ih]
 have hn:openN l s≤1000000:=by
  rw [q08w o.b o.n0 o.li]
  have:=o.b;have:=o.n0;have:=o.l1;omega
 unfold q00j at hp
 rcases List.mem_append.1 hp with h|h
 ·split at h
  ·simp at h;subst h;simp
  ·cases h
 ·split at h
  ·cases h
  ·obtain ⟨t,-,rfl⟩:=List.mem_map.1 h
   unfold oneP
   rw [List.length_append,wl]
   simp only [List.length_cons,List.length_nil]
   omega
theorem q0d1 (l:List Note) (s:Spot) (o:spotB l s) (x:List Piece) (H:Heap):clD EE (.p (.fn 186)) [q00b l,vSpot s,q00v x] H=some (vB (mayPc l s x),none):=by
 have al:=fun H=>q0dc l s H
 obtain ⟨H1,hH1⟩: ∃H1,H1=H++[DObj.box [q00v x],.box [vB false],.box [q00b l],.box (cSpot s)]:=⟨_,rfl⟩
 have hl1:H1.length=H.length+4:=by simp [hH1]
 have e0:syR (q00j l s) x H.length 0 [H.length,H.length+1,H.length+4] (H1++[q06b .ready H.length]):=by
  refine ⟨rfl,by simp [hl1],?_,?_,?_,fun k p hk=>by omega⟩
  ·rw [←hl1];simp
  ·simp [hH1,List.append_assoc]
  ·simp [hH1,List.append_assoc]
 obtain ⟨r,h1,A',hk,hd,hs,hR⟩:=q0a5 l s o.l1 o.l2 o.b o.n0 o.n1 o.li (H.length+2) (H.length+4) (q0Bc (q00j l s) (q0d0 o) x H.length) e0 (by simp [hl1]) (by simp [hH1,List.append_assoc])
  (by rw [show H.length+2+1=H.length+3 by omega];simp [hH1,List.append_assoc]) (by simp) (by simp;omega)
 have hds:(dsOf r).foldr (addD H.length) []=[]:=q0bt fun k hk=>by
  rcases hd k hk with h|h
  ·simp at h;omega
  ·simp [hl1] at h;omega
 rw [q002 _ _ _ _ _ _ (noP _) fn186]
 have hv:(∃f,allV (H.length+2)= .p (.fn f))∨ ∃f u v,allV (H.length+2)= .fn (.func f) u v:= .inr ⟨_,_,_,rfl⟩
 have hloop:q06b .ready H.length= .loop .ready (outE [(5,.ptr H.length 0),(6,.ptr (H.length+1) 0),(10,allV (H.length+2))]) [11] q0Vq q0Vr:=rfl
 rw [hloop,←hl1] at h1
 rw [hloop] at hR
 have fin: ∀ {st e ps' a' b'},(hpOf (H1++[DObj.loop .ready (outE [(5,.ptr H.length 0),(6,.ptr (H.length+1) 0),(10,allV (H.length+2))]) [11] q0Vq q0Vr]) r)[H.length+4]? =some (.loop st e ps' a' b')→st≠ .busy→
   evD EE (.rangeFunc (.t 10) [11] q0Vq q0Vr) ⟨[(5,.ptr H.length 0),(6,.ptr (H.length+1) 0),(10,allV (H.length+2))],[],H++[DObj.box [q00v x],.box [vB false],.box [q00b l],.box (cSpot s)],H.length,[]⟩=
    some (exSt st,⟨[(5,.ptr H.length 0),(6,.ptr (H.length+1) 0),(10,allV (H.length+2))],[],(hpOf (H1++[DObj.loop .ready (outE [(5,.ptr H.length 0),(6,.ptr (H.length+1) 0),(10,allV (H.length+2))]) [11] q0Vq q0Vr]) r).set (H.length+4) .dead,H.length,[]⟩):=by
  intro st e ps' a' b' hq hst
  have rg:=q0n9 (env:=[(5,.ptr H.length 0),(6,.ptr (H.length+1) 0),(10,allV (H.length+2))]) (loc:=[]) (hp:=H1) (base:=H.length) (dirty:=[]) (x:= .t 10) (ps:=[11]) hv rfl h1 (by rw [hl1];exact hq) hst
  rw [hds,hl1] at rg
  rw [←hH1];exact rg
 generalize hpOf (H1++[DObj.loop .ready (outE [(5,.ptr H.length 0),(6,.ptr (H.length+1) 0),(10,allV (H.length+2))]) [11] q0Vq q0Vr]) r=K at hR fin
 rcases hR with ⟨-,hlt,hq,-,hb,hno⟩|⟨-,hlt,hq,hb,hin⟩
 ·have rg:=fin hq (by simp)
  have hm:mayPc l s x=false:=by
   cases e:mayPc l s x with
   |false=>rfl
   |true=>
    have:=(q0ja _ _ _).1 e
    obtain ⟨k,hk,rfl⟩:=List.mem_iff_getElem.1 this
    exact absurd rfl (hno k _ hk (List.getElem?_eq_getElem hk))
  rw [hm]
  have hlt2:=q02y hb
  have b2: ∀o,Eng.boxAt (K.set (H.length+4) o) (H.length+1)=some [vB false]:=fun o=>(q01p _ _ _ _ (by omega)).trans hb
  have b3: ∀o cs,Eng.boxAt ((K.set (H.length+4) o).set (H.length+1) (.box cs)) (H.length+1)=some cs:=fun o cs=>q07o _ _ _ (by simpa using hlt2)
  simp [St.enter,q000,subs,q001,al,rg,exSt,b2,b3,hlt2]
 ·have rg:=fin hq (by simp)
  rw [(q0ja _ _ _).2 hin]
  have b2: ∀o,Eng.boxAt (K.set (H.length+4) o) (H.length+1)=some [vB true]:=fun o=>(q01p _ _ _ _ (by omega)).trans hb
  simp [St.enter,q000,subs,q001,al,rg,exSt,b2]
def q03i (j:Job) (s:Stt) (n:C3):Option Colm:=
 if s.h.a<n.a then some ⟨2,s.at_,s.at_,[],takeL j.floats s.h ⟨1,0,0⟩,[]⟩
 else if s.h.b<n.b then some ⟨2,s.at_,s.at_,[],takeL j.floats s.h ⟨0,1,0⟩,[]⟩
 else if s.h.c<n.c then some ⟨2,s.at_,s.at_,[],takeL j.floats s.h ⟨0,0,1⟩,[]⟩
 else none
def openS (j:Job) (s:Stt):Bool:=q01g j s&& !doneS j s
def textC (j:Job) (s:Stt):Option Colm:=
 if openS j s=true∧q022 j s=true∧s.at_<j.items.length then some ⟨1,s.at_,q015 j.items s.at_,q05q j.notes (spotS j s (q015 j.items s.at_)),[],[]⟩ else none
def noteC (j:Job) (s:Stt):Option Colm:=
 if openS j s=true∧s.at_=j.items.length∧s.note≠j.notes.length then some ⟨3,s.at_,s.at_,q05q j.notes (q02h (spotS j s s.at_)),[],[]⟩ else none
def dueC (j:Job) (s:Stt):Option Colm:=if openS j s=true then q03i j s (dueF j s.at_) else none
def q08m (j:Job) (s:Stt):Option Colm:=if openS j s=true then q03i j s (q01i j s.at_) else none
def q04r (j:Job) (s:Stt):Option Colm:=(textC j s).or ((dueC j s).or ((noteC j s).or (q08m j s)))
def q0b1 (j:Job) (s:Stt) (c:Colm):C3:=addC (addC s.h (ofL j.floats c.top)) (ofL j.floats c.bot)
def setF (j:Job) (s:Stt) (c:Colm) (to:Int):Bool:=
 nextQ j.floats s.h c.top&&nextQ j.floats (addC s.h (ofL j.floats c.top)) c.bot&&inC (q0b1 j s c) (q01i j to)
def fitsC (j:Job) (c:Colm):Bool:=fitT j.g j.floats c.top&&fitB j.g j.floats c.bot
def textE (j:Job) (s:Stt) (c:Colm):Int:=
 if q022 j s=false then 18 else if (brkF j.items s.at_).contains c.to=false then 14
 else if mayPc j.notes (spotS j s c.to) c.notes=false then 15 else if setF j s c c.to=false∨fitsC j c=false then 16 else 0
def q0b2 (j:Job) (s:Stt) (c:Colm):Int:=
 if c.notes≠[] then 15 else if c.top=[]∨8<c.top.length∨c.bot≠[]∨setF j s c s.at_=false∨(q02r j s c).over=true then 16 else 0
def noteE (j:Job) (s:Stt) (c:Colm):Int:=
 if c.notes=[]∨mayPc j.notes (q02h (spotS j s s.at_)) c.notes=false then 15 else if c.top≠[]∨c.bot≠[] then 16 else 0
def endE (j:Job) (s:Stt) (c:Colm):Bool:=
 decide (openS j s=false∨c.k<1∨3<c.k∨c.frm≠s.at_∨(c.k=1∧s.at_=j.items.length)∨(c.k≠1∧c.to≠s.at_)∨(c.k=3∧s.at_≠j.items.length))
def kindE (j:Job) (s:Stt) (c:Colm):Int:=if c.k=1 then textE j s c else if c.k=2 then q0b2 j s c else noteE j s c
def q014:Colm:=⟨0,0,0,[],[],[]⟩
def q06c (j:Job) (s:Stt) (c:Colm):Int:=
 if endE j s c=true then 19 else if kindE j s c≠0 then kindE j s c
 else if (q02r j s c).over=true∧sameC c ((q04r j s).getD q014)=false then 17 else 0
theorem q0wx {j:Job} (w:okW j) (n:Int):leC zeroC (q01i j n)∧(q01i j n).a≤1000000∧(q01i j n).b≤1000000∧(q01i j n).c≤1000000:=by
 unfold q01i
 have h:=q0ix j.floats (j.items.take (putN j.items n))
 have hl:((j.items.take (putN j.items n)).length:Int)≤1000000:=by
  have:=w.n1
  rw [List.length_take]
  omega
 unfold leC zeroC
 simp only
 omega
theorem q0Bd {l:List Item} {a t:Int} (h0:0≤a) (h:t∈brkF l a):a<t∧t≤l.length∧mayV l t=true∧t≤q010 l a:=by
 unfold brkF at h
 obtain ⟨m,hm,rfl⟩:=List.mem_map.1 h
 unfold brkN at hm
 rw [List.mem_filter,List.mem_range'] at hm
 obtain ⟨⟨i,hi,rfl⟩,h2⟩:=hm
 simp only [Bool.and_eq_true,decide_eq_true_eq] at h2
 unfold mayN at h2
 unfold pos at*
 simp only [Int.ofNat_eq_natCast]
 exact ⟨by omega,by omega,h2.2,h2.1⟩
theorem q0p6 {j:Job} {s:Stt} (r:rightP j s) (to:Int):spotS j s to=⟨s.note,s.line,q00z j to,decide (q00z j s.at_<q00z j to)⟩:=by
 unfold spotS
 rw [if_pos ((q02k j s).2 r)]
theorem q0b3 {p:Nat→Bool}: ∀(k n m:Nat),n≤m→m<n+k→p m=true→seekP p k n≠ -1∧seekP p k n≤m
 |0,n,m,h1,h2,_=>by omega
 |k+1,n,m,h1,h2,h3=>by
  rw [seekP]
  by_cases q:p n=true
  ·rw [if_pos q];omega
  ·rw [if_neg q]
   have:n≠m:=fun e=>q (e▸h3)
   exact q0b3 k (n+1) m (by omega) (by omega) h3
theorem q0Be {l:List Item} (h:1≤l.length):mayN l l.length=true:=by
 unfold mayN mayV
 rw [if_neg (by omega)]
 have:q02g l (l.length:Int)=none:=by unfold q02g;rw [if_neg (by omega)]
 rw [this]
theorem q0wy {l:List Item} {n:Nat} (h1:1≤n) (h2:n≤l.length) (h:mustP l n=true):mayN l n=true:=by
 by_cases e:n=l.length
 ·subst e;exact q0Be h1
 ·have hx:l[n]? =some (l[n]'(by omega)):=List.getElem?_eq_getElem (by omega)
  unfold mustP at h
  rw [hx] at h
  unfold mayN mayV
  rw [if_neg (by omega),q06n,hx]
  simp only at h⊢
  unfold q05z at h
  simp only [Bool.and_eq_true,decide_eq_true_eq] at h
  rw [if_neg (by omega),if_pos h.1]
  unfold forbX
  simp [h.1]
  omega
theorem q0tc {l:List Item} {a:Int} (h0:0≤a) (h1:a<l.length):q015 l a∈brkF l a:=by
 have hp:(pos a:Int)=a:=by unfold pos;omega
 have hF:=q0b3 (p:=mustP l) (l.length-pos a) (pos a+1) l.length (by omega) (by omega) (by unfold mustP;rw [List.getElem?_eq_none (Nat.le_refl _)])
 have bF:=q07g (mustP l) (l.length-pos a) (pos a+1)
 change q010 l a≠ -1∧q010 l a≤_ at hF
 change q010 l a= -1∨_≤q010 l a∧q010 l a<_∧mustP l (q010 l a).toNat=true at bF
 rcases bF with bF|⟨b1,b2,b3⟩
 ·exact absurd bF hF.1
 have hm:=q0wy (n:=(q010 l a).toNat) (by omega) (by omega) b3
 have hB:=q0b3 (p:=mayN l) (l.length-pos a) (pos a+1) (q010 l a).toNat (by omega) (by omega) hm
 have bB:=q07g (mayN l) (l.length-pos a) (pos a+1)
 change q015 l a≠ -1∧q015 l a≤_ at hB
 change q015 l a= -1∨_≤q015 l a∧q015 l a<_∧mayN l (q015 l a).toNat=true at bB
 rcases bB with bB|⟨c1,c2,c3⟩
 ·exact absurd bB hB.1
 unfold brkF
 refine List.mem_map.2 ⟨(q015 l a).toNat,?_,by simp only [Int.ofNat_eq_natCast];omega⟩
 unfold brkN
 rw [List.mem_filter,List.mem_range']
 refine ⟨⟨(q015 l a).toNat-(pos a+1),by omega,by omega⟩,?_⟩
 simp only [Bool.and_eq_true,decide_eq_true_eq]
 exact ⟨by omega,c3⟩
theorem q0hy {j:Job} (w:wfJ j) {s:Stt} (r:rightP j s):leC s.h (allC j.floats):=q0bu r.h1 (q0jb w.six _)
theorem q04a (j:Job) (s:Stt):openS j s=true↔rightP j s∧doneS j s=false:=by
 unfold openS
 rw [Bool.and_eq_true,q02k,Bool.not_eq_true']
theorem q0qp {j:Job} {s:Stt} {n:C3} (h: ¬leC n s.h): ∃c,q03i j s n=some c:=by
 unfold q03i
 split
 ·exact ⟨_,rfl⟩
 split
 ·exact ⟨_,rfl⟩
 split
 ·exact ⟨_,rfl⟩
 exfalso;apply h;unfold leC;omega
theorem q0hz {j:Job} {s:Stt} (r:rightP j s):q022 j s=true↔leC (dueF j s.at_) s.h:=by
 unfold q022
 rw [(q02k j s).2 r,Bool.true_and,q0pw]
def vOC (o:Option Colm):V:= .tup [vColm (o.getD q014),vB o.isSome]
theorem q0b4 (j:Job) (w:okW j) (s:Stt) (H:Heap):clD EE (.p (.fn 181)) [vW j,vStt s] H=some (vB (q022 j s),none):=by
 rw [q002 _ _ _ _ _ _ (noP _) fn181]
 have hr:=fun H=>q03r j w s H
 have hd:=fun H=>q0v8 j.items j.floats s.at_ H
 change∀H,clD EE _ _ H=some (vC (dueF j s.at_),none) at hd
 have re:=fun H=>in_ev (dueF j s.at_) s.h H
 unfold q022
 cases c:q01g j s with
 |false=>
  rw [c] at hr
  simp [St.enter,q000,subs,q001,hr]
 |true=>
  rw [c] at hr
  simp only [vW,q00o,cJobW,cGeom,List.cons_append,List.nil_append] at hr⊢
  simp [St.enter,q000,subs,q001,hr,hd,re]
theorem q0gw (j:Job) (H:Heap):clD EE (.p (.fn 262)) [vW j] H=some (vMapW j.items j.floats,none):=by
 have hp: ∀H,clD EE (.p (.fn 229)) [vW j] H=some (q00o j,none):=by
  intro H
  rw [q002 _ _ _ _ _ _ (noP _) fn229]
  simp only [vW,cJobW,cGeom,List.cons_append,List.nil_append]
  simp [St.enter,q000,subs,q001]
 have hq: ∀H,clD EE (.p (.fn 332)) [q00o j] H=some (vMapW j.items j.floats,none):=by
  intro H
  rw [q002 _ _ _ _ _ _ (noP _) fn332]
  simp only [q00o]
  simp [St.enter,q000,subs,q001]
 rw [q002 _ _ _ _ _ _ (noP _) fn262]
 simp [St.enter,q000,subs,q001,hp,hq]
section
variable (j:Job) (w:wfJ j)
include w
theorem q08n (s:Stt) (to:Int):spotB j.notes (spotS j s to):=by
 have hb:=q03o w.w to
 unfold spotS
 by_cases r:q01g j s=true
 ·rw [if_pos r]
  have c:=q09w w ((q02k j s).1 r)
  have:=w.w.n2
  exact ⟨w.w.n2,w.w.lines,hb,c.1,by simp only;omega,c.2.1⟩
 ·rw [if_neg r]
  exact ⟨w.w.n2,w.w.lines,by simp only;omega,by simp,by simp,by simp⟩
theorem q09f (s:Stt) (to:Int):spotB j.notes (q02h (spotS j s to)):=by
 have o:=q08n j w s to
 exact ⟨o.l1,o.l2,o.b,o.n0,o.n1,o.li⟩
theorem q09g (s:Stt) (H:Heap):clD EE (.p (.fn 258)) [vW j,vStt s] H=some (vB (openS j s),none):=by
 rw [q002 _ _ _ _ _ _ (noP _) fn258]
 have r:=fun H=>q03r j w.w s H
 have d:=fun H=>q0j3 j w.w s H
 unfold openS
 cases c:q01g j s with
 |false=>rw [c] at r;simp [St.enter,q000,subs,q001,r]
 |true=>rw [c] at r;simp [St.enter,q000,subs,q001,r,d]
theorem q0wz (s:Stt) (H:Heap):clD EE (.p (.fn 162)) [vW j,vStt s] H=some (vOC (textC j s),none):=by
 rw [q002 _ _ _ _ _ _ (noP _) fn162]
 have op:=fun H=>q09g j w s H
 have fl:=fun H=>q0b4 j w.w s H
 have wl:=fun H=>q07e j H
 have fb:=fun H=>q0bs j.items w.w.n1 s.at_ H
 have pl:=fun H=>q07d j H
 have sp:=fun H=>q07t j w.w s (q015 j.items s.at_) H
 have le:=fun H=>q0a2 j.notes (spotS j s (q015 j.items s.at_)) (q08n j w s _) H
 unfold textC vOC
 cases c1:openS j s with
 |false=>rw [c1] at op;simp [St.enter,q000,subs,q001,op,q014]
 |true=>
  rw [c1] at op
  cases c2:q022 j s with
  |false=>rw [c2] at fl;simp [St.enter,q000,subs,q001,op,fl,q014]
  |true=>
   rw [c2] at fl
   have r:=((q04a j s).1 c1).1
   simp only [vJob,cGeom,List.cons_append,List.nil_append] at pl
   by_cases c3:s.at_<j.items.length
   ·have hb:=q0Bd r.at0 (q0tc r.at0 c3)
    have h0:=r.at0
    have hn: ¬q015 j.items s.at_<0:=by omega
    generalize q015 j.items s.at_=t at*
    generalize spotS j s t=q at*
    simp [St.enter,q000,subs,q001,fldvV,op,fl,wl,fb,pl,sp,le,hn,c3]
   ·have hn:q015 j.items s.at_= -1:=by
     unfold q015
     rw [show j.items.length-pos s.at_=0 by unfold pos;have:=r.at0;omega];rfl
    rw [hn] at fb
    simp [St.enter,q000,subs,q001,op,fl,wl,fb,c3,q014]
theorem q0i0 {s:Stt} (r:rightP j s) {n:C3} (hn:leC n (q01i j s.at_)):
  (s.h.a<n.a→okT j.floats s.h ⟨1,0,0⟩)∧(s.h.b<n.b→okT j.floats s.h ⟨0,1,0⟩)∧(s.h.c<n.c→okT j.floats s.h ⟨0,0,1⟩):=by
 have h0:=r.h0
 have h1:=q0bu hn (q0jb w.six _)
 have h2:=q0hy w r
 unfold okT okU leC zeroC allC at*
 simp only at*
 omega
theorem q0i1 {s:Stt} (r:rightP j s) {n:C3} (hn:leC n (q01i j s.at_)) (H:Heap):clD EE (.p (.fn 261)) [vW j,vStt s,vC n] H=some (vOC (q03i j s n),none):=by
 rw [q002 _ _ _ _ _ _ (noP _) fn261]
 have ok:=q0i0 j w r hn
 have pl:=fun H=>q07d j H
 have w1:IntKind.i64.wrap 1=1:=by decide
 have w2:IntKind.i64.wrap 2=2:=by decide
 have w3:IntKind.i64.wrap 3=3:=by decide
 have t1:=fun y H=>q0pb j.floats s.h y H w.w.n3
 unfold vTake at t1
 unfold q03i vOC
 simp only [vJob,cGeom,List.cons_append,List.nil_append] at pl
 by_cases c1:s.h.a<n.a
 ·have t:=fun H=>t1 ⟨1,0,0⟩ H
  simp only [if_pos (ok.1 c1)] at t
  generalize takeL j.floats s.h ⟨1,0,0⟩=T at*
  simp [St.enter,q000,subs,q001,fldvV,q0W7,q003,ixaV,ixvV,q007,w1,w2,w3,c1,pl,t]
 ·by_cases c2:s.h.b<n.b
  ·have t:=fun H=>t1 ⟨0,1,0⟩ H
   simp only [if_pos (ok.2.1 c2)] at t
   generalize takeL j.floats s.h ⟨0,1,0⟩=T at*
   simp [St.enter,q000,subs,q001,fldvV,q0W7,q003,ixaV,ixvV,q007,w1,w2,w3,c1,c2,pl,t]
  ·by_cases c3:s.h.c<n.c
   ·have t:=fun H=>t1 ⟨0,0,1⟩ H
    simp only [if_pos (ok.2.2 c3)] at t
    generalize takeL j.floats s.h ⟨0,0,1⟩=T at*
    simp [St.enter,q000,subs,q001,fldvV,q0W7,q003,ixaV,ixvV,q007,w1,w2,w3,c1,c2,c3,pl,t]
   ·simp [St.enter,q000,subs,q001,q0W7,q003,ixaV,ixvV,q007,w1,w2,w3,c1,c2,c3,q014]
theorem q0Bf (s:Stt) (H:Heap):clD EE (.p (.fn 163)) [vW j,vStt s] H=some (vOC (dueC j s),none):=by
 rw [q002 _ _ _ _ _ _ (noP _) fn163]
 have op:=fun H=>q09g j w s H
 have mp:=fun H=>q0gw j H
 have hd:=fun H=>q0v8 j.items j.floats s.at_ H
 change∀H,clD EE _ _ H=some (vC (dueF j s.at_),none) at hd
 unfold dueC
 cases c1:openS j s with
 |false=>rw [c1] at op;simp [St.enter,q000,subs,q001,op,vOC,q014]
 |true=>
  rw [c1] at op
  have r:=((q04a j s).1 c1).1
  have al:=fun H=>q0i1 j w r (q0vq j.floats (j.items.take (putN j.items s.at_))) H
  change∀H,clD EE _ [vW j,vStt s,vC (dueF j s.at_)] H=some (vOC (q03i j s (dueF j s.at_)),none) at al
  unfold vOC at*
  simp [St.enter,q000,subs,q001,op,mp,hd,al]
theorem q0td (s:Stt) (H:Heap):clD EE (.p (.fn 165)) [vW j,vStt s] H=some (vOC (q08m j s),none):=by
 rw [q002 _ _ _ _ _ _ (noP _) fn165]
 have op:=fun H=>q09g j w s H
 have mp:=fun H=>q0gw j H
 have hd:=fun H=>q09v j.items j.floats s.at_ H
 change∀H,clD EE _ _ H=some (vC (q01i j s.at_),none) at hd
 unfold q08m
 cases c1:openS j s with
 |false=>rw [c1] at op;simp [St.enter,q000,subs,q001,op,vOC,q014]
 |true=>
  rw [c1] at op
  have r:=((q04a j s).1 c1).1
  have al:=fun H=>q0i1 j w r (q0e6 (q01i j s.at_)) H
  unfold vOC at*
  simp [St.enter,q000,subs,q001,op,mp,hd,al]
theorem q0x0 (s:Stt) (H:Heap):clD EE (.p (.fn 164)) [vW j,vStt s] H=some (vOC (noteC j s),none):=by
 rw [q002 _ _ _ _ _ _ (noP _) fn164]
 have op:=fun H=>q09g j w s H
 have pl:=fun H=>q07d j H
 have wl:=fun H=>q07e j H
 have ll:=fun H=>q021 j.items H
 have sp:=fun H=>q07t j w.w s s.at_ H
 have le:=fun H=>q0a2 j.notes (q02h (spotS j s s.at_)) (q09f j w s _) H
 unfold noteC vOC
 simp only [vJob,cGeom,List.cons_append,List.nil_append] at pl
 cases c1:openS j s with
 |false=>rw [c1] at op;simp [St.enter,q000,subs,q001,fldvV,op,pl,q014]
 |true=>
  rw [c1] at op
  have r:=((q04a j s).1 c1).1
  have h1:=r.at1
  generalize spotS j s s.at_=q at*
  unfold q02h at*
  by_cases c2:s.at_<j.items.length
  ·have c3: ¬s.at_=j.items.length:=by omega
   simp [St.enter,q000,subs,q001,fldvV,op,pl,wl,ll,c2,c3,q014]
  ·have c3:s.at_=j.items.length:=by omega
   have c3:=eq_true c3
   by_cases c4:s.note=j.notes.length
   ·have c4:=eq_true c4
    simp [St.enter,q000,subs,q001,fldvV,op,pl,wl,ll,c2,c3,c4,q014]
   ·simp [St.enter,q000,subs,q001,fldvV,op,pl,wl,ll,c2,c3,c4,sp,le]
theorem q0qq (s:Stt) (H:Heap):clD EE (.p (.fn 82)) [vW j,vStt s] H=some (vOC (q04r j s),none):=by
 rw [q002 _ _ _ _ _ _ (noP _) fn82]
 have f1:=fun H=>q0wz j w s H
 have f2:=fun H=>q0Bf j w s H
 have f3:=fun H=>q0x0 j w s H
 have f4:=fun H=>q0td j w s H
 have w1:IntKind.i64.wrap 1=1:=by decide
 have w2:IntKind.i64.wrap 2=2:=by decide
 have w3:IntKind.i64.wrap 3=3:=by decide
 have w4:IntKind.i64.wrap 4=4:=by decide
 unfold q04r vOC at*
 cases e1:textC j s with
 |some c=>rw [e1] at f1;simp [St.enter,q000,subs,q001,q0Vy,q003,ixsI,ixsV,w1,w2,w3,w4,f1]
 |none=>
  rw [e1] at f1
  cases e2:dueC j s with
  |some c=>rw [e2] at f2;simp [St.enter,q000,subs,q001,q0Vy,q003,ixsI,ixsV,w1,w2,w3,w4,f1,f2]
  |none=>
   rw [e2] at f2
   cases e3:noteC j s with
   |some c=>rw [e3] at f3;simp [St.enter,q000,subs,q001,q0Vy,q003,ixsI,ixsV,w1,w2,w3,w4,f1,f2,f3]
   |none=>
    rw [e3] at f3
    cases e4:q08m j s with
    |some c=>rw [e4] at f4;simp [St.enter,q000,subs,q001,q0Vy,q003,ixsI,ixsV,w1,w2,w3,w4,f1,f2,f3,f4]
    |none=>rw [e4] at f4;simp [St.enter,q000,subs,q001,q0Vy,q003,ixsI,ixsV,w1,w2,w3,w4,f1,f2,f3,f4,q014]
end
theorem q0Bg (l:List Item) (n:Nat) (h0:1≤n) (h:n<l.length):mustV l n=mustP l n:=by
 unfold mustV mustP
 rw [q06n,List.getElem?_eq_getElem h]
 have:(1:Int)≤n:=by omega
 simp [this]
theorem q0i2 (l:List Item) (hl:l.length≤1000000) (H:Heap) (B:Nat): ∀(k n:Nat),n+k=l.length→1≤n→
  evD EE q0W9 ⟨[(0,q006 l),(5,vI n)],[],H,B,[]⟩=some (.exit 0,⟨[(0,q006 l),(5,vI (seekP (mustP l) (k+1) n)),(23,vB false)],[],H,B,[]⟩)
 |0,n,hk,h1=>by
  have hm:mustP l n=true:=by unfold mustP;rw [List.getElem?_eq_none (by omega)]
  unfold q0W9
  rw [q003]
  have c: ¬n<l.length:=by omega
  simp [seekP,hm,c]
 |k+1,n,hk,h1=>by
  have f:=fun H=>q0n2 l n H
  rw [q0Bg l n h1 (by omega)] at f
  have c:n<l.length:=by omega
  have w:IntKind.i64.wrap ((n:Int)+1)=((n+1:Nat):Int):=w64 (by omega) (by omega)
  rw [seekP]
  cases q:mustP l n with
  |true=>
   rw [q] at f
   unfold q0W9
   rw [q003]
   simp [c,f]
  |false=>
   rw [q] at f
   have ih:=q0i2 l hl H B k (n+1) (by omega) (by omega)
   rw [if_neg (by decide),←ih]
   conv=>lhs;unfold q0W9
   rw [q003]
   simp [c,f,w]
   rfl
theorem q0i3 (l:List Item) (hl:l.length≤1000000) (a:Int) (H:Heap):clD EE (.p (.fn 279)) [q006 l,vI a] H=some (vI (q010 l a),none):=by
 rw [q002 _ _ _ _ _ _ (noP _) fn279]
 unfold q010 pos
 by_cases c:(l.length:Int)≤max a 0
 ·have e:l.length-(max a 0).toNat=0:=by omega
  rw [e]
  simp [St.enter,q000,c,seekP]
 ·have w:IntKind.i64.wrap (max a 0+1)=(((max a 0).toNat+1:Nat):Int):=by
   have e:(((max a 0).toNat+1:Nat):Int)=max a 0+1:=by omega
   rw [e];exact w64 (by omega) (by omega)
  have k:=q0i2 l hl H H.length (l.length-((max a 0).toNat+1)) ((max a 0).toNat+1) (by omega) (by omega)
  have e:l.length-((max a 0).toNat+1)+1=l.length-(max a 0).toNat:=by omega
  rw [e] at k
  generalize (max a 0).toNat+1=z at*
  generalize seekP (mustP l) _ z=r at*
  simp [St.enter,q000,c,w,k]
def aftN (l:List Item) (A:Nat) (m:Nat):Bool:=decide (A<m)&&mayN l m
theorem q0f1 (l:List Item) (hl:l.length≤1000000) (a:Int) (H:Heap) (B:Nat): ∀(k n:Nat),n+k=l.length+1→
  evD EE q0W8 ⟨[(0,q006 l),(1,vI a),(5,vI n)],[],H,B,[]⟩=some (if seekP (aftN l (pos a)) k n= -1 then (.exit 0,⟨[(0,q006 l),(1,vI a),(5,vI (l.length+1)),(9,vB false)],[],H,B,[]⟩) else (.ret,⟨[(4,vI (seekP (aftN l (pos a)) k n))],[],H,B,[]⟩))
 |0,n,hk=>by
  have e:n=l.length+1:=by omega
  subst e
  unfold q0W8
  rw [q003]
  simp [seekP,show¬(l.length:Int)+1≤l.length by omega]
 |k+1,n,hk=>by
  have m:=fun H=>q0j8 l hl n H
  have c:n≤l.length:=by omega
  have w:IntKind.i64.wrap ((n:Int)+1)=((n+1:Nat):Int):=w64 (by omega) (by omega)
  have hp:pos a<n↔max a 0<(n:Int):=by unfold pos;omega
  rw [seekP]
  cases q:aftN l (pos a) n with
  |true=>
   unfold aftN mayN at q
   simp only [Bool.and_eq_true,decide_eq_true_eq,hp] at q
   rw [q.2] at m
   rw [if_pos rfl,if_neg (by omega)]
   unfold q0W8
   rw [q003]
   simp [c,m,q.1]
  |false=>
   simp only [Bool.false_eq_true,if_false]
   have ih:=q0f1 l hl a H B k (n+1) (by omega)
   rw [←ih]
   conv=>lhs;unfold q0W8
   rw [q003]
   unfold aftN mayN at q
   by_cases d:max a 0<(n:Int)
   ·rw [decide_eq_true (hp.2 d),Bool.true_and] at q
    rw [q] at m
    simp [c,m,d,w]
    rfl
   ·simp [c,d,w]
    rfl
theorem q0i4 (l:List Item) (A:Nat): ∀(j k n:Nat),n+j=A+1→seekP (aftN l A) (j+k) n=seekP (mayN l) k (A+1)
 |0,k,n,h=>by
  have e:n=A+1:=by omega
  subst e
  rw [Nat.zero_add]
  have: ∀(k n:Nat),A<n→seekP (aftN l A) k n=seekP (mayN l) k n:=by
   intro k
   induction k with
   |zero=>intro n _;rfl
   |succ k ih=>
    intro n h
    have e:aftN l A n=mayN l n:=by unfold aftN;rw [decide_eq_true h,Bool.true_and]
    simp only [seekP,e,ih (n+1) (by omega)]
  exact this k _ (by omega)
 |j+1,k,n,h=>by
  have e:aftN l A n=false:=by unfold aftN;rw [decide_eq_false (by omega),Bool.false_and]
  rw [Nat.succ_add,seekP,e,if_neg (by decide)]
  exact q0i4 l A j k (n+1) (by omega)
theorem q0f2 (l:List Item) (A:Nat): ∀(k n:Nat),n+k≤A+1→seekP (aftN l A) k n= -1
 |0,_,_=>rfl
 |k+1,n,h=>by
  have e:aftN l A n=false:=by unfold aftN;rw [decide_eq_false (by omega),Bool.false_and]
  rw [seekP,e,if_neg (by decide)]
  exact q0f2 l A k (n+1) (by omega)
theorem q0qr (l:List Item) (a:Int):seekP (aftN l (pos a)) l.length 1=q015 l a:=by
 unfold q015
 by_cases c:pos a≤l.length
 ·have e:l.length=pos a+(l.length-pos a):=by omega
  conv=>lhs;rw [e]
  exact q0i4 l (pos a) (pos a) _ 1 (by omega)
 ·rw [q0f2 l (pos a) _ 1 (by omega),show l.length-pos a=0 by omega];rfl
theorem q0qs (l:List Item) (hl:l.length≤1000000) (a:Int) (H:Heap):clD EE (.p (.fn 267)) [q006 l,vI a] H=some (vI (q015 l a),none):=by
 rw [q002 _ _ _ _ _ _ (noP _) fn267]
 have k:=q0f1 l hl a H H.length l.length 1 (by omega)
 rw [q0qr] at k
 by_cases c:q015 l a= -1
 ·rw [if_pos c] at k
  simp at k
  rw [c]
  simp [St.enter,q000,k]
 ·rw [if_neg c] at k
  simp at k
  simp [St.enter,q000,k]
def rbE (l:List Item) (a:Int) (H:Heap) (acc:List Int) (b:Int):St:=⟨[(0,q006 l),(1,vI a),(5,.row H.length acc.length 0 acc.length),(6,vI b)],[],H++[.row 1 (upV (acc.map encI))],H.length,[]⟩
def rbX (l:List Item) (a:Int) (H:Heap) (acc:List Int) (b:Int):Ex×St:=(.exit 0,⟨[(0,q006 l),(1,vI a),(5,.row H.length acc.length 0 acc.length),(6,vI b),(11,vB false)],[],H++[.row 1 (upV (acc.map encI))],H.length,[]⟩)
theorem rb_lp (l:List Item) (hl:l.length≤1000000) (a:Int) (hF:q010 l a≤l.length) (H:Heap): ∀(k n:Nat) (acc:List Int),((n:Int)+k=q010 l a+1∨(k=0∧q010 l a<n))→1≤n→acc.length≤n→
  ∃b,evD EE q0W5 (rbE l a H acc n)=some (rbX l a H (acc++((List.range' n k).filter (aftN l (pos a))).map Int.ofNat) b)
 |0,n,acc,hk,h1,ha=>by
  have f:=fun H=>q0i3 l hl a H
  have c: ¬(n:Int)≤q010 l a:=by omega
  refine ⟨n,?_⟩
  unfold q0W5
  rw [q003]
  simp [rbE,rbX,f,c]
 |k+1,n,acc,hk,h1,ha=>by
  have f:=fun H=>q0i3 l hl a H
  have m:=fun H=>q0j8 l hl n H
  have c:(n:Int)≤q010 l a:=by omega
  have w:IntKind.i64.wrap ((n:Int)+1)=((n+1:Nat):Int):=w64 (by omega) (by omega)
  have hp:pos a<n↔max a 0<(n:Int):=by unfold pos;omega
  have hm:acc.length+1<most:=by unfold most;omega
  rw [List.range'_succ,List.filter_cons]
  cases q:aftN l (pos a) n with
  |true=>
   obtain ⟨b,ih⟩:=rb_lp l hl a hF H k (n+1) (acc++[(n:Int)]) (by left;push_cast;omega) (by omega) (by simp;omega)
   refine ⟨b,?_⟩
   have e:acc++List.map Int.ofNat (n::List.filter (aftN l (pos a)) (List.range' (n+1) k))=(acc++[(n:Int)])++(List.filter (aftN l (pos a)) (List.range' (n+1) k)).map Int.ofNat:=by simp
   rw [if_pos rfl,e,←ih]
   conv=>lhs;unfold q0W5
   rw [q003]
   unfold aftN mayN at q
   simp only [Bool.and_eq_true,decide_eq_true_eq,hp] at q
   rw [q.2] at m
   simp [rbE,c,f,m,q.1,w,hm]
   rfl
  |false=>
   obtain ⟨b,ih⟩:=rb_lp l hl a hF H k (n+1) acc (by left;push_cast;omega) (by omega) (by omega)
   refine ⟨b,?_⟩
   rw [if_neg (by decide),←ih]
   conv=>lhs;unfold q0W5
   rw [q003]
   unfold aftN mayN at q
   by_cases d:max a 0<(n:Int)
   ·rw [decide_eq_true (hp.2 d),Bool.true_and] at q
    rw [q] at m
    simp [rbE,c,f,m,d,w]
    rfl
   ·simp [rbE,c,f,d,w]
    rfl
theorem q0te (l:List Item) (a:Int):q010 l a= -1∨((pos a:Int)<q010 l a∧q010 l a≤l.length):=by
 have:=q07g (mustP l) (l.length-pos a) (pos a+1)
 unfold q010
 omega
theorem q0x1 (l:List Item) (A F N:Nat) (hA:A≤F) (hF:F≤N):(List.range' 1 F).filter (aftN l A)=(List.range' (A+1) (N-A)).filter fun (m:Nat)=>decide ((m:Int)≤(F:Int))&&mayN l m:=by
 have e1:F=A+(F-A):=by omega
 have e2:N-A=(F-A)+(N-F):=by omega
 have s1:List.range' 1 F=List.range' 1 A++List.range' (A+1) (F-A):=by
  conv=>lhs;rw [e1]
  rw [←List.range'_append_1,Nat.add_comm 1 A]
 have s2:List.range' (A+1) (N-A)=List.range' (A+1) (F-A)++List.range' (F+1) (N-F):=by
  rw [e2,←List.range'_append_1];congr 2;omega
 rw [s1,s2,List.filter_append,List.filter_append]
 have z1:(List.range' 1 A).filter (aftN l A)=[]:=by
  rw [List.filter_eq_nil_iff]
  intro x hx
  have:=List.mem_range'_1.1 hx
  unfold aftN;simp;omega
 have z2:(List.range' (F+1) (N-F)).filter (fun (m:Nat)=>decide ((m:Int)≤(F:Int))&&mayN l m)=[]:=by
  rw [List.filter_eq_nil_iff]
  intro x hx
  have:=List.mem_range'_1.1 hx
  simp;omega
 rw [z1,z2,List.nil_append,List.append_nil]
 refine List.filter_congr fun x hx=> ?_
 have:=List.mem_range'_1.1 hx
 have h1:A<x:=by omega
 have h2:(x:Int)≤F:=by omega
 unfold aftN
 rw [decide_eq_true h1,decide_eq_true h2]
theorem q0qt (l:List Item) (hl:l.length≤1000000) (a:Int) (H:Heap):clD EE (.p (.fn 201)) [q006 l,vI a] H=some (sli (brkF l a),none):=by
 rw [q002 _ _ _ _ _ _ (noP _) fn201]
 have fb:=q0te l a
 obtain ⟨b,k⟩:=rb_lp l hl a (by omega) H (q010 l a).toNat 1 [] (by omega) (by omega) (by simp)
 have e:(List.range' 1 (q010 l a).toNat).filter (aftN l (pos a))=brkN l a:=by
  unfold brkN
  rcases fb with h|⟨h1,h2⟩
  ·rw [h]
   symm
   change List.filter _ _=[]
   rw [List.filter_eq_nil_iff]
   intro x _
   simp;omega
  ·have h3:((q010 l a).toNat:Int)=q010 l a:=by omega
   rw [q0x1 l (pos a) (q010 l a).toNat l.length (by omega) (by omega),h3]
 rw [e,List.nil_append] at k
 change _=some (rbX l a H (brkF l a) b) at k
 generalize brkF l a=R at*
 simp [rbE,rbX] at k
 simp [St.enter,q000,k]
abbrev c6 (t:Tot):List V:=[vI t.nat,vI t.s0,vI t.s1,vI t.s2,vI t.s3,vI t.shr]
theorem q0f3 (t:Tot) (H:Heap):clD EE (.p (.fn 327)) [vTot t] H=some (.agg (c6 t),none):=by
 rw [q002 _ _ _ _ _ _ (noP _) fn327]
 simp [St.enter,q000,subs,q001,ixaV,q007]
theorem q0x2 (t:Tot) (H:Heap):clD EE (.p (.fn 328)) [.agg (c6 t)] H=some (vTot t,none):=by
 rw [q002 _ _ _ _ _ _ (noP _) fn328]
 simp [St.enter,q000,subs,q001,ixaV,q007]
theorem q057 (a b:Int) (ha:I64 a) (hb:I64 b) (hc:I64 (a+b)) (H:Heap):clD EE (.p (.fn 324)) [vI a,vI b] H=some (.agg [vI (a+b),vB true],none):=by
 rw [q002 _ _ _ _ _ _ (noP _) fn324]
 obtain ⟨a1,a2⟩:=ha
 obtain ⟨b1,b2⟩:=hb
 obtain ⟨c1,c2⟩:=hc
 have w:IntKind.i64.wrap (a+b)=a+b:=w64 (by omega) (by omega)
 by_cases p:0<b
 ·have w2:IntKind.i64.wrap (9223372036854775807-b)=9223372036854775807-b:=w64 (by omega) (by omega)
  have q: ¬9223372036854775807-b<a:=by omega
  have q2: ¬b<0:=by omega
  simp [St.enter,q000,subs,q001,p,w2,q,q2,w]
 ·by_cases n:b<0
  ·have w2:IntKind.i64.wrap (-9223372036854775808-b)= -9223372036854775808-b:=w64 (by omega) (by omega)
   have q: ¬a< -9223372036854775808-b:=by omega
   simp [St.enter,q000,subs,q001,p,n,w2,q,w]
  ·simp [St.enter,q000,subs,q001,p,n,w]
theorem q0qu (a b:Tot) (ha:inT64 a) (hb:inT64 b) (hc:inT64 (addT a b)) (H:Heap):clD EE (.p (.fn 252)) [vTot a,vTot b] H=some (.agg (c6 (addT a b)++[vB true]),none):=by
 rw [q002 _ _ _ _ _ _ (noP _) fn252]
 have na:=fun H=>q0f3 a H
 have nb:=fun H=>q0f3 b H
 have k0:=fun H=>q057 _ _ ha.nat hb.nat hc.nat H
 have k1:=fun H=>q057 _ _ ha.s0 hb.s0 hc.s0 H
 have k2:=fun H=>q057 _ _ ha.s1 hb.s1 hc.s1 H
 have k3:=fun H=>q057 _ _ ha.s2 hb.s2 hc.s2 H
 have k4:=fun H=>q057 _ _ ha.s3 hb.s3 hc.s3 H
 have k5:=fun H=>q057 _ _ ha.shr hb.shr hc.shr H
 have o:=fun H=>q0x2 (addT a b) H
 unfold addT at o⊢
 simp only [c6] at na nb o⊢
 have w1:IntKind.i64.wrap 1=1:=by decide
 have w2:IntKind.i64.wrap 2=2:=by decide
 have w3:IntKind.i64.wrap 3=3:=by decide
 have w4:IntKind.i64.wrap 4=4:=by decide
 have w5:IntKind.i64.wrap 5=5:=by decide
 have w6:IntKind.i64.wrap 6=6:=by decide
 simp [St.enter,q000,subs,q001,ixaV,q007,q0Xk,q003,na,nb,k0,k1,k2,k3,k4,k5,o,w1,w2,w3,w4,w5,w6]
theorem q0tf (h:Int) (H:Heap):clD EE (.p (.fn 329)) [vI h] H=some (vTot ⟨h,0,0,0,0,0⟩,none):=by
 rw [q002 _ _ _ _ _ _ (noP _) fn329]
 simp [St.enter,q000,subs,q001]
theorem q0qv (h str ord shr:Int) (H:Heap):clD EE (.p (.fn 330)) [vI h,vI str,vI ord,vI shr] H=some (vTot (glueT h str ord shr),none):=by
 rw [q002 _ _ _ _ _ _ (noP _) fn330]
 unfold glueT
 by_cases c0:ord=0
 ·simp [St.enter,q000,subs,q001,c0,ixaV,q007]
 ·by_cases c1:ord=1
  ·simp [St.enter,q000,subs,q001,c1,ixaV,q007]
  ·by_cases c2:ord=2
   ·simp [St.enter,q000,subs,q001,c2,ixaV,q007]
   ·by_cases c3:ord=3
    ·simp [St.enter,q000,subs,q001,c3,ixaV,q007]
    ·by_cases c4:ord<0
     ·simp [St.enter,q000,subs,q001,c0,c1,c2,c3,show¬0≤ord by omega]
     ·simp [St.enter,q000,subs,q001,c0,c1,c2,c3,show 0≤ord by omega,show¬ord≤3 by omega]
theorem q0nv (x:Item) (H:Heap):clD EE (.p (.fn 253)) [vItem x] H=some (vTot (totI x),none):=by
 rw [q002 _ _ _ _ _ _ (noP _) fn253]
 have b:=fun H=>q0tf x.h H
 have g:=fun H=>q0qv x.h x.str x.ord x.shr H
 unfold totI
 by_cases k1:x.k=1
 ·simp [St.enter,q000,subs,q001,k1,b]
 ·by_cases k2:x.k=2
  ·simp only [k2,if_neg (show¬(2:Int)=1 by decide),if_true]
   generalize glueT x.h x.str x.ord x.shr=t at*
   simp [St.enter,q000,subs,q001,k2,g]
  ·simp [St.enter,q000,subs,q001,k1,k2,zeroT]
def rsS (a b:Int) (t:Tot) (i:Nat) (x:Item):Tot:=if a≤i∧(i:Int)<b then addT t (totI x) else t
theorem q0i5 {α τ:Type} (f:τ→Nat→α→τ): ∀(l:List α) (s:τ) (i n:Nat) (x:α),l[n]? =some x→fold f s i (l.take (n+1))=f (fold f s i (l.take n)) (i+n) x
 |[],s,i,n,x,h=>by simp at h
 |y::r,s,i,0,x,h=>by simp at h;subst h;simp [fold]
 |y::r,s,i,n+1,x,h=>by
  simp only [List.take_succ_cons,fold]
  rw [q0i5 f r _ (i+1) n x (by simpa using h)]
  congr 1;omega
theorem q0x3 (p q x:Tot):addT (subT p q) x=subT (addT p x) q:=by
 unfold addT subT;congr 1<;>simp only<;>omega
theorem q0tg (x:Tot):addT zeroT x=x:=by unfold addT zeroT;simp
theorem q0x4 (p x:Tot):subT (addT p x) p=x:=by
 obtain ⟨a,b,c,d,e,f⟩:=x
 unfold addT subT;congr 1<;>simp<;>omega
theorem q0th (l:List Item) (n:Nat) (x:Item) (h:l[n]? =some x):totP (l.take (n+1))=addT (totP (l.take n)) (totI x):=by
 have hlt:=(List.getElem?_eq_some_iff.1 h).1
 have e:l.take (n+1)=l.take n++[x]:=by
  rw [List.take_add_one,h];rfl
 rw [e,q0iy]
theorem q0x5 (l:List Item) (a b:Int):fold (rsS a b) zeroT 0 l=sumT l a b:=by
 have key: ∀n,n≤l.length→fold (rsS a b) zeroT 0 (l.take n)=if (max a 0).toNat<min (max b 0).toNat n then subT (totP (l.take (min (max b 0).toNat n))) (totP (l.take (max a 0).toNat)) else zeroT:=by
  intro n
  induction n with
  |zero=>intro _;simp [fold]
  |succ n ih=>
   intro hn
   have hx:l[n]? =some l[n]:=List.getElem?_eq_getElem (by omega)
   rw [q0i5 _ l _ 0 n _ hx,ih (by omega),Nat.zero_add]
   have ht:=q0th l n _ hx
   generalize l[n]=x at*
   unfold rsS
   by_cases c:a≤(n:Int)∧(n:Int)<b
   ·rw [if_pos c]
    have e1:min (max b 0).toNat (n+1)=n+1:=by omega
    have e2:min (max b 0).toNat n=n:=by omega
    rw [e1,e2,if_pos (show (max a 0).toNat<n+1 by omega),ht]
    by_cases d:(max a 0).toNat<n
    ·rw [if_pos d,q0x3]
    ·have e3:(max a 0).toNat=n:=by omega
     rw [if_neg d,e3,q0x4,q0tg]
   ·rw [if_neg c]
    by_cases d:(n:Int)<a
    ·rw [if_neg (by omega),if_neg (by omega)]
    ·have e1:min (max b 0).toNat (n+1)=(max b 0).toNat:=by omega
     have e2:min (max b 0).toNat n=(max b 0).toNat:=by omega
     rw [e1,e2]
 have h:=key l.length (Nat.le_refl _)
 rw [List.take_length] at h
 rw [h]
 unfold sumT
 by_cases c:max a 0<min b l.length
 ·have e:min (max b 0).toNat l.length=(min b l.length).toNat:=by omega
  rw [if_pos c,e,if_pos (by omega)]
 ·rw [if_neg c,if_neg (by omega)]
def rtE (l:List Item) (a b:Int) (H:Heap) (t:Tot) (i:Nat):St:=⟨[(0,q006 l),(1,vI a),(2,vI b),(6,.lptr 6 0),(7,.lptr 7 0),(8,vI i)],[(6,c6 zeroT),(7,c6 t)],H,H.length,[]⟩
def rtX (l:List Item) (a b:Int) (H:Heap) (t:Tot):Ex×St:=(.exit 0,⟨[(0,q006 l),(1,vI a),(2,vI b),(6,.lptr 6 0),(7,.lptr 7 0),(8,vI l.length),(12,vB false)],[(6,c6 zeroT),(7,c6 t)],H,H.length,[]⟩)
theorem q0ti (l:List Item) (hl:l.length≤1000000) (hf: ∀x∈l,fairI x) (a b:Int) (H:Heap):clD EE (.p (.fn 156)) [q006 l,vI a,vI b] H=some (vTot (sumT l a b),none):=by
 rw [q002 _ _ _ _ _ _ (noP _) fn156]
 have k:evD EE q0Wv (rtE l a b H zeroT 0)=some (rtX l a b H (sumT l a b)):=by
  unfold q0Wv
  refine Eq.trans (q00u l (fun t i=>rtE l a b H t i) (fun t i=>inT (4294967296*i) t∧i≤l.length) (rsS a b) (fun t=>rtX l a b H t) (fun _ _=>rfl) ?_ ?_ zeroT 0 ⟨by simpa using q0mw,Nat.zero_le _⟩ (Nat.zero_le _)) (by rw [List.drop_zero,q0x5])
  ·rintro t i x ⟨ht,hi⟩ hx
   have hlt:=(List.getElem?_eq_some_iff.1 hx).1
   have w:IntKind.i64.wrap ((i:Int)+1)=((i+1:Nat):Int):=w64 (by omega) (by omega)
   have hix:=fun H k=>q00c H q004 (k:=k) (s:=7) hx rfl
   simp only [q004] at hix
   have hxt:=q0ch (hf x (List.mem_of_getElem? hx))
   have hs:=q0po ht hxt
   have ra:=fun H=>q0qu t (totI x) (q04g ht (by omega)) (q04g hxt (by omega)) (q04g hs (by omega)) H
   have rt:=fun H=>q0nv x H
   have mono: ∀ {m k:Int} {t:Tot},inT m t→m≤k→inT k t:=by
    intro m k t h hm
    obtain ⟨⟨a1,a2⟩,⟨a3,a4⟩,⟨a5,a6⟩,⟨a7,a8⟩,⟨a9,b1⟩,⟨b2,b3⟩⟩:=h
    constructor<;>constructor<;>omega
   refine ⟨?_,?_,hlt⟩
   ·unfold rsS
    by_cases c1:a≤i
    ·by_cases c2:(i:Int)<b
     ·rw [if_pos ⟨c1,c2⟩]
      generalize addT t (totI x)=u at*
      generalize totI x=v at*
      simp [rtE,c6,zeroT,hlt,hix,subs,q001,fldvV,w,c1,c2,rt,ra]
     ·rw [if_neg (fun h=>c2 h.2)]
      simp [rtE,c6,zeroT,hlt,hix,subs,q001,w,c1,c2]
    ·rw [if_neg (fun h=>c1 h.1)]
     simp [rtE,c6,zeroT,hlt,hix,subs,q001,w,c1]
   ·unfold rsS
    split
    ·exact mono hs (by omega)
    ·exact mono ht (by omega)
  ·rintro t-
   refine ⟨?_,by simp [rtX]⟩
   simp [rtE,rtX]
 generalize sumT l a b=t at*
 simp [rtE,rtX,c6,zeroT] at k
 simp [St.enter,q000,subs,q001,k]
theorem q0tj (t:Tot) (H:Heap):clD EE (.p (.fn 251)) [vTot t] H=some (vI (ordT t),none):=by
 rw [q002 _ _ _ _ _ _ (noP _) fn251]
 have w1:IntKind.i64.wrap 1=1:=by decide
 have w2:IntKind.i64.wrap 2=2:=by decide
 have w3:IntKind.i64.wrap 3=3:=by decide
 have w4:IntKind.i64.wrap 4=4:=by decide
 unfold ordT
 by_cases a0:t.s0=0<;>by_cases a1:t.s1=0<;>by_cases a2:t.s2=0<;>by_cases a3:t.s3=0<;>
  simp [St.enter,q000,subs,q001,ixaV,q007,q08i,q003,w1,w2,w3,w4,a0,a1,a2,a3]
theorem q0qw (t:Tot) (H:Heap):clD EE (.p (.fn 374)) [vTot t] H=some (.agg (c6 t),none):=by
 rw [q002 _ _ _ _ _ _ (noP _) fn374]
 simp [St.enter,q000,subs,q001,ixaV,q007]
def offN (n:Int):Bool:=decide (n<0)||decide (1125899906842624<n)
theorem q0tk (n:Int):fairL n= !offN n:=by
 unfold fairL offN
 by_cases a:0≤n<;>by_cases b:n≤1125899906842624<;>simp [a,b]<;>omega
theorem q0tl (t:Tot) (H:Heap):clD EE (.p (.fn 326)) [vTot t] H=some (vB (q03k t),none):=by
 rw [q002 _ _ _ _ _ _ (noP _) fn326]
 have n:=fun H=>q0qw t H
 have e:q03k t= !([t.nat,t.s0,t.s1,t.s2,t.s3,t.shr].any offN):=by
  unfold q03k
  simp only [q0tk,List.any_cons,List.any_nil,Bool.or_false,Bool.not_or]
  cases offN t.nat<;>cases offN t.s0<;>cases offN t.s1<;>cases offN t.s2<;>cases offN t.s3<;>simp
 rw [e]
 have k:evD EE q0X9 ⟨[(3,.lptr 3 0),(4,vI 0)],[(3,c6 t)],H,H.length,[]⟩=some (if [t.nat,t.s0,t.s1,t.s2,t.s3,t.shr].any offN=true then (.ret,⟨[(2,vB false)],[],H,H.length,[]⟩) else (.exit 0,⟨[(3,.lptr 3 0),(4,vI 6),(8,vB false)],[(3,c6 t)],H,H.length,[]⟩)):=by
  unfold q0X9
  refine Eq.trans (q013 [t.nat,t.s0,t.s1,t.s2,t.s3,t.shr] (fun (_:Unit) i=>⟨[(3,.lptr 3 0),(4,vI i)],[(3,c6 t)],H,H.length,[]⟩) (fun _ _=>True) (stepB offN (.ret,⟨[(2,vB false)],[],H,H.length,[]⟩)) (fun _=>(.exit 0,⟨[(3,.lptr 3 0),(4,vI 6),(8,vB false)],[(3,c6 t)],H,H.length,[]⟩)) (fun _ _=>rfl) ?_ ?_ () 0 trivial (Nat.zero_le _)) (by rw [List.drop_zero,q043])
  ·rintro _ i x-hx
   have hlt:i<6:=by have:=(List.getElem?_eq_some_iff.1 hx).1;simpa using this
   have hi:(i:Int)<6:=by omega
   have w:IntKind.i64.wrap ((i:Int)+1)=((i+1:Nat):Int):=w64 (by omega) (by omega)
   have ex:subs (c6 t) i 1=some [vI x]:=by
    have e:i=0∨i=1∨i=2∨i=3∨i=4∨i=5:=by omega
    rcases e with rfl|rfl|rfl|rfl|rfl|rfl<;>simp at hx<;>subst hx<;>rfl
   have hne: ¬c6 t=[]:=by simp
   generalize c6 t=A at*
   by_cases c:x<0
   ·simp [stepB,offN,hi,ixaV,q007,ex,hne,c]
   ·by_cases d:1125899906842624<x
    ·simp [stepB,offN,hi,ixaV,q007,ex,hne,c,d]
    ·simp [stepB,offN,hi,ixaV,q007,ex,hne,c,d,w]
  ·rintro _-
   simp
 simp only [c6] at n k
 cases q:[t.nat,t.s0,t.s1,t.s2,t.s3,t.shr].any offN with
 |true=>
  rw [q,if_pos rfl] at k
  simp [St.enter,q000,subs,q001,n,k]
 |false=>
  rw [q,if_neg (by decide)] at k
  simp [St.enter,q000,subs,q001,n,k]
theorem q0nw (t:Tot) (h:Int) (H:Heap):clD EE (.p (.fn 250)) [vTot t,vI h] H=some (vB (q04u t h),none):=by
 rw [q002 _ _ _ _ _ _ (noP _) fn250]
 have f:=fun H=>q0tl t H
 unfold q04u
 cases c:q03k t with
 |false=>simp [St.enter,q000,subs,q001,f,c]
 |true=>by_cases d: -1125899906842624≤h<;>simp [St.enter,q000,subs,q001,f,c,d]
theorem q0qx (t:Tot) (h:Int) (last:Bool) (H:Heap):clD EE (.p (.fn 155)) [vTot t,vI h,vB last] H=some (vSet (q07f t h last),none):=by
 rw [q002 _ _ _ _ _ _ (noP _) fn155]
 have r:=fun H=>q0nw t h H
 have o:=fun H=>q0tj t H
 unfold q07f
 cases c:q04u t h with
 |false=>simp [St.enter,q000,subs,q001,r,c,zeroG]
 |true=>
  have bd:=q0j5 c
  have hfl:q03k t=true:=by unfold q04u at c;simp at c;exact c.1.1
  have fb:0≤t.s1∧0≤t.s2∧0≤t.s3:=by unfold q03k fairL at hfl;simp at hfl;omega
  obtain ⟨need,hneed⟩: ∃n,h-t.nat=n:=⟨_,rfl⟩
  have w1:IntKind.i64.wrap (h-t.nat)=need:=by rw [hneed];exact w64 (by omega) (by omega)
  have w2:IntKind.i64.wrap (need+t.shr)=t.shr+need:=by rw [Int.add_comm];exact w64 (by omega) (by omega)
  have w3:IntKind.i64.wrap (-need)= -need:=w64 (by omega) (by omega)
  have ho:(ordT t=0∧strT t (ordT t)=t.s0)∨(ordT t=1∧strT t (ordT t)=t.s1∧0<t.s1)∨(ordT t=2∧strT t (ordT t)=t.s2∧0<t.s2)∨(ordT t=3∧strT t (ordT t)=t.s3∧0<t.s3):=by
   unfold ordT
   (repeat' split)<;>simp [strT]<;>omega
  have hq:(0≤t.shr+need)↔(-need≤t.shr):=by omega
  simp only [hneed]
  clear hneed bd
  generalize strT t (ordT t)=str at*
  generalize ordT t=od at*
  simp only [if_true]
  by_cases n0:need=0
  ·subst n0
   simp [St.enter,q000,subs,q001,r,c,o,w1,zeroG]
  ·by_cases n1:0<need
   ·rcases ho with ⟨rfl,rfl⟩|⟨rfl,rfl,s⟩|⟨rfl,rfl,s⟩|⟨rfl,rfl,s⟩
    ·by_cases s:0<t.s0
     ·cases last<;>simp [St.enter,q000,subs,q001,ixaV,q007,r,c,o,w1,w2,n0,n1,s]
     ·simp [St.enter,q000,subs,q001,ixaV,q007,r,c,o,w1,w2,n0,n1,s]
    ·simp [St.enter,q000,subs,q001,ixaV,q007,r,c,o,w1,w2,n0,n1,s]
    ·simp [St.enter,q000,subs,q001,ixaV,q007,r,c,o,w1,w2,n0,n1,s]
    ·simp [St.enter,q000,subs,q001,ixaV,q007,r,c,o,w1,w2,n0,n1,s]
   ·have ho': ∃x:Int,od=x:=⟨_,rfl⟩
    by_cases n2: -need≤t.shr
    ·rcases ho with ⟨rfl,rfl⟩|⟨rfl,rfl,s⟩|⟨rfl,rfl,s⟩|⟨rfl,rfl,s⟩<;>simp [St.enter,q000,subs,q001,r,c,o,w1,w2,w3,n0,n1,n2,hq]
    ·rcases ho with ⟨rfl,rfl⟩|⟨rfl,rfl,s⟩|⟨rfl,rfl,s⟩|⟨rfl,rfl,s⟩<;>simp [St.enter,q000,subs,q001,r,c,o,w1,w2,w3,n0,n1,n2,hq]
theorem q0x6 (n:Int) (H:Heap):clD EE (.p (.fn 325)) [vI n] H=some (vI (hz n),none):=by
 rw [q002 _ _ _ _ _ _ (noP _) fn325]
 have e:max 0 (min n 1125899906842624)=hz n:=by simp only [hz,fz];omega
 simp [St.enter,q000,e]
def rqhE (l:List Float) (xs:List Int) (sep:Int) (H:Heap) (s:Int) (i:Nat):St:=
 ⟨[(0,q005 l),(1,sli xs),(2,vI sep),(7,vI s),(8,vI i)],[],H,H.length,[]⟩
def rqhX (l:List Float) (xs:List Int) (sep:Int) (H:Heap) (s:Int):Ex×St:=
 (.exit 0,⟨[(0,q005 l),(1,sli xs),(2,vI sep),(7,vI s),(8,vI xs.length),(12,vB false)],[],H,H.length,[]⟩)
theorem q0qy (l:List Float) (xs:List Int) (sep:Int) (H:Heap) (hx:xs.length≤1000000):evD EE q0X3 (rqhE l xs sep H 0 0)=some (rqhX l xs sep H (highQ l xs sep)):=by
 unfold q0X3
 refine Eq.trans (q00u xs (rqhE l xs sep H) (fun s _=>0≤s∧s≤fz) (fun s _ x=>hiS l sep s x) (rqhX l xs sep H) (fun _ _=>rfl) ?_ ?_ 0 0 (by simp) (Nat.zero_le _)) (by rw [List.drop_zero,foldG];rfl)
 ·intro s i x hi hp
  have hlt:=(List.getElem?_eq_some_iff.1 hp).1
  have hix:=fun H k=>q00c H encI (k:=k) (s:=1) hp rfl
  have w:IntKind.i64.wrap ((i:Int)+1)=((i+1:Nat):Int):=w64 (by omega) (by omega)
  unfold hiS atF
  by_cases h0:0≤x
  ·by_cases h1:x<l.length
   ·rw [if_pos ⟨h0,h1⟩]
    have hg:=q026 l x h0 h1
    have hiy:=fun H k=>q024 H q009 (k:=k) (s:=3) h0 hg rfl
    generalize rd l x=f at*
    refine ⟨?_,hz_in _⟩
    have b1:=hz_in f.h
    have b2:=hz_in sep
    simp only [fz] at b1 b2 hi
    have w1:IntKind.i64.wrap (s+hz f.h)=s+hz f.h:=w64 (by omega) (by omega)
    have w2:IntKind.i64.wrap (s+hz f.h+hz sep)=s+hz f.h+hz sep:=w64 (by omega) (by omega)
    simp [rqhE,hlt,hix,hiy,encI,q009,subs,q001,h0,h1,w,q0x6,w1,w2]
   ·rw [if_neg (fun h=>h1 h.2)]
    refine ⟨?_,hi⟩
    simp [rqhE,hlt,hix,encI,subs,q001,h0,h1,w]
  ·rw [if_neg (fun h=>h0 h.1)]
   refine ⟨?_,hi⟩
   simp [rqhE,hlt,hix,encI,subs,q001,h0,w]
 ·intro s hi
  refine ⟨?_,by simp [rqhX]⟩
  simp [rqhE,rqhX]
theorem q06k (l:List Float) (xs:List Int) (sep:Int) (H:Heap) (hx:xs.length≤1000000):clD EE (.p (.fn 249)) [q005 l,sli xs,vI sep] H=some (vI (highQ l xs sep),none):=by
 rw [q002 _ _ _ _ _ _ (noP _) fn249]
 have k:=q0qy l xs sep H hx
 simp [rqhE,rqhX] at k
 simp [St.enter,q000,k]
def rqE (g:Geom) (bit many maxH:Int) (l:List Float) (xs:List Int) (H:Heap) (i:Nat):St:=
 ⟨[(1,q005 l),(2,sli xs),(3,vI bit),(4,vI many),(5,vI maxH),(6,.lptr 6 0),(13,vI i)],[(6,cGeom g)],H,H.length,[]⟩
def rqX (g:Geom) (bit many maxH:Int) (l:List Float) (xs:List Int) (H:Heap):Ex×St:=
 (.exit 0,⟨[(1,q005 l),(2,sli xs),(3,vI bit),(4,vI many),(5,vI maxH),(6,.lptr 6 0),(13,vI xs.length),(17,vB false)],[(6,cGeom g)],H,H.length,[]⟩)
def rqB (H:Heap):Ex×St:=(.ret,⟨[(12,vB false)],[],H,H.length,[]⟩)
theorem rq_lp (g:Geom) (bit many maxH:Int) (l:List Float) (xs:List Int) (H:Heap) (hx:xs.length≤1000000):
  evD EE q0gj (rqE g bit many maxH l xs H 0)=some (if xs.any (fun x=> !mayAt (fun f=>bitB bit f.w) l x)=true then rqB H else rqX g bit many maxH l xs H):=by
 unfold q0gj
 refine Eq.trans (q013 xs (fun (_:Unit) i=>rqE g bit many maxH l xs H i) (fun _ _=>True) (stepB (fun x=> !mayAt (fun f=>bitB bit f.w) l x) (rqB H)) (fun _=>rqX g bit many maxH l xs H) (fun _ _=>rfl) ?_ ?_ () 0 trivial (Nat.zero_le _)) (by rw [List.drop_zero,q043])
 ·rintro _ i x-hx2
  have hlt:=(List.getElem?_eq_some_iff.1 hx2).1
  have hix:=fun H k=>q00c H encI (k:=k) (s:=1) hx2 rfl
  have w:IntKind.i64.wrap ((i:Int)+1)=((i+1:Nat):Int):=w64 (by omega) (by omega)
  by_cases h0:x<0
  ·have hm:mayAt (fun f=>bitB bit f.w) l x=false:=by unfold mayAt atF;rw [if_neg (by omega)]
   simp [stepB,hm,rqE,rqB,hlt,hix,encI,subs,q001,h0]
  ·by_cases h1:(l.length:Int)≤x
   ·have hm:mayAt (fun f=>bitB bit f.w) l x=false:=by unfold mayAt atF;rw [if_neg (by omega)]
    simp [stepB,hm,rqE,rqB,hlt,hix,encI,subs,q001,h0,h1]
   ·have hg:=q026 l x (by omega) (by omega)
    have hiy:=fun H k=>q024 H q009 (k:=k) (s:=3) (by omega) hg rfl
    have hm:mayAt (fun f=>bitB bit f.w) l x=bitB bit (rd l x).w:=by unfold mayAt atF;rw [if_pos ⟨by omega,by omega⟩]
    have ha:=and_v (rd l x).w bit
    by_cases hb:bitV (rd l x).w bit=0
    ·have hm2:bitB bit (rd l x).w=false:=by simp [bitB,hb]
     simp [stepB,hm,hm2,rqE,rqB,hlt,hix,hiy,encI,q009,subs,q001,h0,h1,ha,hb]
    ·have hm2:bitB bit (rd l x).w=true:=by simp [bitB,hb]
     simp [stepB,hm,hm2,rqE,rqB,hlt,hix,hiy,encI,q009,subs,q001,h0,h1,ha,hb,w]
 ·rintro _-
  refine ⟨?_,by simp [rqX]⟩
  simp [rqE,rqX]
theorem q0i6 (g:Geom) (bit many maxH:Int) (l:List Float) (xs:List Int) (H:Heap) (hx:xs.length≤1000000):
  clD EE (.p (.fn 281)) [vGeom g,q005 l,sli xs,vI bit,vI many,vI maxH] H=some (vB (fitsF many maxH (fun f=>bitB bit f.w) g.sep l xs),none):=by
 rw [q002 _ _ _ _ _ _ (noP _) fn281]
 have key:=rq_lp g bit many maxH l xs H hx
 have hh:=fun H=>q06k l xs g.sep H hx
 unfold fitsF
 have hany:xs.any (fun x=> !mayAt (fun f=>bitB bit f.w) l x)= !xs.all (mayAt (fun f=>bitB bit f.w) l):=by rw [List.any_eq_not_all_not];simp only [Bool.not_not]
 rw [hany] at key
 cases hall:xs.all (mayAt (fun f=>bitB bit f.w) l) with
 |false=>
  rw [hall] at key
  simp [rqE,rqB] at key
  simp [St.enter,q000,subs,q001,key]
 |true=>
  rw [hall] at key
  simp [rqE,rqX] at key
  by_cases h1:(xs.length:Int)≤many
  ·simp [St.enter,q000,subs,q001,h1,key,hh]
  ·simp [St.enter,q000,subs,q001,h1,key,hh]
theorem q0tm (g:Geom) (l:List Float) (p:Pr) (H:Heap) (h1:p.1.length≤1000000) (h2:p.2.length≤1000000):clD EE (.p (.fn 204)) [vGeom g,q005 l,vPair p] H=some (vB (fitT g l p.1&&fitB g l p.2),none):=by
 rw [q002 _ _ _ _ _ _ (noP _) fn204]
 have f1:=fun H=>q0i6 g 1 g.topMany g.topMost l p.1 H h1
 have f2:=fun H=>q0i6 g 2 g.botMany g.botMost l p.2 H h2
 have e1:fitsF g.topMany g.topMost (fun f=>bitB 1 f.w) g.sep l p.1=fitT g l p.1:=rfl
 have e2:fitsF g.botMany g.botMost (fun f=>bitB 2 f.w) g.sep l p.2=fitB g l p.2:=rfl
 rw [e1] at f1
 rw [e2] at f2
 cases h:fitT g l p.1 with
 |true=>
  rw [h] at f1
  simp [St.enter,q000,subs,q001,f1,f2]
 |false=>
  rw [h] at f1
  simp [St.enter,q000,subs,q001,f1,f2]
end Go.EnvOf
