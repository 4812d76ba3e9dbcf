/- The program's functions and the document's, evaluated. -/
import Derived.Test.YtjjdmlpdgcdehaaGreatText8
import Derived.Test.YtjjdmlpdgcdehaaGreatText5
import Derived.Test.YtjjdmlpdgcdehaaGreatText7
import Derived.Test.YtjjdmlpdgcdehaaGreatText6
import Derived.Test.YtjjdmlpdgcdehaaGreatText3
set_option linter.unusedSimpArgs false
set_option linter.unusedVariables false
namespace Go.EnvOf
open Go Go.Eng
set_option maxRecDepth 100000
structure spotB (l:List Note) (s:Spot):Prop where
 l1:l.length<=1000000
 l2: ∀n∈l,n.lines.length<=1000000
 b:s.begun<=l.length
 n0:0<=s.note
 n1:s.note<=1000000
 li:0<=s.line
def lsEnv (h:Nat):List (Nat×V):=[(4,.ptr h 0),(8,allV (h+1))]
def q06a (st:LSt) (h:Nat):DObj:= .loop st (lsEnv h) [9] q0Vt q0Vu
def lsR (h:Nat) (i:Nat) (A:List Nat) (H:Heap):Prop:=i=0/\A=[h,h+3]/\h+3<H.length/\H[h+3]? =some (q06a .ready h)/\Eng.boxAt H h=some [.nils]
def lsF (L:List (List Piece)) (h:Nat) (A:List Nat) (H:Heap):Prop:= ∃p v B,L[0]? =some p/\repP p v H B/\(∀k∈B,h<=k)/\H[h+3]? =some (q06a (.done .ret) h)/\Eng.boxAt H h=some [v]/\h+3<H.length
theorem q07p {p:List Piece} {v:V} {H K:Heap} {B:List Nat} (h:repP p v H B) (g:Stay B H K):repP p v K B:=by
 rcases h with h|⟨id,h1,h2,rfl⟩
 ·exact .inl h
 ·exact .inr ⟨id,h1,g.row h2 (by simp),rfl⟩
theorem q0lp {p:List Piece} {v:V} {H:Heap} {B:List Nat} (h:repP p v H B):v.oneB=true/\v.cells=[v]/\v.notL=true/\outL v=v/\v.outB=true/\normA v=v:=by
 rcases h with ⟨rfl,-⟩|⟨id,rfl,-,-⟩<;>exact ⟨rfl,rfl,rfl,rfl,rfl,rfl⟩
theorem q0Bb (L:List (List Piece)) (h:Nat):Eats repP (h+3) L (lsR h) (lsF L h):=by
 refine ⟨?_,?_,?_⟩
 ·rintro i A H K ⟨rfl,rfl,h1,h2,h3⟩ g
  exact ⟨rfl,rfl,by have:=g.1;omega,by rw [g.2 _ (by simp)];exact h2,g.box h3 (by simp)⟩
 ·rintro i A H ⟨rfl,rfl,h1,h2,h3⟩ k hk
  have:=q02y h3
  simp at hk;omega
 ·rintro i A H x v B hL ⟨rfl,rfl,h1,h2,h3⟩ hr hB
  obtain ⟨o1,o2,o3,o4,o5,o6⟩:=q0lp hr
  have hh:=q02y h3
  have ne:h+3≠h:=by omega
  have b2: ∀o,Eng.boxAt (H.set (h+3) o) h=some [.nils]:=fun o=>(q01p H (h+3) h o ne).trans h3
  refine ⟨false,((H.set (h+3) (q06a .busy h)).set h (.box [v])).set (h+3) (q06a (.done .ret) h),[h,h+3],[h,h+3]++B,?_,by simp,?_,fun k hk=> .inl hk,fun k hk=> ?_,(fun e=>nomatch e),fun _=> ?_⟩
  ·have hs2: ∀o:DObj,((H.set (h+3) (q06a .busy h)).set h o)[h+3]? =some (q06a .busy h):=fun o=>by
    rw [Zr (by omega)];exact ZX h1
   refine q0e5 h2 rfl (env1:=[(4,.ptr h 0),(5,v)]) (loc1:=[]) ?_ (x:= .ret) (env2:=[(4,.ptr h 0)]) (loc2:=[]) (d2:=[h,h+3]) ?_ (hs2 _)
   ·simp [lsEnv,q0Vt]
   ·simp [q0Vu,o1,o2,b2,q001,hh]
    rfl
  ·exact ((Keep.set _ _ _ _ (.inl (by simp))).trans (Keep.set [h,h+3] _ _ _ (.inl (by simp))) (fun k hk=> .inl hk)).trans (Keep.set [h,h+3] _ _ _ (.inl (by simp))) (fun k hk=> .inl hk)
  ·simp only [ZY] at hk
   exact hk.imp id .inl
  ·refine ⟨x,v,B,hL,?_,fun k hk=> ?_,?_,?_,by simpa using h1⟩
   ·refine q07p hr ⟨by simp,fun k hk=> ?_⟩
    have:=hB k hk
    simp at this
    rw [Zr (by omega),Zr (by omega),Zr (by omega)]
   ·have:=(hB k hk).2;omega
   ·exact ZX (by simpa using h1)
   ·rw [q01p _ _ _ _ (by omega)]
    exact q07o _ _ _ (by simpa using hh)
theorem q0a2 (l:List Note) (s:Spot) (o:spotB l s) (H:Heap):clD EE (.p (.fn 260)) [q00b l,vSpot s] H=some (q00v (q05q l s),none):=by
 have al:=fun H=>q0dc l s H
 obtain ⟨H1,hH1⟩: ∃H1,H1=H++[DObj.box [.nils],.box [q00b l],.box (cSpot s)]:=⟨_,rfl⟩
 have hl1:H1.length=H.length+3:=by simp [hH1]
 have e0:lsR H.length 0 [H.length,H.length+3] (H1++[q06a .ready H.length]):=by
  refine ⟨rfl,rfl,by simp [hl1],?_,?_⟩
  ·rw [<-hl1];simp
  ·simp [hH1,Zx]
 obtain ⟨r,h1,A',hk,hd,hs,hR⟩:=q0a5 l s o.l1 o.l2 o.b o.n0 o.n1 o.li (H.length+1) (H.length+3) (q0Bb (q00j l s) H.length) e0 (by simp [hl1]) (by simp [hH1,Zx])
  (by rw [show H.length+1+1=H.length+2 by omega];simp [hH1,Zx]) (by simp) (by simp;omega)
 have hds:(dsOf r).foldr (addD H.length) []=[]:=q0bt fun k hk=>by
  rcases hd k hk with h|h
  ·simp at h;omega
  ·simp [hl1] at h;omega
 rw [q002 _ _ _ _ _ _ (noP _) fn260]
 have hv:(∃f,allV (H.length+1)= .p (.fn f))\/ ∃f u v,allV (H.length+1)= .fn (.func f) u v:= .inr ⟨_,_,_,rfl⟩
 have hloop:q06a .ready H.length= .loop .ready (outE [(4,.ptr H.length 0),(8,allV (H.length+1))]) [9] q0Vt q0Vu:=rfl
 rw [hloop,<-hl1] at h1
 rw [hloop] at hR
 have fin: ∀ {st e ps' a' b'},(hpOf (H1++[DObj.loop .ready (outE [(4,.ptr H.length 0),(8,allV (H.length+1))]) [9] q0Vt q0Vu]) r)[H.length+3]? =some (.loop st e ps' a' b')->st≠ .busy->
   evD EE (.rangeFunc (.t 8) [9] q0Vt q0Vu) ⟨[(4,.ptr H.length 0),(8,allV (H.length+1))],[],H++[DObj.box [.nils],.box [q00b l],.box (cSpot s)],H.length,[]⟩=
    some (exSt st,⟨[(4,.ptr H.length 0),(8,allV (H.length+1))],[],(hpOf (H1++[DObj.loop .ready (outE [(4,.ptr H.length 0),(8,allV (H.length+1))]) [9] q0Vt q0Vu]) r).set (H.length+3) .dead,H.length,[]⟩):=by
  intro st e ps' a' b' hq hst
  have rg:=q0n9 (env:=[(4,.ptr H.length 0),(8,allV (H.length+1))]) (loc:=[]) (hp:=H1) (base:=H.length) (dirty:=[]) (x:= .t 8) (ps:=[9]) hv rfl h1 (by rw [hl1];exact hq) hst
  rw [hds,hl1] at rg
  rw [<-hH1];exact rg
 generalize hpOf (H1++[DObj.loop .ready (outE [(4,.ptr H.length 0),(8,allV (H.length+1))]) [9] q0Vt q0Vu]) r=K at hR fin
 rcases hR with ⟨h0,-,hlt,hq,hb⟩|⟨p,v,B,hL,hr,hB,hq,hb,hlt⟩
 ·have rg:=fin hq (by simp)
  have hnil:q05q l s=[]:=by unfold q05q;rw [ZU.1 h0];rfl
  rw [hnil]
  have b2: ∀o,Eng.boxAt (K.set (H.length+3) o) H.length=some [.nils]:=fun o=>(q01p _ _ _ _ (by omega)).trans hb
  have hlt2:=q02y hb
  have b3: ∀o cs,Eng.boxAt ((K.set (H.length+3) o).set H.length (.box cs)) H.length=some cs:=fun o cs=>q07o _ _ _ (by simpa using hlt2)
  simp [zEc,al,rg,exSt,b2,b3,hlt2]
 ·have rg:=fin hq (by simp)
  have hp:q05q l s=p:=by
   unfold q05q
   cases hc:q00j l s with
   |nil=>rw [hc] at hL;cases hL
   |cons x r=>rw [hc] at hL;simpa using hL
  rw [hp]
  have b2: ∀o,Eng.boxAt (K.set (H.length+3) o) H.length=some [v]:=fun o=>(q01p _ _ _ _ (by omega)).trans hb
  rcases hr with ⟨rfl,-⟩|⟨id,rfl,h2,rfl⟩
  ·simp [zEc,al,rg,exSt,b2]
  ·have hid:H.length<=id:=hB id (by simp)
   have ne:id≠H.length+3:=by
    rintro rfl
    unfold Eng.rowAt at h2
    rw [hq] at h2;cases h2
   have hr2: ∀o,Eng.rowAt (K.set (H.length+3) o) id=some (3,upV (p.map q00g)):=fun o=>(q05l _ _ _ _ (Ne.symm ne)).trans h2
   simp [zEc,al,rg,exSt,b2,hr2,hid]
section
variable {α:Type} [DecidableEq α] {E:Env} (f:FuncId) (s:Nat) (sh:List Bool) (enc:α->List PV)
theorem q0Ds (hp:E.prims f=none) (hf:E.fns f=some (eqI s sh)) (hs: ∀x,(enc x).length=s) (hagg: ∀x,aggOr true ((enc x).map .p)=some (.agg ((enc x).map .p))) (heq: ∀x y,q00h sh ((enc x).map .p) ((enc y).map .p)=some (decide (x=y)))
  (a b:List α) (hn:a.length<=9223372036854775806) (H:Heap) (id:Nat) (hr:Eng.rowAt H id=some (s,upV (a.map enc))):clD E (.p (.fn f)) [.row id a.length 0 a.length,.p (.sl (b.map enc))] H=some (vB (decide (a=b)),none):=by
 rw [q002 E f _ _ _ _ hp hf]
 by_cases hl:a.length=b.length
 ·have key:evD E (eqL s sh) (eqE (.row id a.length 0 a.length) (.p (.sl (b.map enc))) a.length H H.length 0)=some (rng (step2 (fun x y=>decide (x=y)) b (eqBad H H.length)) (fun _=>eqX (.row id a.length 0 a.length) (.p (.sl (b.map enc))) a.length H H.length) () 0 a):=by
   unfold eqL
   refine q013 a (fun (_:Unit) i=>eqE (.row id a.length 0 a.length) (.p (.sl (b.map enc))) a.length H H.length i) (fun _ _=>True) _ (fun _=>eqX (.row id a.length 0 a.length) (.p (.sl (b.map enc))) a.length H H.length) (fun _ _=>rfl) ?_ ?_ () 0 trivial (Zj _)
   ·rintro _ i x-hx
    have hlt:=(Za.1 hx).1
    have hy:b[i]? =some (b[i]'(by omega)):=Zl (by omega)
    generalize (b[i]'(by omega))=y at hy
    have w:IntKind.i64.wrap ((i:Int)+1)=((i+1:Nat):Int):=w64 (by omega) (by omega)
    have hix:=fun k=>q01f H id a.length 0 a.length s k i
    have hg2:(upV (a.map enc))[i]? =some ((enc x).map .p):=by simp [upV,hx]
    have hg: ∀h,(upV (a.map enc))[i]'h=(enc x).map .p:=fun h=>by rw [Zl h] at hg2;exact Option.some.inj hg2
    have hiy:=fun H k=>q00c H enc (k:=k) (s:=s) hy (hs y)
    have hsub: ∀x,subs ((enc x).map V.p) 0 s=some ((enc x).map V.p):=fun x=>by simp [subs,hs x,Zy]
    rw [q04n hy]
    by_cases hxy:x=y
    ·simp [eqE,hlt,hix,hr,hg,hiy,hsub,hagg,heq,hxy,w]
    ·simp [eqE,eqBad,hlt,hix,hr,hg,hiy,hsub,hagg,heq,hxy]
   ·rintro _-
    simp [eqE,eqX]
  rw [q05w (fun x y=>decide (x=y)) b (eqBad H H.length) (eqX (.row id a.length 0 a.length) (.p (.sl (b.map enc))) a.length H H.length) a 0 (by omega),ZG,q06s a b hl] at key
  have hl':(a.length:Int)=b.length:=by omega
  by_cases h:a=b
  ·rw [if_pos (by simpa using h)] at key
   subst h
   simp [eqE,eqX] at key
   simp [zEa,key]
  ·rw [if_neg (by simpa using h)] at key
   have hl2:(b.length:Int)=a.length:=hl'.symm
   simp [eqE,eqBad] at key
   simp [zEa,hl2,key,h]
 ·have hl': ¬(a.length:Int)=b.length:=by omega
  have h:a≠b:=by rintro rfl;exact hl rfl
  simp [zEa,hl',h]
end
def syEnv (h:Nat):List (Nat×V):=[(5,.ptr h 0),(6,.ptr (h+1) 0),(10,allV (h+2))]
def q06b (st:LSt) (h:Nat):DObj:= .loop st (syEnv h) [11] q0Vq q0Vr
def syR (L:List (List Piece)) (x:List Piece) (h:Nat) (i:Nat) (A:List Nat) (H:Heap):Prop:=
 A=[h,h+1,h+4]/\h+4<H.length/\H[h+4]? =some (q06b .ready h)/\Eng.boxAt H h=some [q00v x]/\Eng.boxAt H (h+1)=some [vB false]/\ ∀k p,k<i->L[k]? =some p->p≠x
def syF (L:List (List Piece)) (x:List Piece) (h:Nat) (A:List Nat) (H:Heap):Prop:=
 A=[h,h+1,h+4]/\h+4<H.length/\H[h+4]? =some (q06b (.done .ret) h)/\Eng.boxAt H (h+1)=some [vB true]/\x∈L
theorem q0ww (p x:List Piece) (v:V) (H:Heap) (B:List Nat) (h:repP p v H B) (hp:p.length<=1000000):clD EE (.p (.fn 198)) [v,q00v x] H=some (vB (decide (p=x)),none):=by
 rcases h with ⟨rfl,-⟩|⟨id,rfl,hr,-⟩
 ·exact q0bn p x hp H
 ·rw [q002 _ _ _ _ _ _ (noP _) fn198]
  have:=q0Ds _ 3 _ q00g (noP _) q0d9 (fun _=>rfl) (fun _=>rfl) q083 p x (by omega) H id hr
  simp [zEa,this]
theorem q0Bc (L:List (List Piece)) (hL: ∀p∈L,p.length<=1000000) (x:List Piece) (h:Nat):Eats repP (h+4) L (syR L x h) (syF L x h):=by
 refine ⟨?_,?_,?_⟩
 ·rintro i A H K ⟨rfl,h1,h2,h3,h4,h5⟩ g
  exact ⟨rfl,by have:=g.1;omega,by rw [g.2 _ (by simp)];exact h2,g.box h3 (by simp),g.box h4 (by simp),h5⟩
 ·rintro i A H ⟨rfl,h1,h2,h3,h4,h5⟩ k hk
  have:=q02y h3
  simp at hk;omega
 ·rintro i A H p v B hLi ⟨rfl,h1,h2,h3,h4,h5⟩ hr hB
  obtain ⟨o1,o2,o3,o4,o5,o6⟩:=q0lp hr
  have hh:=q02y h4
  have b2: ∀o,Eng.boxAt (H.set (h+4) o) h=some [q00v x]:=fun o=>(q01p H (h+4) h o (by omega)).trans h3
  have b3: ∀o,Eng.boxAt (H.set (h+4) o) (h+1)=some [vB false]:=fun o=>(q01p H (h+4) (h+1) o (by omega)).trans h4
  have hpm:=Zp hLi
  have sm:=fun o=>q0ww p x v (H.set (h+4) o) B (q07p hr (Stay.set _ _ _ _ (fun hk=>(hB _ hk).1 (by simp)))) (hL p hpm)
  by_cases c:p=x
  ·refine ⟨false,((H.set (h+4) (q06b .busy h)).set (h+1) (.box [vB true])).set (h+4) (q06b (.done .ret) h),[h+1,h+4],[h,h+1,h+4],?_,by simp,?_,fun k hk=> .inl (by simp at hk⊢;omega),fun k hk=> .inl hk,(fun e=>nomatch e),fun _=> ?_⟩
   ·refine q0e5 h2 rfl (env1:=[(5,.ptr h 0),(6,.ptr (h+1) 0),(7,v)]) (loc1:=[]) ?_ (x:= .ret) (env2:=[(6,.ptr (h+1) 0)]) (loc2:=[]) (d2:=[h+1,h+4]) ?_ (by rw [Zr (by omega)];exact ZX h1)
    ·simp [syEnv,q0Vq]
    ·simp [q0Vr,b2,b3,sm,c,o5,o6,q001,subs,hh]
     rfl
   ·exact ((Keep.set _ _ _ _ (.inl (by simp))).trans (Keep.set [h,h+1,h+4] _ _ _ (.inl (by simp))) (fun k hk=> .inl hk)).trans (Keep.set [h,h+1,h+4] _ _ _ (.inl (by simp))) (fun k hk=> .inl hk)
   ·refine ⟨rfl,by simpa using h1,ZX (by simpa using h1),?_,c▸hpm⟩
    rw [q01p _ _ _ _ (by omega)]
    exact q07o _ _ _ (by simpa using hh)
  ·refine ⟨true,(H.set (h+4) (q06b .busy h)).set (h+4) (q06b .ready h),[h+4],[h,h+1,h+4],?_,by simp,?_,fun k hk=> .inl (by simp at hk⊢;omega),fun k hk=> .inl hk,fun _=> ?_,(fun e=>nomatch e)⟩
   ·refine q0e5 h2 rfl (env1:=[(5,.ptr h 0),(6,.ptr (h+1) 0),(7,v)]) (loc1:=[]) ?_ (x:= .normal) (env2:=[(6,.ptr (h+1) 0),(14,vB false)]) (loc2:=[]) (d2:=[h+4]) ?_ (ZX h1)
    ·simp [syEnv,q0Vq]
    ·simp [q0Vr,b2,b3,sm,c,o5,o6,q001,subs,hh]
     rfl
   ·exact (Keep.set _ _ _ _ (.inl (by simp))).trans (Keep.set [h,h+1,h+4] _ _ _ (.inl (by simp))) (fun k hk=> .inl hk)
   ·refine ⟨rfl,by simpa using h1,ZX (by simpa using h1),?_,?_,fun k p' hk hp'=> ?_⟩
    ·rw [q01p _ _ _ _ (by omega)];exact b2 _
    ·rw [q01p _ _ _ _ (by omega)];exact b3 _
    ·by_cases e:k=i
     ·subst e;rw [hLi] at hp';cases hp';exact c
     ·exact h5 k p' (by omega) hp'
theorem q0d0 {l:List Note} {s:Spot} (o:spotB l s): ∀p∈q00j l s,p.length<=1000000:=by
 intro p hp
 have wl: ∀(k:Nat) (a b:Int),(q01j l k a b).length=k:=by
  intro k
  induction k with
  |zero=>intro a b;rfl
  |succ k ih=>intro a b;simp [q01j,ih]
 have hn:openN l s<=1000000:=by
  rw [q08w o.b o.n0 o.li]
  have:=o.b;have:=o.n0;have:=o.l1;omega
 unfold q00j at hp
 rcases ZY.1 hp with h|h
 ·split at h
  ·simp at h;subst h;simp
  ·cases h
 ·split at h
  ·cases h
  ·obtain ⟨t,-,rfl⟩:=ZJ.1 h
   unfold oneP
   rw [Zt,wl]
   simp only [Zg,Zq]
   omega
theorem q0d1 (l:List Note) (s:Spot) (o:spotB l s) (x:List Piece) (H:Heap):clD EE (.p (.fn 186)) [q00b l,vSpot s,q00v x] H=some (vB (mayPc l s x),none):=by
 have al:=fun H=>q0dc l s H
 obtain ⟨H1,hH1⟩: ∃H1,H1=H++[DObj.box [q00v x],.box [vB false],.box [q00b l],.box (cSpot s)]:=⟨_,rfl⟩
 have hl1:H1.length=H.length+4:=by simp [hH1]
 have e0:syR (q00j l s) x H.length 0 [H.length,H.length+1,H.length+4] (H1++[q06b .ready H.length]):=by
  refine ⟨rfl,by simp [hl1],?_,?_,?_,fun k p hk=>by omega⟩
  ·rw [<-hl1];simp
  ·simp [hH1,Zx]
  ·simp [hH1,Zx]
 obtain ⟨r,h1,A',hk,hd,hs,hR⟩:=q0a5 l s o.l1 o.l2 o.b o.n0 o.n1 o.li (H.length+2) (H.length+4) (q0Bc (q00j l s) (q0d0 o) x H.length) e0 (by simp [hl1]) (by simp [hH1,Zx])
  (by rw [show H.length+2+1=H.length+3 by omega];simp [hH1,Zx]) (by simp) (by simp;omega)
 have hds:(dsOf r).foldr (addD H.length) []=[]:=q0bt fun k hk=>by
  rcases hd k hk with h|h
  ·simp at h;omega
  ·simp [hl1] at h;omega
 rw [q002 _ _ _ _ _ _ (noP _) fn186]
 have hv:(∃f,allV (H.length+2)= .p (.fn f))\/ ∃f u v,allV (H.length+2)= .fn (.func f) u v:= .inr ⟨_,_,_,rfl⟩
 have hloop:q06b .ready H.length= .loop .ready (outE [(5,.ptr H.length 0),(6,.ptr (H.length+1) 0),(10,allV (H.length+2))]) [11] q0Vq q0Vr:=rfl
 rw [hloop,<-hl1] at h1
 rw [hloop] at hR
 have fin: ∀ {st e ps' a' b'},(hpOf (H1++[DObj.loop .ready (outE [(5,.ptr H.length 0),(6,.ptr (H.length+1) 0),(10,allV (H.length+2))]) [11] q0Vq q0Vr]) r)[H.length+4]? =some (.loop st e ps' a' b')->st≠ .busy->
   evD EE (.rangeFunc (.t 10) [11] q0Vq q0Vr) ⟨[(5,.ptr H.length 0),(6,.ptr (H.length+1) 0),(10,allV (H.length+2))],[],H++[DObj.box [q00v x],.box [vB false],.box [q00b l],.box (cSpot s)],H.length,[]⟩=
    some (exSt st,⟨[(5,.ptr H.length 0),(6,.ptr (H.length+1) 0),(10,allV (H.length+2))],[],(hpOf (H1++[DObj.loop .ready (outE [(5,.ptr H.length 0),(6,.ptr (H.length+1) 0),(10,allV (H.length+2))]) [11] q0Vq q0Vr]) r).set (H.length+4) .dead,H.length,[]⟩):=by
  intro st e ps' a' b' hq hst
  have rg:=q0n9 (env:=[(5,.ptr H.length 0),(6,.ptr (H.length+1) 0),(10,allV (H.length+2))]) (loc:=[]) (hp:=H1) (base:=H.length) (dirty:=[]) (x:= .t 10) (ps:=[11]) hv rfl h1 (by rw [hl1];exact hq) hst
  rw [hds,hl1] at rg
  rw [<-hH1];exact rg
 generalize hpOf (H1++[DObj.loop .ready (outE [(5,.ptr H.length 0),(6,.ptr (H.length+1) 0),(10,allV (H.length+2))]) [11] q0Vq q0Vr]) r=K at hR fin
 rcases hR with ⟨-,hlt,hq,-,hb,hno⟩|⟨-,hlt,hq,hb,hin⟩
 ·have rg:=fin hq (by simp)
  have hm:mayPc l s x=false:=by
   cases e:mayPc l s x with
   |false=>rfl
   |true=>
    have:=(q0ja _ _ _).1 e
    obtain ⟨k,hk,rfl⟩:=List.mem_iff_getElem.1 this
    exact absurd rfl (hno k _ hk (Zl hk))
  rw [hm]
  have hlt2:=q02y hb
  have b2: ∀o,Eng.boxAt (K.set (H.length+4) o) (H.length+1)=some [vB false]:=fun o=>(q01p _ _ _ _ (by omega)).trans hb
  have b3: ∀o cs,Eng.boxAt ((K.set (H.length+4) o).set (H.length+1) (.box cs)) (H.length+1)=some cs:=fun o cs=>q07o _ _ _ (by simpa using hlt2)
  simp [zEc,al,rg,exSt,b2,b3,hlt2]
 ·have rg:=fin hq (by simp)
  rw [(q0ja _ _ _).2 hin]
  have b2: ∀o,Eng.boxAt (K.set (H.length+4) o) (H.length+1)=some [vB true]:=fun o=>(q01p _ _ _ _ (by omega)).trans hb
  simp [zEc,al,rg,exSt,b2]
def q03i (j:Job) (s:Stt) (n:C3):Option Colm:=
 if s.h.a<n.a then some ⟨2,s.at_,s.at_,[],takeL j.floats s.h ⟨1,0,0⟩,[]⟩
 else if s.h.b<n.b then some ⟨2,s.at_,s.at_,[],takeL j.floats s.h ⟨0,1,0⟩,[]⟩
 else if s.h.c<n.c then some ⟨2,s.at_,s.at_,[],takeL j.floats s.h ⟨0,0,1⟩,[]⟩
 else none
def openS (j:Job) (s:Stt):Bool:=q01g j s&& !doneS j s
def textC (j:Job) (s:Stt):Option Colm:=
 if openS j s=true/\q022 j s=true/\s.at_<j.items.length then some ⟨1,s.at_,q015 j.items s.at_,q05q j.notes (spotS j s (q015 j.items s.at_)),[],[]⟩ else none
def noteC (j:Job) (s:Stt):Option Colm:=
 if openS j s=true/\s.at_=j.items.length/\s.note≠j.notes.length then some ⟨3,s.at_,s.at_,q05q j.notes (q02h (spotS j s s.at_)),[],[]⟩ else none
def dueC (j:Job) (s:Stt):Option Colm:=if openS j s=true then q03i j s (dueF j s.at_) else none
def q08m (j:Job) (s:Stt):Option Colm:=if openS j s=true then q03i j s (q01i j s.at_) else none
def q04r (j:Job) (s:Stt):Option Colm:=(textC j s).or ((dueC j s).or ((noteC j s).or (q08m j s)))
def q0b1 (j:Job) (s:Stt) (c:Colm):C3:=addC (addC s.h (ofL j.floats c.top)) (ofL j.floats c.bot)
def setF (j:Job) (s:Stt) (c:Colm) (to:Int):Bool:=
 nextQ j.floats s.h c.top&&nextQ j.floats (addC s.h (ofL j.floats c.top)) c.bot&&inC (q0b1 j s c) (q01i j to)
def fitsC (j:Job) (c:Colm):Bool:=fitT j.g j.floats c.top&&fitB j.g j.floats c.bot
def textE (j:Job) (s:Stt) (c:Colm):Int:=
 if q022 j s=false then 18 else if (brkF j.items s.at_).contains c.to=false then 14
 else if mayPc j.notes (spotS j s c.to) c.notes=false then 15 else if setF j s c c.to=false\/fitsC j c=false then 16 else 0
def q0b2 (j:Job) (s:Stt) (c:Colm):Int:=
 if c.notes≠[] then 15 else if c.top=[]\/8<c.top.length\/c.bot≠[]\/setF j s c s.at_=false\/(q02r j s c).over=true then 16 else 0
def noteE (j:Job) (s:Stt) (c:Colm):Int:=
 if c.notes=[]\/mayPc j.notes (q02h (spotS j s s.at_)) c.notes=false then 15 else if c.top≠[]\/c.bot≠[] then 16 else 0
def endE (j:Job) (s:Stt) (c:Colm):Bool:=
 decide (openS j s=false\/c.k<1\/3<c.k\/c.frm≠s.at_\/(c.k=1/\s.at_=j.items.length)\/(c.k≠1/\c.to≠s.at_)\/(c.k=3/\s.at_≠j.items.length))
def kindE (j:Job) (s:Stt) (c:Colm):Int:=if c.k=1 then textE j s c else if c.k=2 then q0b2 j s c else noteE j s c
def q014:Colm:=⟨0,0,0,[],[],[]⟩
def q06c (j:Job) (s:Stt) (c:Colm):Int:=
 if endE j s c=true then 19 else if kindE j s c≠0 then kindE j s c
 else if (q02r j s c).over=true/\sameC c ((q04r j s).getD q014)=false then 17 else 0
theorem q10m (fs:List Float): ∀(xs:List Int) (s:C3),leC s (xs.foldl (ofS fs) s)/\(xs.foldl (ofS fs) s).a<=s.a+xs.length/\(xs.foldl (ofS fs) s).b<=s.b+xs.length/\(xs.foldl (ofS fs) s).c<=s.c+xs.length
 |[],s=>by simp [leC]
 |x::r,s=>by
  have h:=q10m fs r (ofS fs s x)
  have e:leC s (ofS fs s x)/\(ofS fs s x).a<=s.a+1/\(ofS fs s x).b<=s.b+1/\(ofS fs s x).c<=s.c+1:=by
   unfold ofS bump leC
   (repeat' split)<;>(try simp only)<;>omega
  simp only [ZT,Zg]
  unfold leC at*
  push_cast
  omega
theorem q0Zj (fs:List Float) (xs:List Int):leC zeroC (ofL fs xs)/\(ofL fs xs).a<=xs.length/\(ofL fs xs).b<=xs.length/\(ofL fs xs).c<=xs.length:=by
 have:=q10m fs xs ⟨0,0,0⟩
 unfold ofL
 unfold leC zeroC at*
 simp only at*
 omega
theorem q119 {x y:C3} (hx:leC zeroC x) (hy:leC zeroC y) (bx:x.a<=1000000/\x.b<=1000000/\x.c<=1000000):leC x (addC x y):=by
 unfold leC zeroC addC zipF held big at*
 simp only at*
 omega
theorem q0Yw {a b q:Int} (ha:0<=a) (hb:0<=b) (h:held (held a (-big) big+held b (-big) big) (-big) big<=q) (hq:q<=1000000):a<=held (held a (-big) big+held b (-big) big) (-big) big:=by
 unfold held big at*
 omega
theorem q0Zt {x y q:C3} (hx:leC zeroC x) (hy:leC zeroC y) (h:leC (addC x y) q) (hq:q.a<=1000000/\q.b<=1000000/\q.c<=1000000):leC x (addC x y):=
 ⟨q0Yw hx.1 hy.1 h.1 hq.1,q0Yw hx.2.1 hy.2.1 h.2.1 hq.2.1,q0Yw hx.2.2 hy.2.2 h.2.2 hq.2.2⟩
theorem q0Zk {a:Int} (ha:0<=a) (hq:a<=1000000):held (held a (-big) big+held 0 (-big) big) (-big) big=a:=by
 unfold held big at*
 omega
theorem q0Zl {x:C3} (h:leC zeroC x) (b:x.a<=1000000/\x.b<=1000000/\x.c<=1000000):addC x zC=x:=by
 obtain ⟨h1,h2,h3⟩:=h
 unfold addC zipF
 rw [show (zC).a=0 from rfl,show (zC).b=0 from rfl,show (zC).c=0 from rfl,q0Zk h1 b.1,q0Zk h2 b.2.1,q0Zk h3 b.2.2]
theorem q0wx {j:Job} (w:okW j) (n:Int):leC zeroC (q01i j n)/\(q01i j n).a<=1000000/\(q01i j n).b<=1000000/\(q01i j n).c<=1000000:=by
 unfold q01i
 have h:=q0ix j.floats (j.items.take (putN j.items n))
 have hl:((j.items.take (putN j.items n)).length:Int)<=1000000:=by
  have:=w.n1
  rw [ZC]
  omega
 unfold leC zeroC
 simp only
 omega
theorem q0Y7 {x:C3} (h:leC zeroC x) (b:x.a<=1000000/\x.b<=1000000/\x.c<=1000000):sumC x=x.a+x.b+x.c:=by
 unfold sumC held big leC zeroC at*
 simp only at*
 omega
theorem q0Bd {l:List Item} {a t:Int} (h0:0<=a) (h:t∈brkF l a):a<t/\t<=l.length/\mayV l t=true/\t<=q010 l a:=by
 unfold brkF at h
 obtain ⟨m,hm,rfl⟩:=ZJ.1 h
 unfold brkN at hm
 rw [List.mem_filter,List.mem_range'] at hm
 obtain ⟨⟨i,hi,rfl⟩,h2⟩:=hm
 simp only [Zb,decide_eq_true_eq] at h2
 unfold mayN at h2
 unfold pos at*
 simp only [Int.ofNat_eq_natCast]
 exact ⟨by omega,by omega,h2.2,h2.1⟩
theorem q0Yc {j:Job} {s:Stt} (r:rightP j s):q0Xw j s=s.at_+progN j.notes s.note s.line+sumC s.h:=by
 unfold q0Xw progN
 rw [if_pos ((q02k j s).2 r)]
 omega
theorem q0p6 {j:Job} {s:Stt} (r:rightP j s) (to:Int):spotS j s to=⟨s.note,s.line,q00z j to,decide (q00z j s.at_<q00z j to)⟩:=by
 unfold spotS
 rw [if_pos ((q02k j s).2 r)]
theorem q108 (l:List Item) (n:Int):trimF l (trimF l n)=trimF l n:=by
 have h:=q0Yf l n
 unfold trimF at*
 rw [h,q0Zy]
theorem q10y {l:List Item} {n:Int} (h0:0<=n) (h1:n<=l.length):n<=trimF l n:=by
 unfold trimF
 have:=q10w l (putN l n)
 have e:(putN l n:Int)=n:=by unfold putN;omega
 omega
theorem q0Yx {j:Job} (w:wfJ j) {s:Stt} (r:rightP j s) {c:Colm} {b:Int} {fr:Bool} {at':Int} (e0:nextF j.notes (spotS j s c.to) c.notes=nextF j.notes ⟨s.note,s.line,b,fr⟩ c.notes)
  (ha:at'=if c.k=1 then (trimF j.items c.to:Int) else s.at_) (hb:b=q00z j at') (hle:s.at_<=at') (ht:(trimF j.items at':Int)=at') (hle2:at'<=j.items.length) (hf:fr=false->b<=q00z j s.at_)
  (hp:c.notes∈q00j j.notes ⟨s.note,s.line,b,fr⟩) (hh:leC (q0b1 j s c) (q01i j at')):
  rightP j (nextS j s c)/\q0Xw j s+(at'-s.at_)<=q0Xw j (nextS j s c)/\(c.notes≠[]\/s.at_<at'\/sumC s.h<sumC (q0b1 j s c)->q0Xw j s<q0Xw j (nextS j s c)):=by
 have hr:=(q02k j s).2 r
 obtain ⟨g1,g2,g3⟩:=q10l w r (p:=c.notes) (b:=b) (fr:=fr) (by rw [hb];exact q106 j hle) (by rw [hb];exact q03o w.w _) hf hp
 have e:nextS j s c=⟨at',min (s.col+1) j.g.cols,(nextF j.notes ⟨s.note,s.line,b,fr⟩ c.notes).1,(nextF j.notes ⟨s.note,s.line,b,fr⟩ c.notes).2,q0b1 j s c⟩:=by
  unfold nextS
  rw [if_pos hr,e0,<-ha];rfl
 have bd:=q0wx w.w s.at_
 have bd2:=q0wx w.w at'
 have o1:=q0Zj j.floats c.top
 have o2:=q0Zj j.floats c.bot
 have hb1:s.h.a<=1000000/\s.h.b<=1000000/\s.h.c<=1000000:=by
  have:=r.h1
  unfold leC at this
  omega
 have m1:leC s.h (addC s.h (ofL j.floats c.top)):=q119 r.h0 o1.1 hb1
 have z1:leC zeroC (addC s.h (ofL j.floats c.top)):=q0bu r.h0 m1
 have m2:leC (addC s.h (ofL j.floats c.top)) (q0b1 j s c):=q0Zt z1 o2.1 hh ⟨bd2.2.1,bd2.2.2.1,bd2.2.2.2⟩
 have z2:=q0bu z1 m2
 have hs2:(q0b1 j s c).a<=1000000/\(q0b1 j s c).b<=1000000/\(q0b1 j s c).c<=1000000:=by
  unfold leC at hh;omega
 have s1:=q0Y7 r.h0 hb1
 have s2:=q0Y7 z2 hs2
 have mm:=q0bu m1 m2
 have rn:rightP j (nextS j s c):=by
  rw [e]
  refine ⟨by have:=r.at0;simp only;omega,hle2,ht,by have:=r.col0;have:=w.cols;simp only;omega,by simp only;omega,?_,z2,hh⟩
  rw [q0od]
  simp only
  rcases g1 with ⟨a,b'⟩|⟨a,b',c',d,f⟩
  ·exact .inl ⟨a,by rw [b',hb]⟩
  ·exact .inr ⟨a,by rw [b',hb],c',d,f⟩
 have q1:=q0Yc r
 have q2:=q0Yc rn
 rw [e] at q2
 rw [e] at rn⊢
 simp only at q2
 refine ⟨rn,?_,?_⟩
 ·unfold leC at mm;omega
 ·intro h
  unfold leC at mm
  rcases h with h|h|h
  ·have:=g3 h;omega
  ·omega
  ·omega
theorem q0Y1 {j:Job} (w:wfJ j) {s:Stt} {c:Colm} (h:q06c j s c=0):rightP j s/\rightP j (nextS j s c)/\q0Xw j s<q0Xw j (nextS j s c):=by
 unfold q06c at h
 by_cases he:endE j s c=true
 ·rw [if_pos he] at h;cases h
 rw [if_neg he] at h
 by_cases hk:kindE j s c≠0
 ·rw [if_pos hk] at h;exact absurd h hk
 have hk:kindE j s c=0:=by omega
 unfold endE at he
 simp only [decide_eq_true_eq,not_or,not_and,Bool.not_eq_false,Int.not_lt] at he
 obtain ⟨e1,e2,e3,e4,e5,e6,e7⟩:=he
 unfold openS at e1
 simp only [Zb] at e1
 have r:=(q02k j s).1 e1.1
 refine ⟨r,?_⟩
 unfold kindE at hk
 by_cases k1:c.k=1
 ·rw [if_pos k1] at hk
  unfold textE at hk
  split at hk
  ·cases hk
  split at hk
  ·cases hk
  split at hk
  ·cases hk
  split at hk
  ·cases hk
  rename_i f1 f2 f3 f4
  simp only [Bool.not_eq_false,not_or] at f1 f2 f3 f4
  have hm:=q0Bd r.at0 (by simpa using f2)
  have hp:=(q0ja _ _ _).1 f3
  rw [q0p6 r] at hp
  have hset:=f4.1
  unfold setF at hset
  simp only [Zb,q0pw] at hset
  have hge:=q10y (l:=j.items) (n:=c.to) (by have:=r.at0;omega) hm.2.1
  have hlt:s.at_<trimF j.items c.to:=by omega
  have:=q0Yx w r (c:=c) (b:=q00z j c.to) (fr:=decide (q00z j s.at_<q00z j c.to)) (at':=trimF j.items c.to) (by rw [q0p6 r]) (by rw [if_pos k1])
   (q104 j c.to).symm (by omega) (by rw [q108]) (by have:=q0Zi j.items c.to;omega) (fun h=>by simpa using h) hp (by rw [q105];exact hset.2)
  exact ⟨this.1,this.2.2 (.inr (.inl hlt))⟩
 ·rw [if_neg k1] at hk
  have hto:=e6 k1
  by_cases k2:c.k=2
  ·rw [if_pos k2] at hk
   unfold q0b2 at hk
   split at hk
   ·cases hk
   split at hk
   ·cases hk
   rename_i f1 f2
   simp only [not_or,Bool.not_eq_false,ne_eq,Decidable.not_not] at f1 f2
   obtain ⟨f2,f3,f4,f5,f6⟩:=f2
   unfold setF at f5
   simp only [Zb,q0pw] at f5
   have hp:c.notes∈q00j j.notes ⟨s.note,s.line,q00z j s.at_,false⟩:=by
    rw [f1]
    unfold q00j
    rw [if_pos (.inr rfl)];simp
   have:=q0Yx w r (c:=c) (b:=q00z j s.at_) (fr:=false) (at':=s.at_) (by rw [f1,q0Ye,q0Ye,q0p6 r]) (by rw [if_neg k1])
    rfl (ZS _) r.trim r.at1 (fun _=>ZS _) hp f5.2
   refine ⟨this.1,this.2.2 (.inr (.inr ?_))⟩
   have hn:=f5.1.1
   unfold nextQ at hn
   simp only [Zb,decide_eq_true_eq] at hn
   have hz:ofL j.floats c.top≠zC:=by
    intro hz
    rw [hz,q0Ya] at hn
    exact f2 hn.2.symm
   have ok:=hn.1
   have o1:=(q0Zj j.floats c.top).1
   have bd:=q0wx w.w s.at_
   have hsm:=q0Z2 w.w.n3 ok
   have ebot:q0b1 j s c=addC (addC s.h (ofL j.floats c.top)) zC:=by unfold q0b1;rw [f4];rfl
   have hh:=f5.2
   have h0:=r.h0
   have h1:=r.h1
   rw [hsm] at ebot
   have hz1:leC zeroC (plus s.h (ofL j.floats c.top)):=by
    have h0:=r.h0
    unfold leC zeroC plus at*
    simp only at*
    omega
   have hup:=q0Zt (y:=zC) hz1 (q0e6 _) (ebot▸f5.2) ⟨bd.2.1,bd.2.2.1,bd.2.2.2⟩
   have hle:=q0bu hup (ebot▸f5.2)
   have hs:(plus s.h (ofL j.floats c.top)).a<=1000000/\(plus s.h (ofL j.floats c.top)).b<=1000000/\(plus s.h (ofL j.floats c.top)).c<=1000000:=by
    unfold leC at hle;omega
   rw [ebot,q0Zl hz1 hs,q0Y7 hz1 hs,q0Y7 r.h0 (by have:=r.h1;unfold leC at this;omega)]
   have hy:0<(ofL j.floats c.top).a+(ofL j.floats c.top).b+(ofL j.floats c.top).c:=by
    have: ¬((ofL j.floats c.top).a=0/\(ofL j.floats c.top).b=0/\(ofL j.floats c.top).c=0):=fun h=>hz (by
     revert h
     generalize ofL j.floats c.top=y
     obtain ⟨a,b,d⟩:=y
     rintro ⟨rfl,rfl,rfl⟩
     rfl)
    unfold leC zeroC at o1
    simp only at o1
    omega
   unfold plus
   simp only
   omega
  ·rw [if_neg k2] at hk
   unfold noteE at hk
   split at hk
   ·cases hk
   split at hk
   ·cases hk
   rename_i f1 f2
   simp only [not_or,Bool.not_eq_false,ne_eq,Decidable.not_not] at f1 f2
   have hp:=(q0ja _ _ _).1 f1.2
   rw [q0p6 r] at hp
   unfold q02h at hp
   simp only at hp
   have hh:leC (q0b1 j s c) (q01i j s.at_):=by
    have e:q0b1 j s c=addC (addC s.h zC) zC:=by unfold q0b1;rw [f2.1,f2.2];rfl
    rw [e]
    have h0:=r.h0
    have h1:=r.h1
    have bd:=q0wx w.w s.at_
    generalize s.h=x at*
    generalize q01i j s.at_=q at*
    unfold leC zeroC addC zipF held big zC at*
    simp only at*
    omega
   have e0:nextF j.notes (spotS j s c.to) c.notes=nextF j.notes ⟨s.note,s.line,q00z j s.at_,true⟩ c.notes:=by
    unfold nextF
    cases hl:c.notes.getLast? with
    |none=>exact absurd (List.getLast?_eq_none_iff.1 hl) f1.1
    |some x=>rfl
   have:=q0Yx w r (c:=c) (b:=q00z j s.at_) (fr:=true) (at':=s.at_) e0 (by rw [if_neg k1])
    rfl (ZS _) r.trim r.at1 (fun h=>by cases h) hp hh
   exact ⟨this.1,this.2.2 (.inl f1.1)⟩
theorem q0b3 {p:Nat->Bool}: ∀(k n m:Nat),n<=m->m<n+k->p m=true->seekP p k n≠ -1/\seekP p k n<=m
 |0,n,m,h1,h2,_=>by omega
 |k+1,n,m,h1,h2,h3=>by
  rw [seekP]
  by_cases q:p n=true
  ·rw [if_pos q];omega
  ·rw [if_neg q]
   have:n≠m:=fun e=>q (e▸h3)
   exact q0b3 k (n+1) m (by omega) (by omega) h3
theorem q0Be {l:List Item} (h:1<=l.length):mayN l l.length=true:=by
 unfold mayN mayV
 rw [if_neg (by omega)]
 have:q02g l (l.length:Int)=none:=by unfold q02g;rw [if_neg (by omega)]
 rw [this]
theorem q0wy {l:List Item} {n:Nat} (h1:1<=n) (h2:n<=l.length) (h:mustP l n=true):mayN l n=true:=by
 by_cases e:n=l.length
 ·subst e;exact q0Be h1
 ·have hx:l[n]? =some (l[n]'(by omega)):=Zl (by omega)
  unfold mustP at h
  rw [hx] at h
  unfold mayN mayV
  rw [if_neg (by omega),q06n,hx]
  simp only at h⊢
  unfold q05z at h
  simp only [Zb,decide_eq_true_eq] at h
  rw [if_neg (by omega),if_pos h.1]
  unfold forbX
  simp [h.1]
  omega
theorem q0tc {l:List Item} {a:Int} (h0:0<=a) (h1:a<l.length):q015 l a∈brkF l a:=by
 have hp:(pos a:Int)=a:=by unfold pos;omega
 have hF:=q0b3 (p:=mustP l) (l.length-pos a) (pos a+1) l.length (by omega) (by omega) (by unfold mustP;rw [ZF (Zm _)])
 have bF:=q07g (mustP l) (l.length-pos a) (pos a+1)
 change q010 l a≠ -1/\q010 l a<=_ at hF
 change q010 l a= -1\/_<=q010 l a/\q010 l a<_/\mustP l (q010 l a).toNat=true at bF
 rcases bF with bF|⟨b1,b2,b3⟩
 ·exact absurd bF hF.1
 have hm:=q0wy (n:=(q010 l a).toNat) (by omega) (by omega) b3
 have hB:=q0b3 (p:=mayN l) (l.length-pos a) (pos a+1) (q010 l a).toNat (by omega) (by omega) hm
 have bB:=q07g (mayN l) (l.length-pos a) (pos a+1)
 change q015 l a≠ -1/\q015 l a<=_ at hB
 change q015 l a= -1\/_<=q015 l a/\q015 l a<_/\mayN l (q015 l a).toNat=true at bB
 rcases bB with bB|⟨c1,c2,c3⟩
 ·exact absurd bB hB.1
 unfold brkF
 refine ZJ.2 ⟨(q015 l a).toNat,?_,by simp only [Int.ofNat_eq_natCast];omega⟩
 unfold brkN
 rw [List.mem_filter,List.mem_range']
 refine ⟨⟨(q015 l a).toNat-(pos a+1),by omega,by omega⟩,?_⟩
 simp only [Zb,decide_eq_true_eq]
 exact ⟨by omega,c3⟩
theorem q0hy {j:Job} (w:wfJ j) {s:Stt} (r:rightP j s):leC s.h (allC j.floats):=q0bu r.h1 (q0jb w.six _)
theorem q04a (j:Job) (s:Stt):openS j s=true↔rightP j s/\doneS j s=false:=by
 unfold openS
 rw [Zb,q02k,Bool.not_eq_true']
def vOC (o:Option Colm):V:= .tup [vColm (o.getD q014),vB o.isSome]
theorem q0b4 (j:Job) (w:okW j) (s:Stt) (H:Heap):clD EE (.p (.fn 181)) [vW j,vStt s] H=some (vB (q022 j s),none):=by
 rw [q002 _ _ _ _ _ _ (noP _) fn181]
 have hr:=fun H=>q03r j w s H
 have hd:=fun H=>q0v8 j.items j.floats s.at_ H
 change∀H,clD EE _ _ H=some (vC (dueF j s.at_),none) at hd
 have re:=fun H=>in_ev (dueF j s.at_) s.h H
 unfold q022
 cases c:q01g j s with
 |false=>
  rw [c] at hr
  simp [zEc,hr]
 |true=>
  rw [c] at hr
  simp only [vW,q00o,cJobW,cGeom,Zd,Zf] at hr⊢
  simp [zEc,hr,hd,re]
theorem q0gw (j:Job) (H:Heap):clD EE (.p (.fn 262)) [vW j] H=some (vMapW j.items j.floats,none):=by
 have hp: ∀H,clD EE (.p (.fn 229)) [vW j] H=some (q00o j,none):=by
  intro H
  rw [q002 _ _ _ _ _ _ (noP _) fn229]
  simp only [vW,cJobW,cGeom,Zd,Zf]
  simp [zEc]
 have hq: ∀H,clD EE (.p (.fn 332)) [q00o j] H=some (vMapW j.items j.floats,none):=by
  intro H
  rw [q002 _ _ _ _ _ _ (noP _) fn332]
  simp only [q00o]
  simp [zEc]
 rw [q002 _ _ _ _ _ _ (noP _) fn262]
 simp [zEc,hp,hq]
section
variable (j:Job) (w:wfJ j)
include w
theorem q08n (s:Stt) (to:Int):spotB j.notes (spotS j s to):=by
 have hb:=q03o w.w to
 unfold spotS
 by_cases r:q01g j s=true
 ·rw [if_pos r]
  have c:=q09w w ((q02k j s).1 r)
  have:=w.w.n2
  exact ⟨w.w.n2,w.w.lines,hb,c.1,by simp only;omega,c.2.1⟩
 ·rw [if_neg r]
  exact ⟨w.w.n2,w.w.lines,by simp only;omega,by simp,by simp,by simp⟩
theorem q09f (s:Stt) (to:Int):spotB j.notes (q02h (spotS j s to)):=by
 have o:=q08n j w s to
 exact ⟨o.l1,o.l2,o.b,o.n0,o.n1,o.li⟩
theorem q09g (s:Stt) (H:Heap):clD EE (.p (.fn 258)) [vW j,vStt s] H=some (vB (openS j s),none):=by
 rw [q002 _ _ _ _ _ _ (noP _) fn258]
 have r:=fun H=>q03r j w.w s H
 have d:=fun H=>q0j3 j w.w s H
 unfold openS
 cases c:q01g j s with
 |false=>rw [c] at r;simp [zEc,r]
 |true=>rw [c] at r;simp [zEc,r,d]
theorem q0wz (s:Stt) (H:Heap):clD EE (.p (.fn 162)) [vW j,vStt s] H=some (vOC (textC j s),none):=by
 rw [q002 _ _ _ _ _ _ (noP _) fn162]
 have op:=fun H=>q09g j w s H
 have fl:=fun H=>q0b4 j w.w s H
 have wl:=fun H=>q07e j H
 have fb:=fun H=>q0bs j.items w.w.n1 s.at_ H
 have pl:=fun H=>q07d j H
 have sp:=fun H=>q07t j w.w s (q015 j.items s.at_) H
 have le:=fun H=>q0a2 j.notes (spotS j s (q015 j.items s.at_)) (q08n j w s _) H
 unfold textC vOC
 cases c1:openS j s with
 |false=>rw [c1] at op;simp [zEc,op,q014]
 |true=>
  rw [c1] at op
  cases c2:q022 j s with
  |false=>rw [c2] at fl;simp [zEc,op,fl,q014]
  |true=>
   rw [c2] at fl
   have r:=((q04a j s).1 c1).1
   simp only [vJob,cGeom,Zd,Zf] at pl
   by_cases c3:s.at_<j.items.length
   ·have hb:=q0Bd r.at0 (q0tc r.at0 c3)
    have h0:=r.at0
    have hn: ¬q015 j.items s.at_<0:=by omega
    generalize q015 j.items s.at_=t at*
    generalize spotS j s t=q at*
    simp [zEc,fldvV,op,fl,wl,fb,pl,sp,le,hn,c3]
   ·have hn:q015 j.items s.at_= -1:=by
     unfold q015
     rw [show j.items.length-pos s.at_=0 by unfold pos;have:=r.at0;omega];rfl
    rw [hn] at fb
    simp [zEc,op,fl,wl,fb,c3,q014]
theorem q0i0 {s:Stt} (r:rightP j s) {n:C3} (hn:leC n (q01i j s.at_)):
  (s.h.a<n.a->okT j.floats s.h ⟨1,0,0⟩)/\(s.h.b<n.b->okT j.floats s.h ⟨0,1,0⟩)/\(s.h.c<n.c->okT j.floats s.h ⟨0,0,1⟩):=by
 have h0:=r.h0
 have h1:=q0bu hn (q0jb w.six _)
 have h2:=q0hy w r
 unfold okT okU leC zeroC allC at*
 simp only at*
 omega
theorem q0i1 {s:Stt} (r:rightP j s) {n:C3} (hn:leC n (q01i j s.at_)) (H:Heap):clD EE (.p (.fn 261)) [vW j,vStt s,vC n] H=some (vOC (q03i j s n),none):=by
 rw [q002 _ _ _ _ _ _ (noP _) fn261]
 have ok:=q0i0 j w r hn
 have pl:=fun H=>q07d j H
 have w1:IntKind.i64.wrap 1=1:=by decide
 have w2:IntKind.i64.wrap 2=2:=by decide
 have w3:IntKind.i64.wrap 3=3:=by decide
 have t1:=fun y H=>q0pb j.floats s.h y H w.w.n3
 unfold vTake at t1
 unfold q03i vOC
 simp only [vJob,cGeom,Zd,Zf] at pl
 by_cases c1:s.h.a<n.a
 ·have t:=fun H=>t1 ⟨1,0,0⟩ H
  simp only [if_pos (ok.1 c1)] at t
  generalize takeL j.floats s.h ⟨1,0,0⟩=T at*
  simp [zEc,fldvV,q0W7,q003,ixaV,ixvV,q007,w1,w2,w3,c1,pl,t]
 ·by_cases c2:s.h.b<n.b
  ·have t:=fun H=>t1 ⟨0,1,0⟩ H
   simp only [if_pos (ok.2.1 c2)] at t
   generalize takeL j.floats s.h ⟨0,1,0⟩=T at*
   simp [zEc,fldvV,q0W7,q003,ixaV,ixvV,q007,w1,w2,w3,c1,c2,pl,t]
  ·by_cases c3:s.h.c<n.c
   ·have t:=fun H=>t1 ⟨0,0,1⟩ H
    simp only [if_pos (ok.2.2 c3)] at t
    generalize takeL j.floats s.h ⟨0,0,1⟩=T at*
    simp [zEc,fldvV,q0W7,q003,ixaV,ixvV,q007,w1,w2,w3,c1,c2,c3,pl,t]
   ·simp [zEc,q0W7,q003,ixaV,ixvV,q007,w1,w2,w3,c1,c2,c3,q014]
theorem q0Bf (s:Stt) (H:Heap):clD EE (.p (.fn 163)) [vW j,vStt s] H=some (vOC (dueC j s),none):=by
 rw [q002 _ _ _ _ _ _ (noP _) fn163]
 have op:=fun H=>q09g j w s H
 have mp:=fun H=>q0gw j H
 have hd:=fun H=>q0v8 j.items j.floats s.at_ H
 change∀H,clD EE _ _ H=some (vC (dueF j s.at_),none) at hd
 unfold dueC
 cases c1:openS j s with
 |false=>rw [c1] at op;simp [zEc,op,vOC,q014]
 |true=>
  rw [c1] at op
  have r:=((q04a j s).1 c1).1
  have al:=fun H=>q0i1 j w r (q0vq j.floats (j.items.take (putN j.items s.at_))) H
  change∀H,clD EE _ [vW j,vStt s,vC (dueF j s.at_)] H=some (vOC (q03i j s (dueF j s.at_)),none) at al
  unfold vOC at*
  simp [zEc,op,mp,hd,al]
theorem q0td (s:Stt) (H:Heap):clD EE (.p (.fn 165)) [vW j,vStt s] H=some (vOC (q08m j s),none):=by
 rw [q002 _ _ _ _ _ _ (noP _) fn165]
 have op:=fun H=>q09g j w s H
 have mp:=fun H=>q0gw j H
 have hd:=fun H=>q09v j.items j.floats s.at_ H
 change∀H,clD EE _ _ H=some (vC (q01i j s.at_),none) at hd
 unfold q08m
 cases c1:openS j s with
 |false=>rw [c1] at op;simp [zEc,op,vOC,q014]
 |true=>
  rw [c1] at op
  have r:=((q04a j s).1 c1).1
  have al:=fun H=>q0i1 j w r (q0e6 (q01i j s.at_)) H
  unfold vOC at*
  simp [zEc,op,mp,hd,al]
theorem q0x0 (s:Stt) (H:Heap):clD EE (.p (.fn 164)) [vW j,vStt s] H=some (vOC (noteC j s),none):=by
 rw [q002 _ _ _ _ _ _ (noP _) fn164]
 have op:=fun H=>q09g j w s H
 have pl:=fun H=>q07d j H
 have wl:=fun H=>q07e j H
 have ll:=fun H=>q021 j.items H
 have sp:=fun H=>q07t j w.w s s.at_ H
 have le:=fun H=>q0a2 j.notes (q02h (spotS j s s.at_)) (q09f j w s _) H
 unfold noteC vOC
 simp only [vJob,cGeom,Zd,Zf] at pl
 cases c1:openS j s with
 |false=>rw [c1] at op;simp [zEc,fldvV,op,pl,q014]
 |true=>
  rw [c1] at op
  have r:=((q04a j s).1 c1).1
  have h1:=r.at1
  generalize spotS j s s.at_=q at*
  unfold q02h at*
  by_cases c2:s.at_<j.items.length
  ·have c3: ¬s.at_=j.items.length:=by omega
   simp [zEc,fldvV,op,pl,wl,ll,c2,c3,q014]
  ·have c3:s.at_=j.items.length:=by omega
   have c3:=eq_true c3
   by_cases c4:s.note=j.notes.length
   ·have c4:=eq_true c4
    simp [zEc,fldvV,op,pl,wl,ll,c2,c3,c4,q014]
   ·simp [zEc,fldvV,op,pl,wl,ll,c2,c3,c4,sp,le]
theorem q0qq (s:Stt) (H:Heap):clD EE (.p (.fn 82)) [vW j,vStt s] H=some (vOC (q04r j s),none):=by
 rw [q002 _ _ _ _ _ _ (noP _) fn82]
 have f1:=fun H=>q0wz j w s H
 have f2:=fun H=>q0Bf j w s H
 have f3:=fun H=>q0x0 j w s H
 have f4:=fun H=>q0td j w s H
 have w1:IntKind.i64.wrap 1=1:=by decide
 have w2:IntKind.i64.wrap 2=2:=by decide
 have w3:IntKind.i64.wrap 3=3:=by decide
 have w4:IntKind.i64.wrap 4=4:=by decide
 unfold q04r vOC at*
 cases e1:textC j s with
 |some c=>rw [e1] at f1;simp [zEc,q0Vy,q003,ixsI,ixsV,w1,w2,w3,w4,f1]
 |none=>
  rw [e1] at f1
  cases e2:dueC j s with
  |some c=>rw [e2] at f2;simp [zEc,q0Vy,q003,ixsI,ixsV,w1,w2,w3,w4,f1,f2]
  |none=>
   rw [e2] at f2
   cases e3:noteC j s with
   |some c=>rw [e3] at f3;simp [zEc,q0Vy,q003,ixsI,ixsV,w1,w2,w3,w4,f1,f2,f3]
   |none=>
    rw [e3] at f3
    cases e4:q08m j s with
    |some c=>rw [e4] at f4;simp [zEc,q0Vy,q003,ixsI,ixsV,w1,w2,w3,w4,f1,f2,f3,f4]
    |none=>rw [e4] at f4;simp [zEc,q0Vy,q003,ixsI,ixsV,w1,w2,w3,w4,f1,f2,f3,f4,q014]
end
end Go.EnvOf
namespace Go.EnvOf
open Go Go.Eng
set_option maxRecDepth 100000
abbrev c6 (t:Tot):List V:=[vI t.nat,vI t.s0,vI t.s1,vI t.s2,vI t.s3,vI t.shr]
section
variable (j:Job) (n1:j.items.length<=1000000) (hf: ∀x∈j.items,fairI x)
end
theorem q0tu (l:List Int) (x:Int) (hl:l.length<=1000000) (H:Heap):evD EE q0X7 ⟨[(0,sli l),(1,vI x),(7,vI l.length),(8,vI 0)],[],H,H.length,[]⟩=
  some (rng (fun (_:Unit) i y=>if x=y then .inr (Ex.ret,(⟨[(4,vI i)],[],H,H.length,[]⟩:St)) else .inl ()) (fun _=>(Ex.exit 0,(⟨[(0,sli l),(1,vI x),(7,vI l.length),(8,vI l.length),(9,vB false)],[],H,H.length,[]⟩:St))) () 0 l):=by
 unfold q0X7
 refine q013 l (fun (_:Unit) i=>⟨[(0,sli l),(1,vI x),(7,vI l.length),(8,vI i)],[],H,H.length,[]⟩) (fun _ _=>True) _ _ (fun _ _=>rfl) ?_ ?_ () 0 trivial (Zj _)
 ·rintro _ i y-hx
  have hlt:=(Za.1 hx).1
  have w:IntKind.i64.wrap ((i:Int)+1)=((i+1:Nat):Int):=w64 (by omega) (by omega)
  have hix:=fun H k=>q00c H encI (k:=k) (s:=1) hx rfl
  simp only [encI] at hix
  by_cases c:x=y
  ·simp [hlt,hix,encI,subs,c]
  ·simp [hlt,hix,encI,subs,c,w]
 ·rintro _-
  simp
theorem q09i (x:Int) (H:Heap) (fin:Ex×St): ∀(l:List Int) (i:Nat),(l.contains x=false->rng (fun (_:Unit) i y=>if x=y then .inr (Ex.ret,(⟨[(4,vI i)],[],H,H.length,[]⟩:St)) else .inl ()) (fun _=>fin) () i l=fin)/\
  (l.contains x=true-> ∃k:Nat,rng (fun (_:Unit) i y=>if x=y then .inr (Ex.ret,(⟨[(4,vI i)],[],H,H.length,[]⟩:St)) else .inl ()) (fun _=>fin) () i l=(Ex.ret,⟨[(4,vI k)],[],H,H.length,[]⟩))
 |[],i=>by simp [rng]
 |y::r,i=>by
  have ih:=q09i x H fin r (i+1)
  simp only [rng]
  by_cases c:x=y
  ·subst c
   simp only [if_true]
   refine ⟨fun h=>by simp at h,fun _=>⟨i,rfl⟩⟩
  ·simp only [if_neg c]
   have e:(y::r).contains x=r.contains x:=by simp [c]
   rw [e];exact ih
theorem q0tv (l:List Int) (x:Int) (hl:l.length<=1000000) (H:Heap):clD EE (.p (.fn 183)) [sli l,vI x] H=some (vB (l.contains x),none):=by
 rw [q002 _ _ _ _ _ _ (noP _) fn183]
 have key:=fun H=>q0tu l x hl H
 cases c:l.contains x with
 |false=>
  have i: ∀H,clD EE (.p (.fn 270)) [sli l,vI x] H=some (vI (-1),none):=by
   intro H
   rw [q002 _ _ _ _ _ _ (noP _) fn270]
   have k:=key H
   rw [(q09i x H _ l 0).1 c] at k
   simp [zEa,k]
  simp [zEa,i]
 |true=>
  have i: ∀H,∃k:Nat,clD EE (.p (.fn 270)) [sli l,vI x] H=some (vI k,none):=by
   intro H
   rw [q002 _ _ _ _ _ _ (noP _) fn270]
   have k:=key H
   obtain ⟨z,hz⟩:=(q09i x H (Ex.exit 0,⟨[(0,sli l),(1,vI x),(7,vI l.length),(8,vI l.length),(9,vB false)],[],H,H.length,[]⟩) l 0).2 c
   rw [hz] at k
   exact ⟨z,by simp [zEa,k]⟩
  obtain ⟨z,hz⟩:=i H
  have z0:(0:Int)<=z:=by omega
  simp [zEa,hz,z0]
section
variable (j:Job) (n1:j.items.length<=1000000) (hf: ∀x∈j.items,fairI x)
end
abbrev cAsk (j:Job) (s:Stt) (c:Colm):List V:=vW j::(cStt s++cColm c++cJobW j)
abbrev vAsk (j:Job) (s:Stt) (c:Colm):V:= .agg (cAsk j s c)
section
variable (j:Job) (w:wfJ j) (s:Stt) (c:Colm)
theorem q0ia (H:Heap):clD EE (.p (.fn 179)) [vAsk j s c] H=some (vB (decide (s.at_=j.items.length)),none):=by
 rw [q002 _ _ _ _ _ _ (noP _) fn179]
 have wl:=fun H=>q07e j H
 have ll:=fun H=>q021 j.items H
 simp only [vAsk,cAsk,cStt,cColm,cJobW,cGeom,Zd,Zf]
 simp [zEc,wl,ll]
theorem q0ib (H:Heap):clD EE (.p (.fn 190)) [vAsk j s c] H=some (vB (decide (c.to≠s.at_)),none):=by
 rw [q002 _ _ _ _ _ _ (noP _) fn190]
 simp only [vAsk,cAsk,cStt,cColm,cJobW,cGeom,Zd,Zf]
 simp [zEc]
include w in
theorem q0tw (H:Heap):clD EE (.p (.fn 180)) [vAsk j s c] H=some (vB (!q022 j s),none):=by
 rw [q002 _ _ _ _ _ _ (noP _) fn180]
 have fl:=fun H=>q0b4 j w.w s H
 simp only [vAsk,cAsk,cStt,cColm,cJobW,cGeom,Zd,Zf]
 simp [zEc,fl]
include w in
theorem q0tx (H:Heap):clD EE (.p (.fn 182)) [vAsk j s c] H=some (vB (!(brkF j.items s.at_).contains c.to),none):=by
 rw [q002 _ _ _ _ _ _ (noP _) fn182]
 have wl:=fun H=>q07e j H
 have br:=fun H=>q0vh j.items w.w.n1 s.at_ H
 have hl:(brkF j.items s.at_).length<=1000000:=by
  unfold brkF brkN
  rw [Z0]
  have:=List.length_filter_le (fun (m:Nat)=>decide ((m:Int)<=q010 j.items s.at_)&&mayN j.items m) (List.range' (pos s.at_+1) (j.items.length-pos s.at_))
  rw [List.length_range'] at this
  have:=w.w.n1
  omega
 have hi:=fun H=>q0tv (brkF j.items s.at_) c.to hl H
 generalize brkF j.items s.at_=B at*
 simp only [vAsk,cAsk,cStt,cColm,cJobW,cGeom,Zd,Zf]
 simp [zEc,wl,br,hi]
include w in
theorem q0Bh (H:Heap):clD EE (.p (.fn 185)) [vAsk j s c] H=some (vB (!mayPc j.notes (spotS j s c.to) c.notes),none):=by
 rw [q002 _ _ _ _ _ _ (noP _) fn185]
 have sp:=fun H=>q07t j w.w s c.to H
 have my:=fun H=>q0d1 j.notes (spotS j s c.to) (q08n j w s _) c.notes H
 generalize spotS j s c.to=q at*
 simp only [vAsk,cAsk,cStt,cColm,cJobW,cGeom,Zd,Zf]
 simp [zEc,sp,my]
theorem q0xf (H:Heap):clD EE (.p (.fn 178)) [vAsk j s c] H=some (vB (decide (c.notes≠[])),none):=by
 rw [q002 _ _ _ _ _ _ (noP _) fn178]
 have e:(0<(c.notes.length:Int))=(c.notes≠[]):=by simp [List.length_pos_iff]
 simp only [vAsk,cAsk,cStt,cColm,cJobW,cGeom,Zd,Zf]
 cases hn:c.notes<;>simp [zEc,hn]
include w in
theorem q0ty (H:Heap):clD EE (.p (.fn 194)) [vAsk j s c] H=some (vB (mayPc j.notes (q02h (spotS j s s.at_)) c.notes),none):=by
 rw [q002 _ _ _ _ _ _ (noP _) fn194]
 have sp:=fun H=>q07t j w.w s s.at_ H
 have my:=fun H=>q0d1 j.notes (q02h (spotS j s s.at_)) (q09f j w s _) c.notes H
 generalize spotS j s s.at_=q at*
 unfold q02h at*
 simp only [vAsk,cAsk,cStt,cColm,cJobW,cGeom,Zd,Zf]
 simp [zEc,sp,my]
theorem q0Bi (H:Heap):clD EE (.p (.fn 192)) [vAsk j s c] H=some (vB (decide (c.to≠s.at_\/s.at_≠j.items.length)),none):=by
 rw [q002 _ _ _ _ _ _ (noP _) fn192]
 have m:=fun H=>q0ib j s c H
 have e:=fun H=>q0ia j s c H
 simp only [vAsk,cAsk,cStt,cColm,cJobW,vGeom,cGeom,Zd,Zf] at m e⊢
 by_cases h1:c.to=s.at_
 ·have h1:=eq_true h1
  by_cases h2:s.at_=j.items.length
  ·have h2:=eq_true h2
   simp [zEc,m,e,h1,h2]
  ·simp [zEc,m,e,h1,h2]
 ·simp [zEc,m,e,h1]
include w in
theorem q0xg (H:Heap):clD EE (.p (.fn 193)) [vAsk j s c] H=some (vB (decide (c.notes=[]\/mayPc j.notes (q02h (spotS j s s.at_)) c.notes=false)),none):=by
 rw [q002 _ _ _ _ _ _ (noP _) fn193]
 have l:=fun H=>q0ty j w s c H
 simp only [vAsk,cAsk,cStt,cColm,cJobW,vGeom,cGeom,Zd,Zf] at l⊢
 by_cases n0:c.notes=[]
 ·simp only [n0] at*
  simp [zEc]
 ·have n1: ¬(c.notes.length:Int)=0:=by
   have:=List.length_pos_iff.2 n0;omega
  cases e:mayPc j.notes (q02h (spotS j s s.at_)) c.notes<;>rw [e] at l<;>simp [zEc,n0,n1,l]
end
def ruE (x:Int×Nat):List PV:=[.int .i64 x.1,.fn x.2]
def rules1:List (Int×Nat):=[(19,179),(18,180),(14,182),(15,185),(16,187)]
def rules2:List (Int×Nat):=[(19,190),(15,178),(16,191)]
def rules3:List (Int×Nat):=[(19,192),(15,193),(16,195)]
def q03u:List (V×V):=[(vI 1,.p (.sl (rules1.map ruE))),(vI 2,.p (.sl (rules2.map ruE))),(vI 3,.p (.sl (rules3.map ruE)))]
theorem q0ic (H:Heap):clD EE (.p (.fn 88)) [] H=some (.map H.length,some (H++[.map q03u],[])):=by
 rw [q002 _ _ _ _ _ _ (noP _) fn88]
 have m0: ∀es,mapAt (H++[.map es]) H.length=some es:=fun es=>by simp [mapAt]
 simp [zEc,m0,stmE,stmR,setM,findM,eqKey,keyB,q03u,rules1,rules2,rules3,ruE]
def q03j (k:Int):List (Int×Nat):=if k=1 then rules1 else if k=2 then rules2 else if k=3 then rules3 else []
theorem q0u0 (k:Int):lkmK .nils true (findM none (vI k) q03u 0)=some (.tup [if k=1\/k=2\/k=3 then .p (.sl ((q03j k).map ruE)) else .nils,vB (decide (k=1\/k=2\/k=3))]):=by
 unfold q03j
 by_cases k1:k=1
 ·simp [q03u,findM,eqKey,lkmK,k1]
 ·by_cases k2:k=2
  ·simp [q03u,findM,eqKey,lkmK,k2]
  ·by_cases k3:k=3
   ·simp [q03u,findM,eqKey,lkmK,k3]
   ·simp [q03u,findM,eqKey,lkmK,k1,k2,k3]
def q028:List (Int×Bool)->Int
 |[]=>0
 |x::r=>if x.2=true then x.1 else q028 r
def ckLoc (j:Job) (s:Stt) (c:Colm):List (Nat×List V):=[(4,cStt s),(5,cColm c),(9,cAsk j s c)]
def cqE (j:Job) (s:Stt) (c:Colm) (L:List (Int×Nat)) (H:Heap) (B:Nat) (i:Nat):St:=⟨[(0,vW j),(4,.lptr 4 0),(5,.lptr 5 0),(9,.lptr 9 0),(47,.p (.sl (L.map ruE))),(48,vI L.length),(49,vI i)],ckLoc j s c,H,B,[]⟩
def cqX (j:Job) (s:Stt) (c:Colm) (L:List (Int×Nat)) (H:Heap) (B:Nat):Ex×St:=(.exit 0,⟨[(0,vW j),(4,.lptr 4 0),(5,.lptr 5 0),(9,.lptr 9 0),(47,.p (.sl (L.map ruE))),(48,vI L.length),(49,vI L.length),(50,vB false)],ckLoc j s c,H,B,[]⟩)
def cqS (H:Heap) (B:Nat) (f:Nat->Bool) (_:Unit) (_:Nat) (x:Int×Nat):Unit⊕(Ex×St):=if f x.2=true then .inr (.ret,⟨[(6,vI x.1)],[],H,B,[]⟩) else .inl ()
theorem q0u1 (H:Heap) (B:Nat) (f:Nat->Bool) (fin:Ex×St): ∀(L:List (Int×Nat)) (i:Nat),(∀x∈L,x.1≠0)->rng (cqS H B f) (fun _=>fin) () i L=if q028 (L.map fun x=>(x.1,f x.2))=0 then fin else (.ret,⟨[(6,vI (q028 (L.map fun x=>(x.1,f x.2))))],[],H,B,[]⟩)
 |[],_,_=>by simp [rng,q028]
 |x::r,i,h=>by
  simp only [rng,cqS,Zo,q028]
  by_cases q:f x.2=true
  ·rw [if_pos q];simp only [if_pos q];rw [if_neg (h x (by simp))]
  ·rw [if_neg q];simp only [if_neg q];exact q0u1 H B f fin r (i+1) fun y hy=>h y (by simp [hy])
section
variable (j:Job) (w:wfJ j) (hf: ∀x∈j.items,fairI x) (s:Stt) (c:Colm) (c1:c.notes.length<=1000000) (c2:c.top.length<=1000000) (c3:c.bot.length<=1000000)
def ruleB (n:Nat):Bool:=
 if n=179 then decide (s.at_=j.items.length) else if n=180 then !q022 j s else if n=182 then !(brkF j.items s.at_).contains c.to
 else if n=185 then !mayPc j.notes (spotS j s c.to) c.notes else if n=187 then !(setF j s c c.to&&fitsC j c)
 else if n=190 then decide (c.to≠s.at_) else if n=178 then decide (c.notes≠[])
 else if n=191 then decide (c.top=[]\/8<c.top.length\/c.bot≠[]\/setF j s c s.at_=false\/(q02r j s c).over=true)
 else if n=192 then decide (c.to≠s.at_\/s.at_≠j.items.length)
 else if n=193 then decide (c.notes=[]\/mayPc j.notes (q02h (spotS j s s.at_)) c.notes=false) else decide (c.top≠[]\/c.bot≠[])
theorem q0id (k:Int):(q03j k).length<=1000/\ ∀x∈q03j k,x.1≠0:=by
 unfold q03j
 split
 ·simp [rules1]
 split
 ·simp [rules2]
 split
 ·simp [rules3]
 ·simp
def ruleE (k:Int):Int:=q028 ((q03j k).map fun x=>(x.1,ruleB j s c x.2))
theorem q0lw (h: ¬(¬(c.k=1\/c.k=2\/c.k=3)\/openS j s=false\/c.frm≠s.at_)):(endE j s c=true/\ruleE j s c c.k=19)\/(endE j s c=false/\ruleE j s c c.k=kindE j s c):=by
 have hk:c.k=1\/c.k=2\/c.k=3:=Decidable.not_not.1 fun q=>h (.inl q)
 have ho:openS j s=true:=by
  cases q:openS j s with
  |true=>rfl
  |false=>exact absurd (.inr (.inl q)) h
 have hf:c.frm=s.at_:=Decidable.not_not.1 fun q=>h (.inr (.inr q))
 unfold endE
 simp only [decide_eq_true_eq,decide_eq_false_iff_not]
 unfold ruleE q03j kindE
 rcases hk with k|k|k
 ·rw [if_pos k,if_pos k]
  by_cases e:s.at_=j.items.length
  ·exact .inl ⟨.inr (.inr (.inr (.inr (.inl ⟨k,e⟩)))),by simp [rules1,q028,ruleB,e]⟩
  ·refine .inr ⟨by simp [ho,k,hf,e],?_⟩
   unfold textE
   cases a1:q022 j s<;>cases a2:(brkF j.items s.at_).contains c.to<;>cases a3:mayPc j.notes (spotS j s c.to) c.notes<;>cases a4:setF j s c c.to<;>cases a5:fitsC j c<;>
    simp only [rules1,Zo,ZL,q028,ruleB,a1,a2,a3,a4,a5]<;>simp [e]
 ·rw [if_neg (by omega),if_pos k,if_neg (by omega),if_pos k]
  by_cases e:c.to=s.at_
  ·refine .inr ⟨by simp [ho,k,hf,e],?_⟩
   unfold q0b2
   by_cases a1:c.notes=[]
   ·by_cases a2:c.top=[]\/8<c.top.length\/c.bot≠[]\/setF j s c s.at_=false\/(q02r j s c).over=true
    ·rw [if_neg (by simpa using a1),if_pos a2]
     have a2:=eq_true a2
     simp only [rules2,Zo,ZL,q028,ruleB,a2,a1,e]
     simp
    ·rw [if_neg (by simpa using a1),if_neg a2]
     have a2:=eq_false a2
     simp only [rules2,Zo,ZL,q028,ruleB,a2,a1,e]
     simp
   ·rw [if_pos a1]
    simp [rules2,q028,ruleB,a1,e]
  ·exact .inl ⟨.inr (.inr (.inr (.inr (.inr (.inl ⟨by omega,e⟩))))),by simp [rules2,q028,ruleB,e]⟩
 ·rw [if_neg (by omega),if_neg (by omega),if_pos k,if_neg (by omega),if_neg (by omega)]
  by_cases e:c.to=s.at_/\s.at_=j.items.length
  ·refine .inr ⟨by simp [ho,k,hf,e.1,e.2],?_⟩
   have e1:=eq_true e.1
   have e2:=eq_true e.2
   unfold noteE
   by_cases a1:c.notes=[]\/mayPc j.notes (q02h (spotS j s s.at_)) c.notes=false
   ·rw [if_pos a1]
    have a1:=eq_true a1
    simp only [rules3,Zo,ZL,q028,ruleB,a1,ne_eq,e1,e2]
    simp
   ·rw [if_neg a1]
    have a1:=eq_false a1
    by_cases a2:c.top≠[]\/c.bot≠[]
    ·rw [if_pos a2]
     have a2:=eq_true a2
     simp only [rules3,Zo,ZL,q028,ruleB,a1,a2,e1,e2]
     simp [e1,e2]
    ·rw [if_neg a2]
     have a2:=eq_false a2
     simp only [rules3,Zo,ZL,q028,ruleB,a1,a2,e1,e2]
     simp [e1,e2]
  ·refine .inl ⟨?_,?_⟩
   ·by_cases e1:c.to=s.at_
    ·exact .inr (.inr (.inr (.inr (.inr (.inr ⟨k,fun h=>e ⟨e1,h⟩⟩)))))
    ·exact .inr (.inr (.inr (.inr (.inr (.inl ⟨by omega,e1⟩)))))
   ·have e':(c.to≠s.at_\/s.at_≠j.items.length)=True:=eq_true (by
     by_cases e1:c.to=s.at_
     ·exact .inr fun h=>e ⟨e1,h⟩
     ·exact .inl e1)
    simp only [rules3,Zo,ZL,q028,ruleB,e']
    simp
theorem q0ny:q06c j s c=if¬(c.k=1\/c.k=2\/c.k=3)\/openS j s=false\/c.frm≠s.at_ then 19 else if ruleE j s c c.k≠0 then ruleE j s c c.k
  else if (q02r j s c).over=true/\sameC c ((q04r j s).getD q014)=false then 17 else 0:=by
 by_cases h: ¬(c.k=1\/c.k=2\/c.k=3)\/openS j s=false\/c.frm≠s.at_
 ·rw [if_pos h]
  unfold q06c
  rw [if_pos]
  unfold endE
  rw [decide_eq_true_eq]
  rcases h with h|h|h
  ·by_cases q:c.k<1
   ·exact .inr (.inl q)
   ·exact .inr (.inr (.inl (by omega)))
  ·exact .inl h
  ·exact .inr (.inr (.inr (.inl h)))
 ·rw [if_neg h]
  unfold q06c
  rcases q0lw j s c h with ⟨h1,h2⟩|⟨h1,h2⟩
  ·rw [if_pos h1,h2,if_pos (by omega)]
  ·rw [if_neg (by rw [h1];simp),h2]
end
theorem q0lx (k:Int) (m:Nat) (f:Item->Item) (hf: ∀x,(f x).k=x.k/\(f x).n=x.n): ∀(l:List Item) (i n:Nat),refF k m i n (l.map f)=refF k m i n l
 |[],_,_=>rfl
 |x::r,i,n=>by
  simp only [Zo,refF,(hf x).1,(hf x).2,q0lx k m f hf r]
theorem dn_eq {n s:Int} (h0:0<=n) (h1:n<=1073741823) (hs:1<=s):downG n s=s*(n/s):=by
 have a:=Int.emod_nonneg n (show s≠0 by omega)
 have b:=Int.emod_add_mul_ediv n s
 have c:0<=s*(n/s):=Int.mul_nonneg (by omega) (Int.ediv_nonneg h0 (by omega))
 unfold downG downF
 rw [if_neg (by omega)]
 unfold subF
 rw [if_pos (by omega)]
 simp only [orN]
 omega
theorem q0u2 {a b s:Int} (h0:0<=a) (h:a<=b) (h1:b<=1073741823) (hs:1<=s):downG a s<=downG b s:=by
 rw [dn_eq h0 (by omega) hs,dn_eq (by omega) h1 hs]
 exact Int.mul_le_mul_of_nonneg_left (Int.ediv_le_ediv (by omega) h) (by omega)
theorem q0u3 {g:Geom} (h:geomF g=0):1<=g.first/\g.first<=g.high/\0<=g.topMost/\0<=g.botMost/\0<=g.topMany/\0<=g.botMany/\g.topMany<=4/\g.botMany<=4/\0<=g.noteMost:=by
 unfold geomF at h
 by_cases q1:inR 1 8 [g.cols]=false
 ·rw [if_pos q1] at h;omega
 rw [if_neg q1] at h
 by_cases q2:inR 1 1073741823 [g.wide,g.high]=false
 ·rw [if_pos q2] at h;omega
 rw [if_neg q2] at h
 by_cases q3:inR 0 1073741823 [g.gap,g.noteMost,g.topMost,g.botMost]=false
 ·rw [if_pos q3] at h;omega
 rw [if_neg q3] at h
 by_cases q4:inR 0 536870912 [g.rule,g.sep,g.grid]=false
 ·rw [if_pos q4] at h;omega
 rw [if_neg q4] at h
 by_cases q5:inR 1 g.high [g.first]=false
 ·rw [if_pos q5] at h;omega
 rw [if_neg q5] at h
 by_cases q6:inR 0 g.first [g.grid]=false
 ·rw [if_pos q6] at h;omega
 rw [if_neg q6] at h
 by_cases q7:inR 0 4 [g.topMany,g.botMany]=false
 ·rw [if_pos q7] at h;omega
 have a1:=q04b q5 g.first (by simp)
 have a2:=q04b q3 g.topMost (by simp)
 have a3:=q04b q3 g.botMost (by simp)
 have a4:=q04b q7 g.topMany (by simp)
 have a5:=q04b q7 g.botMany (by simp)
 have a6:=q04b q3 g.noteMost (by simp)
 omega
theorem wf_of {j:Job} (r:Right j) (sm:small (snapG j)):wfJ (snapG j):=by
 have hg:=q0bp r.g
 have hm:=q0u3 r.g
 obtain ⟨f,hf,hk⟩:=q0fj j
 have h5:=q07c 5 j.notes.length j.items 0 0 (Zj _) r.r5
 have hgr:(snapG j).g.first<=(snapG j).g.high/\(snapG j).g.high<=4294967296/\0<=(snapG j).g.first/\0<=(snapG j).g.sep/\(snapG j).g.sep<=4294967296/\(snapG j).g.topMany=j.g.topMany/\(snapG j).g.botMany=j.g.botMany/\(snapG j).g.topMost=j.g.topMost/\(snapG j).g.botMost=j.g.botMost:=by
  unfold snapG
  split
  ·refine ⟨by omega,by omega,by omega,by omega,by omega,rfl,rfl,rfl,rfl⟩
  ·have b1:=q0u2 (a:=j.g.first) (b:=j.g.high) (s:=j.g.grid) (by omega) (by omega) (by omega) (by omega)
   have b2:=q09m (n:=j.g.high) (s:=j.g.grid) (by omega) (by omega) (by omega) (by omega)
   have b3:=q09m (n:=j.g.first) (s:=j.g.grid) (by omega) (by omega) (by omega) (by omega)
   have b4:=q09l (n:=j.g.sep) (s:=j.g.grid) (by omega) (by omega) (by omega) (by omega)
   exact ⟨b1,b2.2,b3.1,b4.1,b4.2,rfl,rfl,rfl,rfl⟩
 refine ⟨q0Ex r sm,?_,?_,?_,?_,hgr.2.2.1,⟨hgr.1,hgr.2.1⟩,⟨hgr.2.2.2.1,hgr.2.2.2.2.1⟩,?_,?_⟩
 ·intro n hn
  unfold snapG at hn
  split at hn
  ·exact (q0pu (r.notes n hn)).1
  ·obtain ⟨m,hm,rfl⟩:=ZJ.1 hn
   have:=(q0pu (r.notes m hm)).1
   simpa [noteG] using this
 ·rw [q0j0,hf]
  unfold q01a
  rw [q0pq 5 f (fun x=>(hk x).1)]
  omega
 ·rw [q0v3,hf,q0lx 6 _ f hk]
  exact r.r6
 ·intro x hx
  have ht:=r.tall x hx
  unfold snapG at hx
  split at hx
  ·rename_i hgr
   have ho:=r.floats x hx
   unfold q01l at ho
   simp only [Zb,decide_eq_true_eq] at ho
   exact ⟨by omega,by omega,by omega⟩
  ·obtain ⟨y,hy,rfl⟩:=ZJ.1 hx
   have ho:=r.floats y hy
   unfold q01l at ho
   simp only [Zb,decide_eq_true_eq] at ho
   have b:=q09l (n:=y.h) (s:=j.g.grid) (by omega) (by omega) (by omega) (by omega)
   exact ⟨⟨by simp only [q01h];omega,by simp only [q01h];omega⟩,by simp only [q01h];omega,by omega⟩
 ·rw [hgr.2.2.2.2.2.1,hgr.2.2.2.2.2.2.1,hgr.2.2.2.2.2.2.2.1,hgr.2.2.2.2.2.2.2.2]
  omega
 ·rw [q0j1];omega
end Go.EnvOf
namespace Go.EnvOf
open Go Go.Eng
set_option maxRecDepth 100000
def goS (j:Job):Stt->List Colm->Stt
 |s,[]=>s
 |s,c::r=>goS j (nextS j s c) r
theorem q0Zd: ∀(l:List Float) (i:Nat),(figOf 0 i l).length+(figOf 1 i l).length+(figOf 2 i l).length<=l.length
 |[],_=>by simp [figOf]
 |x::r,i=>by
  have:=q0Zd r (i+1)
  simp only [figOf,Zt,Zg]
  by_cases a:x.c=0
  ·rw [if_pos a,if_neg (by omega),if_neg (by omega)];simp;omega
  by_cases b:x.c=1
  ·rw [if_neg a,if_pos b,if_neg (by omega)];simp;omega
  by_cases c:x.c=2
  ·rw [if_neg a,if_neg b,if_pos c];simp;omega
  ·rw [if_neg a,if_neg b,if_neg c];simp;omega
theorem q0Xx {j:Job} (w:wfJ j) {s:Stt} (r:rightP j s):0<=q0Xw j s/\q0Xw j s<=j.items.length+lineN j.notes+j.floats.length:=by
 have cb:=q09w w r
 have h0:=r.h0
 have h1:=r.h1
 have h2:=q0hy w r
 have bd:=q0wx w.w s.at_
 have a0:=r.at0
 have a1:=r.at1
 have f3:=q0Zd j.floats 0
 rw [q0Yc r,q0Y7 h0 (by unfold leC at h1;omega)]
 have lb:0<=progN j.notes s.note s.line/\progN j.notes s.note s.line<=lineN j.notes:=by
  unfold progN
  have l0:=q0Yb j.notes cb.1
  have z:lineN (j.notes.take (0:Int).toNat)=0:=by simp [lineN]
  have l1:=q0Yb j.notes cb.2.2.1
  have e:j.notes.take ((j.notes.length:Nat):Int).toNat=j.notes:=by simp
  rw [e] at l1
  refine ⟨by omega,?_⟩
  by_cases q:s.line=0
  ·omega
  ·have h:=cb.2.2.2 q
   have l2:=q0Y0 j.notes s.note cb.1 h.1
   have l3:=q0Yb j.notes (show s.note+1<=(j.notes.length:Int) by omega)
   rw [e] at l3
   omega
 unfold leC allC zeroC at*
 simp only at*
 omega
section
variable (j:Job) (w:wfJ j)
include w
end
end Go.EnvOf
namespace Go.EnvOf
open Go Go.Eng
set_option maxRecDepth 100000
section
variable (j:Job) (w:okW j)
end
def Rows (b:Nat) (H:Heap) (id:Nat) (ps:List (List Piece)):Prop:=
 ∃vs:List V,Eng.rowAt H id=some (1,vs.map fun v=>[v])/\vs.length=ps.length/\ ∀(k:Nat) (v:V) (p:List Piece),vs[k]? =some v->ps[k]? =some p-> ∃B,repP p v H B/\ ∀k∈B,b<=k/\k≠id
end Go.EnvOf
namespace Go.EnvOf
open Go Go.Eng
set_option maxRecDepth 100000
section
variable (j:Job) (w:wfJ j)
end
section
variable (j:Job) (w:wfJ j)
theorem q10r (hM:(j.items.length:Int)+lineN j.notes+j.floats.length<=1000000) (w:okW j) (H:Heap):clD EE (.p (.fn 26)) [vW j] H=some (vI (j.items.length+lineN j.notes+j.floats.length),none):=by
 rw [q002 _ _ _ _ _ _ (noP _) fn26]
 have p:=fun H=>q07d j H
 have l0:=(q0zd j.notes w.lines).1
 have n:=fun H=>q0n8 j.notes H w.n2 (by omega)
 have w1:IntKind.i64.wrap ((j.items.length:Int)+lineN j.notes)=j.items.length+lineN j.notes:=w64 (by omega) (by omega)
 have w2:IntKind.i64.wrap ((j.items.length:Int)+lineN j.notes+j.floats.length)=j.items.length+lineN j.notes+j.floats.length:=w64 (by omega) (by omega)
 simp only [vJob,cGeom,Zd,Zf] at p
 simp [zEc,fldvV,p,n,w1,w2]
end
def q0Yg (j:Job):Bool:=q0bl j||decide (16<(j.items.length:Int))||decide (3<(j.notes.length:Int))||decide (4<(j.floats.length:Int))||decide (4<j.g.topMany)||decide (4<j.g.botMany)
theorem q0Zv (j:Job) (H:Heap):clD EE (.p (.fn 11)) [vJob j] H=some (vB (q0Yg j),none):=by
 rw [q002 _ _ _ _ _ _ (noP _) fn11]
 have l1:=fun H=>q0yo j H
 unfold q0Yg
 simp only [vJob,cGeom,Zd,Zf] at l1⊢
 cases b1:q0bl j with
 |true=>rw [b1] at l1;simp [zEc,l1]
 |false=>
  rw [b1] at l1
  by_cases h1:(16:Int)<j.items.length
  ·simp [zEc,l1,h1]
  by_cases h2:(3:Int)<j.notes.length
  ·simp [zEc,l1,h1,h2]
  by_cases h3:(4:Int)<j.floats.length
  ·simp [zEc,l1,h1,h2,h3]
  by_cases h4:(4:Int)<j.g.topMany
  ·simp [zEc,l1,h1,h2,h3,h4]
  simp [zEc,l1,h1,h2,h3,h4]
theorem q0Zw (k:Int) (l:List Note) (h: ∀n∈l,(n.lines.length:Int)<=k):lineN l<=k*l.length:=by
 induction l with
 |nil=>simp [lineN]
 |cons n r ih=>
  have h1:=h n ZE
  have h2:=ih fun m hm=>h m (Zv _ hm)
  simp only [lineN,Zo,List.sum_cons,Zg] at h2⊢
  push_cast
  rw [Int.mul_add]
  omega
theorem q10f {j:Job} (s:small j):(j.items.length:Int)+lineN j.notes+j.floats.length<=1000000:=by
 have a:=s.items
 have b:=s.notes
 have c:=s.floats
 have d:=q0Zw 100 j.notes fun n hn=>by have:=(s.each n hn).1;omega
 omega
end Go.EnvOf
