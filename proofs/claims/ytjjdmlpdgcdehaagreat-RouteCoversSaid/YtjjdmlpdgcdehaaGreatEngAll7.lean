/- The engine: values, instructions, their evaluation, and that it holds of the program. -/
import Derived.OrdersIn
import Derived.Test.YtjjdmlpdgcdehaaGreatEngAll6
namespace Go.Eng
open Go
section
variable {n:Nat} {P:Program} {o:Oper} {a:Act} {w:World} {Q:Exit->Act->World->Prop} {ro:Option Nat}
variable {N:Nat} {G:Gh} {own:Own} {L:Nat->Option Nat} {S S':St} {next:Act->World->Prop}
theorem q0Am (h:Sim N G own L S a w) (hd: ∀t,o.dst=some t->t<N) {K:Gh->Prop} {cl:ClT} (hcl:ClOK P K cl) (hK:Kn K G) {i:Ins} (hok:okIns P o.op i=true)
  (hev:evIns cl o.dst i S=some S') (hn: ∀a' w',Res N G own w a.defers S' a' w'->next a' w'):o.wpIn (Fw ro) n P a w next Q:=by
 cases i with
 |mov x=>exact q0zo (Fw.fn ro) h hd hok hev hn
 |nrow s=>exact q0w7 (Fw.fn ro) h hd hok hev hn
 |bin op x y=>exact q0zn (Fw.fn ro) h hd hok hev hn
 |eqb ng x y=>exact q0zw (Fw.fn ro) h hd hok hev hn
 |eqn k ng x=>exact q0zx (Fw.fn ro) h hd hok hev hn
 |eqa ng sh x y=>exact q0zy (Fw.fn ro) h hd hok hev hn
 |eqs ng x y=>exact q0zz (Fw.fn ro) h hd hok hev hn
 |slca x lo s m=>exact q0w6 (Fw.fn ro) h hd hok hev hn
 |clr x s zero=>exact q0A9 (Fw.fn ro) h hd hok hev hn
 |un op x=>exact q0Dd (Fw.fn ro) h hd hok hev hn
 |conv k x=>exact q0w1 (Fw.fn ro) h hd hok hev hn
 |len x=>exact q0zu (Fw.fn ro) h hd hok hev hn
 |mnmx mx x y=>exact q0w2 (Fw.fn ro) h hd hok hev hn
 |pick c x y=>exact q0w0 (Fw.fn ro) h hd hok hev hn
 |off x k=>exact q0zp (Fw.fn ro) h hd hok hev hn
 |ixa x i s m=>exact q0zq (Fw.fn ro) h hd hok hev hn
 |ixs x i s=>exact q0zr (Fw.fn ro) h hd hok hev hn
 |ixv x i s m agg=>exact q0zt (Fw.fn ro) h hd hok hev hn
 |ixc x i=>exact q0A0 (Fw.fn ro) h hd hok hev hn
 |fldv x o m agg=>exact q0w3 (Fw.fn ro) h hd hok hev hn
 |ld x m agg=>exact q0k9 (Fw.fn ro) h hd hok hev hn
 |st x v m=>exact q0se (Fw.fn ro) h hd hok hev hn
 |ldl k x m agg=>exact q0zs (Fw.fn ro) h hd hok hev hn
 |stl k x v m=>exact q0A8 (Fw.fn ro) h hd hok hev hn
 |mkz s zero x=>exact q0Ae (Fw.fn ro) h hd hok hev hn
 |al zero loc=>exact q0sb (Fw.fn ro) h hd hok hev hn
 |bx x m loc=>exact q0sc (Fw.fn ro) h hd hok hev hn
 |alp zero=>exact q0A4 (Fw.fn ro) h hd hok hev hn
 |bxp x m=>exact q0A5 (Fw.fn ro) h hd hok hev hn
 |bld zero ps=>exact q0Aa (Fw.fn ro) h hd hok hev hn
 |bsl s len zero ps=>exact q0Ab (Fw.fn ro) h hd hok hev hn
 |app x y s=>exact q0oi (Fw.fn ro) h hd hok hev hn
 |slc x lo hi s=>exact q0A3 (Fw.fn ro) h hd hok hev hn
 |mks s zero x=>exact q0Ad (Fw.fn ro) h hd hok hev hn
 |bsr s len zero ps=>exact q0Ac (Fw.fn ro) h hd hok hev hn
 |ext x i=>exact q0zv (Fw.fn ro) h hd hok hev hn
 |call f as pure=>exact q0wa h hd hok hcl hK hev hn
 |callv x as pure=>exact q0sg h hd hok hcl hK hev hn
 |mkf f first cap=>exact q0A2 (Fw.fn ro) h hd hok hev hn
 |nck x=>exact q0A1 (Fw.fn ro) h hd hok hev hn
 |mp m as=>exact q0Dh (Fw.fn ro) h hd hok hev hn
 |callz f as=>exact q0sk h hd hok hcl hK hev hn
 |mkh j s zero x=>exact q0Ak (Fw.fn ro) h hd hok hev hn
 |ldh x m agg=>
  have hev':retS S o.dst (ldhV S m agg (S.arg x))=some S':=hev
  unfold ldhV at hev'
  split at hev'
  ·exact q0k9 (Fw.fn ro) h hd (x:=x) (agg:=agg) (cl:=cl) hok hev' hn
  ·cases hev'
 |apo x y s m c=>exact q0Al (Fw.fn ro) h hd hok hev hn
end
theorem q05u (S:St) (d:Option Nat) (v:V):(S.put d v).base=S.base:=by cases d<;>rfl
theorem q0hl (S:St) (d:Option Nat) (v:V):(S.put d v).dirty=S.dirty:=by cases d<;>rfl
def Up (S S':St):Prop:=S'.base=S.base/\(∀x,x∈S.dirty->x∈S'.dirty)
theorem Up.refl (S:St):Up S S:=⟨rfl,fun _ h=>h⟩
theorem Up.trans {S S' S'':St} (h:Up S S') (k:Up S' S''):Up S S'':=⟨k.1.trans h.1,fun x hx=>k.2 x (h.2 x hx)⟩
theorem Up.put {S S1:St} (h:Up S S1) (d:Option Nat) (v:V):Up S (S1.put d v):=⟨(q05u ..).trans h.1,fun x hx=>by rw [q0hl];exact h.2 x hx⟩
theorem q0om {S S':St} {d:Option Nat} {r:Option V} (h:retS S d r=some S'):Up S S':=by
 cases r with
 |none=>cases h
 |some v=>have h':S.put d v=S':=by simpa [retS] using h
          subst h';exact (Up.refl S).put d v
theorem q02v {S S':St} {d:Option Nat} {r:Option (V×St)} (h:retP d r=some S') (hr: ∀x S1,r=some (x,S1)->Up S S1):Up S S':=by
 obtain ⟨x,S1,h1,rfl⟩:=q01v h
 exact (hr x S1 h1).put d x
theorem q0fx {S:St} {d:Option Nat} {cs:List V} {l:Bool} {x:V} {S1:St} (h:boxI S d cs l=some (x,S1)):Up S S1:=by
 unfold boxI at h
 split at h
 ·split at h
  ·cases h;exact ⟨rfl,fun _ h=>h⟩
  ·cases h
 ·cases h;exact ⟨rfl,fun _ h=>h⟩
 ·cases h
theorem q0ej {S:St} {x:V} {vs:List V} {S1:St} (h:q00l S x vs=some S1):Up S S1:=by
 unfold q00l at h
 split at h
 ·rename_i s off
  cases hg:getL S.loc s with
  |none=>rw [hg] at h;cases h
  |some ds=>
   rw [hg] at h
   simp only [Ze] at h
   split at h
   ·cases h
   cases hss:q001 ds off vs with
   |none=>rw [hss] at h;cases h
   |some ds'=>rw [hss] at h;cases h;exact ⟨rfl,fun _ h=>h⟩
 ·rename_i id off
  cases hg:boxAt S.hp id with
  |none=>rw [hg] at h;cases h
  |some ds=>
   rw [hg] at h
   simp only [Ze] at h
   cases hss:q001 ds off vs with
   |none=>rw [hss] at h;cases h
   |some ds'=>rw [hss] at h;cases h;exact ⟨rfl,fun _ h=>q02w.2 (.inr h)⟩
 ·rename_i id tot i j
  cases hg:rowAt S.hp id with
  |none=>rw [hg] at h;cases h
  |some p=>
   obtain ⟨s,es⟩:=p
   rw [hg] at h
   simp only [Ze] at h
   split at h
   ·cases he:es[i]? with
    |none=>rw [he] at h;cases h
    |some el=>
     rw [he] at h
     simp only [Ze] at h
     cases hss:q001 el j vs with
     |none=>rw [hss] at h;cases h
     |some el'=>rw [hss] at h;cases h;exact ⟨rfl,fun _ h=>q02w.2 (.inr h)⟩
   ·cases h
 ·cases h
theorem q0sl {S:St} {x v:V} {m:Nat} {r:V} {S1:St} (h:stI S x v m=some (r,S1)):Up S S1:=by
 unfold stI at h
 split at h
 ·cases hs:q00l S x v.cells with
  |none=>rw [hs] at h;cases h
  |some S2=>rw [hs] at h;cases h;exact q0ej hs
 ·cases h
theorem q0on {S:St} {x y:V} {s:Nat} {r:V} {S1:St} (h:appV S x y s=some (r,S1)):Up S S1:=by
 unfold appV at h
 cases he:elems S.hp y with
 |none=>rw [he] at h;cases h
 |some ys=>
  rw [he] at h
  simp only [Ze] at h
  split at h
  ·split at h
   ·split at h
    ·split at h<;>cases h<;>exact ⟨rfl,fun _ h=>h⟩
    ·cases h
   ·rename_i id tot off len _
    cases hg:rowAt S.hp id with
    |none=>rw [hg] at h;cases h
    |some p=>
     obtain ⟨s',es⟩:=p
     rw [hg] at h
     simp only [Ze] at h
     split at h
     ·cases h;exact ⟨rfl,fun _ h=>q02w.2 (.inr h)⟩
     ·cases h
   ·cases h
  ·cases h
theorem q0An {S:St} {s:Nat} {zero:List V} {x r:V} {S1:St} (h:mksI S s zero x=some (r,S1)):Up S S1:=by
 unfold mksI at h
 split at h
 ·split at h
  ·cases h;exact ⟨rfl,fun _ h=>h⟩
  ·cases h
 ·cases h
theorem q069 {S:St} {j s:Nat} {zero:List V} {x r:V} {S1:St} (h:mkhI S j s zero x=some (r,S1)): ∃k n,x= .p (.int k n)/\(0<n/\n.toNat<most/\0<j/\j<=S.hp.length/\S.base<=S.hp.length-j)/\
  rowAt S.hp (S.hp.length-j)=some (s,[])/\r= .row (S.hp.length-j) n.toNat 0 n.toNat/\S1= {S with hp:=S.hp.set (S.hp.length-j) (.row s (List.replicate n.toNat zero))}:=by
 unfold mkhI at h
 split at h
 ·rename_i k n
  split at h
  ·rename_i hc
   unfold mkhR at h
   split at h
   ·rename_i s' hro
    split at h
    ·rename_i e
     subst e
     cases h
     exact ⟨k,n,rfl,hc,hro,rfl,rfl⟩
    ·cases h
   ·cases h
  ·cases h
 ·cases h
theorem q0Ao {S:St} {j s:Nat} {zero:List V} {x r:V} {S1:St} (h:mkhI S j s zero x=some (r,S1)):Up S S1:=by
 obtain ⟨k,n,-,-,-,-,rfl⟩:=q069 h
 exact ⟨rfl,fun _ h=>h⟩
theorem q0qd {cl:ClT} {S S':St} {d:Option Nat} {f:FuncId} {vs:List V} (h:callZ cl S d f vs=some S'):vs.all (solN sd)=true/\retS S d (zR (cl (.p (.fn f)) vs []))=some S':=by
 unfold callZ at h
 split at h
 ·rename_i hs;exact ⟨hs,h⟩
 ·cases h
theorem q0Ap {S:St} {s:Nat} {es:Option (List (List V))} {r:V} {S1:St} (h:rowI S s es=some (r,S1)):Up S S1:=by
 obtain ⟨l,-,-,-,rfl⟩:=q04z h
 exact ⟨rfl,fun _ h=>h⟩
theorem q0Aq {S:St} {s:Nat} {zero:List V} {x r:V} {S1:St} (h:clrI S s zero x=some (r,S1)):Up S S1:=by
 unfold clrI at h
 split at h
 ·split at h
  ·cases hs:q00l S (.ptr _ _) (List.replicate _ zero).flatten with
   |none=>rw [hs] at h;cases h
   |some S2=>rw [hs] at h;cases h;exact q0ej hs
  ·cases h
 ·cases h;exact .refl S
 ·cases h
theorem q0wb {cl:ClT} {S S':St} {d:Option Nat} {pure:Bool} {f:V} {vs:List V} (h:callI cl S d pure f vs=some S'):Up S S':=by
 unfold callI at h
 split at h
 ·generalize cl f vs S.hp=r at h
  unfold callR at h
  split at h
  ·split at h
   ·cases h;exact (Up.refl S).put _ _
   ·cases h
  ·split at h
   ·cases h
   ·cases h
    rename_i v H ds _
    have hu:Up S {S with hp:=H,dirty:=ds.foldr (addD S.base) S.dirty}:=⟨rfl,fun _ h=>q04y.2 (.inr h)⟩
    exact hu.put _ _
  ·cases h
 ·cases h
theorem q0Ar {S:St} {k:Nat} {x v:V} {m:Nat} {r:V} {S1:St} (h:stlI S k v m x=some (r,S1)):Up S S1:=by
 unfold stlI at h
 split at h
 ·split at h
  ·exact q0sl h
  ·cases h
 ·cases h
theorem q0oo {S:St} {d:Option Nat} {cs:List V} {x:V} {S1:St} (h:alpI S d cs=some (x,S1)):Up S S1:=q0fx (q0df h)
theorem q0As {S:St} {d:Option Nat} {v:V} {m:Nat} {x:V} {S1:St} (h:bxpI S d v m=some (x,S1)):Up S S1:=by
 unfold bxpI at h
 split at h
 ·exact q0oo h
 ·cases h
theorem q0Dj {S:St} {d:Option Nat} {v:V} {m:Nat} {l:Bool} {x:V} {S1:St} (h:bxI S d v m l=some (x,S1)):Up S S1:=by
 unfold bxI at h
 split at h
 ·exact q0fx h
 ·cases h
theorem q0kl {cl:ClT} {d:Option Nat} {i:Ins} {S S':St} (h:evIns cl d i S=some S'):Up S S':=by
 cases i<;>simp only [evIns] at h<;>first
  |exact q0om h
  |exact q0wb h
  |exact q02v h fun x S1 hx=>q0sl hx
  |exact q02v h fun x S1 hx=>q0Ar hx
  |exact q02v h fun x S1 hx=>q0fx hx
  |exact q02v h fun x S1 hx=>q0Dj hx
  |exact q02v h fun x S1 hx=>q0oo hx
  |exact q02v h fun x S1 hx=>q0As hx
  |exact q02v h fun x S1 hx=>q0on hx
  |exact q02v h fun x S1 hx=>q0An hx
  |exact q02v h fun x S1 hx=>q0Ap hx
  |exact q02v h fun x S1 hx=>q0Aq hx
  |exact q0om (q0qd h).2
  |exact q02v h fun x S1 hx=>q0Ao hx
  |(split at h;exact q02v h fun x S1 hx=>q0on hx;cases h)
  |(cases h;exact (Up.refl S).put _ _)
  |exact q02v h fun x S1 hx=>(by cases hx;exact ⟨rfl,fun _ h=>h⟩)
theorem q0Dk {cl:ClT} {g:GIns} {S S':St} (h:evG cl g S=some S'):Up S S':=by
 unfold evG at h
 split at h
 ·exact q0kl h
 ·cases h;exact (Up.refl S).put _ _
 ·cases h
structure Fr (w0:World) (o0 oc:Own) (S:St) (w:World):Prop where
 sz:w0.heap.size<=w.heap.size
 own: ∀b k,oc b=some k->b<w0.heap.size-> ∃id,k= .obj id/\id<S.base
 old: ∀b k,oc b=some k->b<w0.heap.size->o0 b=some k
 same: ∀b,b<w0.heap.size->(∀k,o0 b=some k-> ∃id,k= .obj id/\id∉S.dirty)->w.heap[b]? =w0.heap[b]?
structure Marks (w0:World) (own:Own) (w:World) (ds:List Deferred):Prop where
 all: ∀d∈ds,∃b,d= {target:= .collected b,args:= #[]}/\w0.heap.size<=b/\own b=none/\w.heap[b]? =some (.deferred (some []))
 nodup:ds.Pairwise fun d d'=>d.target≠d'.target
theorem Marks.nil (w0:World) (own:Own) (w:World):Marks w0 own w []:=⟨fun d hd=>(by cases hd),.nil⟩
theorem Marks.foot {w0:World} {own own':Own} {w w':World} {ds:List Deferred} {G G':Gh} (h:Marks w0 own w ds) (hf:Foot G own w G' own' w'):Marks w0 own' w' ds:=
 ⟨fun d hd=>by
  obtain ⟨b,h1,h2,h3,h4⟩:=h.all d hd
  have hlt:b<w.heap.size:=(ZN.1 h4).1
  refine ⟨b,h1,h2,?_,by rw [hf.same b hlt h3];exact h4⟩
  cases hx:own' b with
  |none=>rfl
  |some k=>
   rcases hf.news b k hx with h5|h5
   ·rw [h3] at h5;cases h5
   ·omega,h.nodup⟩
def InF (N:Nat) (w0:World) (G0:Gh) (own0:Own) (S:St) (a:Act) (w:World):Prop:=
 ∃G own L,Sim N G own L S a w/\Foot G0 own0 w0 G own w/\Fr w0 own0 own S w/\Marks w0 own w a.defers
section
variable {n:Nat} {P:Program} {o:Oper} {a:Act} {w:World} {Q:Exit->Act->World->Prop} {ro:Option Nat}
variable {N:Nat} {S S':St} {w0:World} {G0:Gh} {own0:Own}
theorem Fr.step {G:Gh} {own:Own} (h:Fr w0 own0 own S w) {a':Act} {w':World} (hup:Up S S') {D':List Deferred} (hr:Res N G own w D' S' a' w'):
  ∃G' own' L',Sim N G' own' L' S' a' w'/\Foot G own w G' own' w'/\Fr w0 own0 own' S' w'/\a'.defers=D':=by
 obtain ⟨G',own',L',h1,h2,h3,h4⟩:=hr
 have back: ∀b k,own' b=some k->b<w0.heap.size->own b=some k:=fun b k hk hb=>by
  rcases h2.news b k hk with h5|h5
  ·exact h5
  ·have:=h.sz;omega
 refine ⟨G',own',L',h1,h2,⟨Nat.le_trans h.sz h2.size,fun b k hk hb=> ?_,fun b k hk hb=>h.old b k (back b k hk hb) hb,fun b hb hd=> ?_⟩,h3⟩
 ·rw [hup.1];exact h.own b k (back b k hk hb) hb
 ·rw [h4 b (Nat.lt_of_lt_of_le hb h.sz) (fun k hk=> ?_),h.same b hb (fun k hk=> ?_)]
  ·obtain ⟨id,h5,h6⟩:=hd k hk
   exact ⟨id,h5,fun hm=>h6 (hup.2 _ hm)⟩
  ·obtain ⟨id,h5,h6⟩:=hd k (h.old b k hk hb)
   obtain ⟨id',h7,h8⟩:=h.own b k hk hb
   rw [h5] at h7;cases h7
   exact ⟨id,h5,by rw [hup.1];exact h8,h6⟩
theorem Fr.of_res {G G':Gh} {own own':Own} {L:Nat->Option Nat} (h:Fr w0 own0 own S w) {a':Act} {w':World} (hup:Up S S') (_h1:Sim N G' own' L S' a' w') (h2:Foot G own w G' own' w') (h4:Kp S'.base S'.dirty own w w'):Fr w0 own0 own' S' w':=by
 have back: ∀b k,own' b=some k->b<w0.heap.size->own b=some k:=fun b k hk hb=>by
  rcases h2.news b k hk with h5|h5
  ·exact h5
  ·have:=h.sz;omega
 refine ⟨Nat.le_trans h.sz h2.size,fun b k hk hb=> ?_,fun b k hk hb=>h.old b k (back b k hk hb) hb,fun b hb hd=> ?_⟩
 ·rw [hup.1];exact h.own b k (back b k hk hb) hb
 ·rw [h4 b (Nat.lt_of_lt_of_le hb h.sz) (fun k hk=> ?_),h.same b hb (fun k hk=> ?_)]
  ·obtain ⟨id,h5,h6⟩:=hd k hk
   exact ⟨id,h5,fun hm=>h6 (hup.2 _ hm)⟩
  ·obtain ⟨id,h5,h6⟩:=hd k (h.old b k hk hb)
   obtain ⟨id',h7,h8⟩:=h.own b k hk hb
   rw [h5] at h7;cases h7
   exact ⟨id,h5,by rw [hup.1];exact h8,h6⟩
theorem InF.step (hi:InF N w0 G0 own0 S a w) (hup:Up S S') {K:Act->World->Prop} (hk: ∀a' w',InF N w0 G0 own0 S' a' w'->K a' w'):
  ∃G own L,Sim N G own L S a w/\G0.Le G/\ ∀a' w',Res N G own w a.defers S' a' w'->K a' w':=by
 obtain ⟨G,own,L,h1,h2,h3,h4⟩:=hi
 refine ⟨G,own,L,h1,h2.le,fun a' w' hr=>hk a' w' ?_⟩
 obtain ⟨G',own',L',k1,k2,k3,k4⟩:=h3.step hup hr
 exact ⟨G',own',L',k1,h2.trans k2,k3,by rw [k4];exact h4.foot k2⟩
theorem InF.put (hi:InF N w0 G0 own0 S a w) {d:Option Nat} (hd: ∀t,d=some t->t<N) {v:Value} {x:V} (hv: ∀G L,SRep G L v x):InF N w0 G0 own0 (S.put d x) (a.put d v) w:=by
 obtain ⟨G,own,L,h1,h2,h3,h4⟩:=hi
 refine ⟨G,own,L,h1.put hd (hv G L),h2,⟨h3.sz,fun b k hk hb=>by rw [q05u];exact h3.own b k hk hb,h3.old,fun b hb hx=>by rw [q0hl] at hx;exact h3.same b hb hx⟩,by rw [q00x];exact h4⟩
def okG (P:Program) (ops:Array Oper) (N:Nat) (o:Oper) (g:GIns):Bool:=
 g.dst==o.dst&&(match o.dst with|some t=>decide (t<N)|none=>true)&&
 (match g.guard,o.guard with|none,none=>true|some (t,b),some (j,b')=>b==b'&&((ops[j]?).bind (·.dst))==some t|_,_=>false)&&okIns P o.op g.ins
theorem q0km {ops:Array Oper} {tmps:Array Value} {j t:Nat} (hj:((ops[j]?).bind (·.dst))=some t) {b:Bool} (h:tmps.getD t undef= .bool b):yielded ops tmps j=some b:=by
 unfold yielded
 rw [hj]
 simp only [Ze]
 by_cases ht:t<tmps.size
 ·simp [Zc,ht] at h
  simp [ht,h]
 ·simp [Zc,ht,undef] at h
theorem q0no {ops:Array Oper} {tmps:Array Value} {j t:Nat} (hj:((ops[j]?).bind (·.dst))=some t) {c:Array Value} (h:tmps.getD t undef= .tuple c):yielded ops tmps j=none:=by
 unfold yielded
 rw [hj]
 simp only [Ze]
 by_cases ht:t<tmps.size
 ·simp [Zc,ht] at h
  simp [ht,h]
 ·simp [ht]
theorem op_ok {ops:Array Oper} {i:Nat} {g:GIns} {M:Nat} (hM:M<=N) (ho:ops[i]? =some o) (hok:okG P ops M o g=true) {Kg:Gh->Prop} {cl:ClT} (hcl:ClOK P Kg cl) (hK:Kn Kg G0) (hi:InF N w0 G0 own0 S a w) (hev:evG cl g S=some S')
  {K:Act->World->Prop} (hk: ∀a' w',InF N w0 G0 own0 S' a' w'->K a' w'):wpOpIn (Fw ro) n P ops Q i K a w:=by
 unfold wpOpIn
 rw [ho]
 simp only [okG,Zb,beq_iff_eq] at hok
 obtain ⟨⟨⟨h1,h2⟩,h3⟩,h4⟩:=hok
 have hd: ∀t,o.dst=some t->t<N:=fun t ht=>by rw [ht] at h2;exact Nat.lt_of_lt_of_le (by simpa using h2) hM
 have skip:evG cl g S=some (S.put g.dst (.tup []))->K (a.put o.dst undef) w:=fun he=>by
  rw [he] at hev
  cases hev
  rw [h1] at hk
  exact hk _ _ (hi.put hd fun G L=> .of (.tup #[] [] rfl (fun j hj=>absurd hj (Zz _))))
 have go:evIns cl g.dst g.ins S=some S'->o.wpIn (Fw ro) n P a w K Q:=fun he=>by
  obtain ⟨G,own,L,k1,kl,k2⟩:=hi.step (q0kl he) hk
  rw [h1] at he
  exact q0Am k1 hd hcl (hK.le kl) h4 he k2
 split at h3
 ·rename_i hg1 hg2
  have hw:Region.wanted o (yielded ops a.tmps)=true:=by simp [Region.wanted,hg2]
  simp only [hw,if_true]
  unfold evG at hev
  rw [hg1] at hev
  exact go hev
 ·rename_i t b j b' hg1 hg2
  simp only [Zb,beq_iff_eq] at h3
  obtain ⟨rfl,hj⟩:=h3
  unfold evG at hev
  rw [hg1] at hev
  obtain ⟨G,own,L,k1,-⟩:=id hi
  have hs:=k1.slot t
  simp only [wanted] at hev
  cases hx:getE S.env t with
  |p x=>
   rw [hx] at hev hs
   cases x with
   |bool c=>
    have hy:=q0km hj (q038 hs)
    simp only at hev
    by_cases hcb:c=b
    ·subst hcb
     have hw:Region.wanted o (yielded ops a.tmps)=true:=by simp [Region.wanted,hg2,hy]
     simp only [hw,if_true]
     simp at hev
     exact go hev
    ·have hw:Region.wanted o (yielded ops a.tmps)=false:=by simp [Region.wanted,hg2,hy,hcb]
     simp only [hw,Zh,if_false]
     have hcb':(c==b)=false:=by simpa using hcb
     rw [hcb'] at hev
     refine ⟨fun f _=>trivial,skip ?_⟩
     unfold evG
     rw [hg1]
     simp [wanted,hx,hcb']
   |_=>cases hev
  |tup vs=>
   rw [hx] at hev hs
   cases vs with
   |nil=>
    have hy:yielded ops a.tmps j=none:=by
     have hs':VRep G (a.tmps.getD t undef) (.tup []):=hs
     generalize hz:a.tmps.getD t undef=z at hs'
     cases hs' with
     |tup cs _ _ _=>exact q0no hj hz
    have hw:Region.wanted o (yielded ops a.tmps)=false:=by simp [Region.wanted,hg2,hy]
    simp only [hw,Zh,if_false]
    refine ⟨fun f _=>trivial,skip ?_⟩
    unfold evG
    rw [hg1]
    simp [wanted,hx]
   |cons=>cases hev
  |_=>rw [hx] at hev;cases hev
 ·cases h3
end
def zC (cl:ClT) (f:FuncId) (vs:List V):Option V:=if vs.all (solN sd)=true then zR (cl (.p (.fn f)) vs []) else none
theorem q0wc (cl:ClT) (S:St) (d:Option Nat) (f:FuncId) (vs:List V):callZ cl S d f vs=retS S d (zC cl f vs):=by
 unfold callZ zC
 split<;>rfl
def evV (cl:ClT) (i:Ins) (S:St):Option (V×St):=
 match i with
 | .mov x=>some (S.arg x,S)
 | .nrow s=>some (.row S.hp.length 0 0 0,{S with hp:=S.hp++[DObj.row s []]})
 | .bin op x y=>(binV op (S.arg x) (S.arg y)).map (·,S)
 | .eqb ng x y=>(eqbV ng (S.arg x) (S.arg y)).map (·,S)
 | .eqn k ng x=>(eqnV k ng (S.arg x)).map (·,S)
 | .eqa ng sh x y=>(eqaV ng sh (S.arg x) (S.arg y)).map (·,S)
 | .eqs ng x y=>(eqsV ng (S.arg x) (S.arg y)).map (·,S)
 | .slca x lo s n=>(slcaV s n (S.arg x) (lo.map S.arg)).map (·,S)
 | .clr x s zero=>clrI S s zero (S.arg x)
 | .un op x=>(unV op (S.arg x)).map (·,S)
 | .conv k x=>(convV k (S.arg x)).map (·,S)
 | .len x=>(lenR (lenV (S.arg x))).map (·,S)
 | .mnmx mx x y=>(mnmxV mx (S.arg x) (S.arg y)).map (·,S)
 | .pick c a b=>(pickV (S.arg c) (S.arg a) (S.arg b)).map (·,S)
 | .off x k=>(q007 (S.arg x) k).map (·,S)
 | .ixa x i s n=>(ixaV (S.arg x) (S.arg i) s n).map (·,S)
 | .ixs x i s=>(ixsI S.hp (S.arg x) (S.arg i) s).map (·,S)
 | .ixv x i s n agg=>(ixvV (S.arg x) (S.arg i) s n agg).map (·,S)
 | .ixc x i=>(ixcV (S.arg x) (S.arg i)).map (·,S)
 | .fldv x o n agg=>(fldvV (S.arg x) o n agg).map (·,S)
 | .ld x n agg=>((q011 S (S.arg x) n).bind (aggOr agg)).map (·,S)
 | .st x v n=>stI S (S.arg x) (S.arg v) n
 | .ldl k x n agg=>(ldlV S k n agg (S.arg x)).map (·,S)
 | .stl k x v n=>stlI S k (S.arg v) n (S.arg x)
 | .mkz _ zero n=>(mkzV zero (S.arg n)).map (·,S)
 | .al zero false=>some (.ptr S.hp.length 0,{S with hp:=S.hp++[DObj.box zero]})
 | .al _ true=>none
 | .bx x n false=>if (S.arg x).cells.length=n/\(S.arg x).cells.all V.oneB=true then some (.ptr S.hp.length 0,{S with hp:=S.hp++[DObj.box (S.arg x).cells]}) else none
 | .bx _ _ true=>none
 | .alp _=>none
 | .bxp _ _=>none
 | .bld zero parts=>(aggR (fillV zero (parts.map fun (o,n,x)=>(o,n,S.arg x)))).map (·,S)
 | .bsl s len zero parts=>(slR (fillS s (List.replicate len zero) (parts.map fun (i,x)=>(i,S.arg x)))).map (·,S)
 | .app x y s=>appV S (S.arg x) (S.arg y) s
 | .slc x lo hi s=>(slcI S.hp s (S.arg x) (lo.map S.arg) (hi.map S.arg)).map (·,S)
 | .mks s zero n=>mksI S s zero (S.arg n)
 | .bsr s len zero parts=>rowI S s (fillS s (List.replicate len zero) (parts.map fun (i,x)=>(i,S.arg x)))
 | .ext x i=>(extV (S.arg x) i).map (·,S)
 | .call f args pure=>callV S pure (.p (.fn f)) (args.map fun a=>normA (S.arg a))
 | .callv x args pure=>callV S pure (S.arg x) (args.map fun a=>normA (S.arg a))
 | .mkf f first cap=>(mkfV f (first.map fun x=>normA (S.arg x)) (cap.map fun x=>normA (S.arg x))).map (·,S)
 | .nck x=>(nckV (S.arg x)).map (·,S)
 | .mp m args=>mpV S m (args.map fun a=>normA (S.arg a))
 | .callz f args=>(zC cl f (args.map fun a=>normA (S.arg a))).map (·,S)
 | .mkh j s zero n=>mkhI S j s zero (S.arg n)
 | .apo x y s n c=>if apoB S.base (S.arg x) (S.arg y) (S.arg n) c=true then appV S (S.arg x) (S.arg y) s else none
 | .ldh x n agg=>(ldhV S n agg (S.arg x)).map (·,S)
 where
 mpV (S:St) (m:MOp) (vs:List V):Option (V×St):=
  if vs.all V.outB=true then
   match mpH m vs S.hp with
   |some (v,none)=>if v.notL=true then some (v,S) else none
   |some (v,some (H,ds))=>if m.pure=true\/v.notL=false then none else some (v,{S with hp:=H,dirty:=ds.foldr (addD S.base) S.dirty})
   |none=>none
  else none
 callV (S:St) (pure:Bool) (f:V) (vs:List V):Option (V×St):=
  if vs.all V.outB=true then
   match cl f vs S.hp with
   |some (v,none)=>if v.notL=true then some (v,S) else none
   |some (v,some (H,ds))=>if pure=true\/v.notL=false then none else some (v,{S with hp:=H,dirty:=ds.foldr (addD S.base) S.dirty})
   |none=>none
  else none
def Ins.heapy (d:Option Nat):Ins->Bool
 | .al _ l=> !l&&d.isSome
 | .bx _ _ l=> !l&&d.isSome
 | .alp _| .bxp _ _=>false
 |_=>true
def Ins.cls:Ins->Nat
 | .ixs .. | .ld .. | .ldl .. | .slc .. | .ldh .. =>1
 | .call _ _ p=>if p then 1 else 2
 | .callv _ _ p=>if p then 1 else 2
 | .mp m _=>if m.pure then 1 else 2
 | .nrow _| .st .. | .stl .. | .al .. | .bx .. | .app .. | .mks .. | .bsr .. | .clr .. | .alp _| .bxp .. | .mkh .. | .apo .. =>2
 |_=>0
def argT:Arg->List Nat
 | .t n=>[n]
 | .c _=>[]
def optT:Option Arg->List Nat
 |some a=>argT a
 |none=>[]
def Ins.reads:Ins->List Nat
 | .mov x| .un _ x| .conv _ x| .len x| .off x _| .fldv x .. | .ld x .. | .ldl _ x .. | .mkz _ _ x| .bx x .. | .ext x _| .nck x| .mks _ _ x| .eqn _ _ x=>argT x
 | .clr x .. =>argT x
 | .slca x lo .. =>argT x++optT lo
 | .bin _ x y| .eqb _ x y| .eqs _ x y| .eqa _ _ x y| .mnmx _ x y| .ixa x y .. | .ixs x y _| .ixc x y| .ixv x y .. | .st x y _| .stl _ x y _| .app x y _=>argT x++argT y
 | .pick c x y=>argT c++argT x++argT y
 | .nrow _| .al .. | .alp _=>[]
 | .bxp x _=>argT x
 | .bld _ ps=>ps.flatMap fun (_,_,x)=>argT x
 | .bsl _ _ _ ps=>ps.flatMap fun (_,x)=>argT x
 | .bsr _ _ _ ps=>ps.flatMap fun (_,x)=>argT x
 | .slc x lo hi _=>argT x++optT lo++optT hi
 | .call _ as _=>as.flatMap argT
 | .callv x as _=>argT x++as.flatMap argT
 | .mkf _ as bs=>as.flatMap argT++bs.flatMap argT
 | .mp _ as=>as.flatMap argT
 | .callz _ as=>as.flatMap argT
 | .mkh _ _ _ x=>argT x
 | .ldh x .. =>argT x
 | .apo x y _ n _=>argT x++argT y++argT n
theorem q033 (S:St) (m:MOp) (vs:List V):evV.mpV S m vs=evV.callV (fun _ vs H=>mpH m vs H) S m.pure .undef vs:=rfl
theorem q0sm (cl:ClT) (d:Option Nat) (i:Ins) (S:St) (h:i.heapy d=true):evIns cl d i S=(evV cl i S).map fun p=>p.2.put d p.1:=by
 have hS: ∀(r:Option V),retS S d r=(r.map (·,S)).map fun p=>p.2.put d p.1:=fun r=>by cases r<;>rfl
 have hP: ∀(r:Option (V×St)),retP d r=r.map fun p=>p.2.put d p.1:=fun r=>by cases r<;>rfl
 have hC: ∀(cl:ClT) (p:Bool) (f:V) (vs:List V),callI cl S d p f vs=(evV.callV cl S p f vs).map fun p=>p.2.put d p.1:=fun cl p f vs=>by
  unfold callI evV.callV callR
  split
  ·generalize cl f vs S.hp=r
   match r with
   |none=>rfl
   |some (v,none)=>simp only;split<;>rfl
   |some (v,some (H,ds))=>simp only;split<;>rfl
  ·rfl
 have hM: ∀(m:MOp) (vs:List V),callI (fun _ vs H=>mpH m vs H) S d m.pure .undef vs=(evV.mpV S m vs).map fun p=>p.2.put d p.1:=fun m vs=>hC (fun _ vs H=>mpH m vs H) _ _ _
 cases i<;>simp only [evIns,evV]<;>first
  |exact hS _
  |exact hP _
  |exact hC _ _ _ _
  |exact hM _ _
  |(rw [q0wc];exact hS _)
  |(split;exact hP _;rfl)
  |rfl
  |skip
 ·rename_i z l
  cases l
  ·cases d
   ·simp [Ins.heapy] at h
   ·rfl
  ·simp [Ins.heapy] at h
 ·rename_i x n l
  cases l
  ·cases d
   ·simp [Ins.heapy] at h
   ·simp only [bxI,boxI]
    split<;>rfl
  ·simp [Ins.heapy] at h
 ·simp [Ins.heapy] at h
 ·simp [Ins.heapy] at h
section
variable {cl:ClT} {S:St} {e:List (Nat×V)}
theorem q00a {x:Arg} (h: ∀t∈argT x,getE S.env t=getE e t):St.arg {S with env:=e} x=S.arg x:=by
 cases x with
 |t n=>exact (h n (by simp [argT])).symm
 |c v=>rfl
theorem q050 {β:Type} {xs:List Arg} (f:V->β) (h: ∀t∈xs.flatMap argT,getE S.env t=getE e t):xs.map (fun x=>f (St.arg {S with env:=e} x))=xs.map (fun x=>f (S.arg x)):=by
 apply List.map_congr_left
 intro x hx
 rw [q00a fun t ht=>h t (ZQ.2 ⟨x,hx,ht⟩)]
theorem q0al {x:Option Arg} (h: ∀t∈optT x,getE S.env t=getE e t):x.map (St.arg {S with env:=e})=x.map S.arg:=by
 cases x with
 |none=>rfl
 |some x=>simp only [ZH];rw [q00a h]
theorem q0cv (x:V) (vs:List V):q00l {S with env:=e} x vs=(q00l S x vs).map fun T=> {T with env:=e}:=by
 unfold q00l
 split
 ·cases getL S.loc _ with
  |none=>rfl
  |some cs=>simp only [Ze];split<;>first|rfl|(cases q001 cs _ vs<;>rfl)
 ·cases boxAt S.hp _ with
  |none=>rfl
  |some cs=>simp only [Ze];cases q001 cs _ vs<;>rfl
 ·rename_i id tot i j
  cases rowAt S.hp id with
  |none=>rfl
  |some p=>
   obtain ⟨s,es⟩:=p
   simp only [Ze]
   split
   ·cases es[i]? with
    |none=>rfl
    |some el=>
     simp only [Ze];cases q001 el _ vs<;>rfl
   ·rfl
 ·rfl
theorem q0op (x v:V) (m:Nat):stI {S with env:=e} x v m=(stI S x v m).map fun p=>(p.1,{p.2 with env:=e}):=by
 unfold stI
 split
 ·rw [q0cv];cases q00l S x v.cells<;>rfl
 ·rfl
theorem q0cw (x:V) (n:Nat):q011 {S with env:=e} x n=q011 S x n:=by cases x<;>rfl
theorem q0wd (k:Nat) (x:V) (n:Nat) (agg:Bool):ldlV {S with env:=e} k n agg x=ldlV S k n agg x:=by
 unfold ldlV;split
 ·rw [q0cw]
 ·rfl
theorem q0we (k:Nat) (x v:V) (m:Nat):stlI {S with env:=e} k v m x=(stlI S k v m x).map fun p=>(p.1,{p.2 with env:=e}):=by
 unfold stlI
 split
 ·split
  ·exact q0op ..
  ·rfl
 ·rfl
theorem q0kn (x y:V) (s:Nat):appV {S with env:=e} x y s=(appV S x y s).map fun p=>(p.1,{p.2 with env:=e}):=by
 unfold appV
 cases elems S.hp y with
 |none=>rfl
 |some ys=>
  simp only [Ze]
  split
  ·split
   ·split
    ·split<;>rfl
    ·rfl
   ·cases rowAt S.hp _ with
    |none=>rfl
    |some p=>
     obtain ⟨s',es⟩:=p
     simp only [Ze]
     split<;>rfl
   ·rfl
  ·rfl
theorem q0wf (s:Nat) (zero:List V) (x:V):clrI {S with env:=e} s zero x=(clrI S s zero x).map fun p=>(p.1,{p.2 with env:=e}):=by
 unfold clrI
 split
 ·split
  ·rw [q0cv];cases q00l S _ (List.replicate _ zero).flatten<;>rfl
  ·rfl
 ·rfl
 ·rfl
theorem q0wg (s:Nat) (zero:List V) (x:V):mksI {S with env:=e} s zero x=(mksI S s zero x).map fun p=>(p.1,{p.2 with env:=e}):=by
 unfold mksI
 split
 ·split<;>rfl
 ·rfl
theorem q0wh (s:Nat) (es:Option (List (List V))):rowI {S with env:=e} s es=(rowI S s es).map fun p=>(p.1,{p.2 with env:=e}):=by
 unfold rowI
 split
 ·split<;>rfl
 ·rfl
theorem q0wi (j s:Nat) (zero:List V) (x:V):mkhI {S with env:=e} j s zero x=(mkhI S j s zero x).map fun p=>(p.1,{p.2 with env:=e}):=by
 unfold mkhI
 split
 ·split
  ·unfold mkhR
   simp only
   split
   ·split<;>rfl
   ·rfl
  ·rfl
 ·rfl
theorem q0am (p:Bool) (f:V) (vs:List V):evV.callV cl {S with env:=e} p f vs=(evV.callV cl S p f vs).map fun p=>(p.1,{p.2 with env:=e}):=by
 unfold evV.callV
 split
 ·simp only
  generalize cl f vs S.hp=r
  match r with
  |none=>rfl
  |some (v,none)=>simp only;split<;>rfl
  |some (v,some (H,ds))=>simp only;split<;>rfl
 ·rfl
theorem q0oq {i:Ins} (h: ∀t∈i.reads,getE S.env t=getE e t):evV cl i {S with env:=e}=(evV cl i S).map fun p=>(p.1,{p.2 with env:=e}):=by
 have hm: ∀(r:Option V),r.map (·,{S with env:=e})=(r.map (·,S)).map fun p:V×St=>(p.1,{p.2 with env:=e}):=fun r=>by cases r<;>rfl
 cases i with
 |mov x=>simp only [evV];rw [q00a h];rfl
 |nrow s=>rfl
 |al z l=>cases l<;>rfl
 |alp z=>rfl
 |bxp x n=>rfl
 |un op x=>simp only [evV];rw [q00a h];exact hm _
 |conv k x=>simp only [evV];rw [q00a h];exact hm _
 |len x=>simp only [evV];rw [q00a h];exact hm _
 |off x k=>simp only [evV];rw [q00a h];exact hm _
 |fldv x o n agg=>simp only [evV];rw [q00a h];exact hm _
 |ld x n agg=>simp only [evV];rw [q00a h];exact hm _
 |ext x i=>simp only [evV];rw [q00a h];exact hm _
 |ldl k x n agg=>simp only [evV];rw [q00a h,q0wd];exact hm _
 |mkz s z x=>simp only [evV];rw [q00a h];exact hm _
 |stl k x y n=>simp only [evV];rw [q00a fun t ht=>h t (Zi _ ht),q00a fun t ht=>h t (Zk _ ht)];exact q0we ..
 |nck x=>simp only [evV];rw [q00a h];exact hm _
 |eqn k ng x=>simp only [evV];rw [q00a h];exact hm _
 |mks s z x=>simp only [evV];rw [q00a h];exact q0wg ..
 |bx x n l=>
  cases l
  ·simp only [evV];rw [q00a h];split<;>rfl
  ·rfl
 |bin op x y=>simp only [evV];rw [q00a fun t ht=>h t (Zi _ ht),q00a fun t ht=>h t (Zk _ ht)];exact hm _
 |eqb op x y=>simp only [evV];rw [q00a fun t ht=>h t (Zi _ ht),q00a fun t ht=>h t (Zk _ ht)];exact hm _
 |eqs op x y=>simp only [evV];rw [q00a fun t ht=>h t (Zi _ ht),q00a fun t ht=>h t (Zk _ ht)];exact hm _
 |slca x lo s n=>simp only [evV];rw [q00a fun t ht=>h t (Zi _ ht),q0al fun t ht=>h t (Zk _ ht)];exact hm _
 |clr x s z=>simp only [evV];rw [q00a h];exact q0wf ..
 |eqa op sh x y=>simp only [evV];rw [q00a fun t ht=>h t (Zi _ ht),q00a fun t ht=>h t (Zk _ ht)];exact hm _
 |mnmx op x y=>simp only [evV];rw [q00a fun t ht=>h t (Zi _ ht),q00a fun t ht=>h t (Zk _ ht)];exact hm _
 |ixa x y s n=>simp only [evV];rw [q00a fun t ht=>h t (Zi _ ht),q00a fun t ht=>h t (Zk _ ht)];exact hm _
 |ixs x y s=>simp only [evV];rw [q00a fun t ht=>h t (Zi _ ht),q00a fun t ht=>h t (Zk _ ht)];exact hm _
 |ixc x y=>simp only [evV];rw [q00a fun t ht=>h t (Zi _ ht),q00a fun t ht=>h t (Zk _ ht)];exact hm _
 |ixv x y s n agg=>simp only [evV];rw [q00a fun t ht=>h t (Zi _ ht),q00a fun t ht=>h t (Zk _ ht)];exact hm _
 |st x y n=>simp only [evV];rw [q00a fun t ht=>h t (Zi _ ht),q00a fun t ht=>h t (Zk _ ht)];exact q0op ..
 |app x y n=>simp only [evV];rw [q00a fun t ht=>h t (Zi _ ht),q00a fun t ht=>h t (Zk _ ht)];exact q0kn ..
 |pick c x y=>
  simp only [evV]
  rw [q00a fun t ht=>h t (Zi _ (Zi _ ht)),q00a fun t ht=>h t (Zi _ (Zk _ ht)),q00a fun t ht=>h t (Zk _ ht)]
  exact hm _
 |bld z ps=>
  simp only [evV]
  have:(ps.map fun (o,n,x)=>(o,n,St.arg {S with env:=e} x))=ps.map fun (o,n,x)=>(o,n,S.arg x):=by
   apply List.map_congr_left
   rintro ⟨o,n,x⟩ hx
   show (o,n,_)=(o,n,_)
   rw [q00a fun t ht=>h t (ZQ.2 ⟨_,hx,ht⟩)]
  rw [this];exact hm _
 |bsr s l z ps=>
  simp only [evV]
  have:(ps.map fun (i,x)=>(i,St.arg {S with env:=e} x))=ps.map fun (i,x)=>(i,S.arg x):=by
   apply List.map_congr_left
   rintro ⟨i,x⟩ hx
   show (i,_)=(i,_)
   rw [q00a fun t ht=>h t (ZQ.2 ⟨_,hx,ht⟩)]
  rw [this];exact q0wh ..
 |bsl s l z ps=>
  simp only [evV]
  have:(ps.map fun (i,x)=>(i,St.arg {S with env:=e} x))=ps.map fun (i,x)=>(i,S.arg x):=by
   apply List.map_congr_left
   rintro ⟨i,x⟩ hx
   show (i,_)=(i,_)
   rw [q00a fun t ht=>h t (ZQ.2 ⟨_,hx,ht⟩)]
  rw [this];exact hm _
 |slc x lo hi s=>
  simp only [evV]
  rw [q00a fun t ht=>h t (Zi _ (Zi _ ht)),q0al fun t ht=>h t (Zi _ (Zk _ ht)),q0al fun t ht=>h t (Zk _ ht)]
  exact hm _
 |call f as p=>simp only [evV];rw [q050 normA h];exact q0am ..
 |callv x as p=>simp only [evV];rw [q00a fun t ht=>h t (Zi _ ht),q050 normA fun t ht=>h t (Zk _ ht)];exact q0am ..
 |mkf f as bs=>simp only [evV];rw [q050 normA fun t ht=>h t (Zi _ ht),q050 normA fun t ht=>h t (Zk _ ht)];exact hm _
 |mp m as=>simp only [evV];rw [q050 normA h,q033,q033];exact q0am ..
 |callz f as=>simp only [evV];rw [q050 normA h];exact hm _
 |mkh j s z x=>simp only [evV];rw [q00a h];exact q0wi ..
 |ldh x n agg=>simp only [evV];rw [q00a h];unfold ldhV;rw [q0cw];exact hm _
 |apo x y s n c=>
  simp only [evV]
  rw [q00a fun t ht=>h t (Zi _ (Zi _ ht)),q00a fun t ht=>h t (Zi _ (Zk _ ht)),q00a fun t ht=>h t (Zk _ ht)]
  split
  ·exact q0kn ..
  ·rfl
theorem q0sn {i:Ins} {v:V} {T:St} (h:evV cl i S=some (v,T)):T.env=S.env:=by
 have:=q0oq (cl:=cl) (S:=S) (e:=S.env) (i:=i) (fun _ _=>rfl)
 have e1: {S with env:=S.env}=S:=rfl
 rw [e1,h] at this
 simp only [ZH,Option.some.injEq,Prod.mk.injEq,true_and] at this
 rw [this]
theorem q0so {i:Ins} (hc:i.cls<=1) {v:V} {T:St} (h:evV cl i S=some (v,T)):T=S:=by
 have hm: ∀ {r:Option V},r.map (·,S)=some (v,T)->T=S:=fun {r} hr=>by
  cases r with
  |none=>cases hr
  |some x=>cases hr;rfl
 have hp: ∀ {cl:ClT} {f:V} {vs:List V},evV.callV cl S true f vs=some (v,T)->T=S:=fun {cl f vs} hr=>by
  unfold evV.callV at hr
  split at hr
  ·generalize cl f vs S.hp=r at hr
   match r,hr with
   |some (v,none),hr=>
    simp only at hr
    split at hr
    ·cases hr;rfl
    ·cases hr
   |some (v,some (H,ds)),hr=>simp at hr
   |none,hr=>cases hr
  ·cases hr
 cases i<;>simp only [evV] at h<;>first
  |exact hm h
  |(simp [Ins.cls] at hc;done)
  |(cases h;rfl)
  |skip
 ·rename_i f as p
  cases p
  ·simp [Ins.cls] at hc
  ·exact hp h
 ·rename_i f as p
  cases p
  ·simp [Ins.cls] at hc
  ·exact hp h
 ·rename_i m as
  rw [q033] at h
  cases hm:m.pure with
  |false=>simp [Ins.cls,hm] at hc
  |true=>rw [hm] at h;exact hp h
theorem q0wj {i:Ins} (hc:i.cls=0) {T:St} (he:T.env=S.env):evV cl i T=(evV cl i S).map fun p=>(p.1,T):=by
 have ha:T.arg=S.arg:=by funext x;cases x with
  |t n=>simp only [St.arg,he]
  |c v=>rfl
 have hm: ∀(r:Option V),r.map (·,T)=(r.map (·,S)).map fun p:V×St=>(p.1,T):=fun r=>by cases r<;>rfl
 cases i<;>simp only [evV,ha]<;>first
  |exact hm _
  |rfl
  |(simp [Ins.cls] at hc;done)
  |(rename_i m as;exact absurd hc (by simp only [Ins.cls];split<;>decide))
  |(rename_i p;cases p<;>simp [Ins.cls] at hc)
def Arg.okL:Arg->Bool
 | .t _=>true
 | .c v=>v.notL
def Ins.okL:Ins->Bool
 | .mov x| .off x _| .nck x| .bxp x _| .ld x .. | .ldl _ x .. =>x.okL
 | .ixa x _ _ _=>x.okL
 | .st x _ _| .stl _ x _ _=>x.okL
 | .pick _ a b=>a.okL&&b.okL
 |_=>true
def NoL (S:St) (t:Nat) (i:Ins):Prop:= ∀n∈i.reads,∀o,getE S.env n≠ .lptr t o
theorem NoL.arg {t:Nat} {x:Arg} (h: ∀n∈argT x,∀o,getE S.env n≠ .lptr t o) (hx:x.okL=true): ∀o,S.arg x≠ .lptr t o:=by
 intro o
 cases x with
 |t n=>exact h n (by simp [argT]) o
 |c v=>rintro e;have e':v= .lptr t o:=e;rw [e'] at hx;cases hx
theorem q04j (loc:List (Nat×List V)) (s s':Nat) (cs:List V):getL (setL loc s cs) s'=if s'=s then some cs else getL loc s':=by
 by_cases h:s'=s
 ·subst h;rw [q05r];simp
 ·rw [q070 _ h,if_neg h]
theorem q0an: ∀ {l:List (Nat×List V)} {s t:Nat} {a b:List V},s≠t->(getL l s).isSome=true->(getL l t).isSome=true->setL (setL l s a) t b=setL (setL l t b) s a
 |[],_,_,_,_,_,h,_=>by simp at h
 |(k,u)::r,s,t,a,b,hne,h1,h2=>by
  by_cases hs:k=s
  ·subst hs
   have hkt:(k==t)=false:=by simpa using hne
   simp [q046,hkt]
  ·have hs':(k==s)=false:=by simpa using hs
   by_cases ht:k=t
   ·subst ht;simp [q046,hs']
   ·have ht':(k==t)=false:=by simpa using ht
    simp only [q0aa,hs',ht',Zh,if_false] at h1 h2
    simp only [q046,hs',ht',Zh,if_false]
    rw [q0an hne h1 h2]
def St.withL (S:St) (t:Nat) (cs:List V):St:= {S with loc:=setL S.loc t cs}
theorem q0ko {t:Nat} {cs:List V} {x:V} {n:Nat} (hx: ∀o,x≠ .lptr t o):q011 (S.withL t cs) x n=q011 S x n:=by
 cases x with
 |lptr s o=>
  have:s≠t:=fun e=>hx o (by rw [e])
  simp only [q011,St.withL,q04j,if_neg this]
 |_=>rfl
theorem q0dn {t:Nat} {cs:List V} {x:V} {vs:List V} (hx: ∀o,x≠ .lptr t o) (ht:(getL S.loc t).isSome=true):q00l (S.withL t cs) x vs=(q00l S x vs).map fun T=>T.withL t cs:=by
 cases x with
 |lptr s o=>
  have hst:s≠t:=fun e=>hx o (by rw [e])
  simp only [q00l,St.withL,q04j,if_neg hst]
  cases hg:getL S.loc s with
  |none=>rfl
  |some ds=>
   simp only [Ze]
   split
   ·rfl
   ·cases q001 ds o vs with
    |none=>rfl
    |some ds'=>
     simp only [ZH]
     rw [q0an (Ne.symm hst) ht (by rw [hg];rfl)]
 |ptr id o=>
  simp only [q00l,St.withL]
  cases boxAt S.hp id with
  |none=>rfl
  |some ds=>simp only [Ze];cases q001 ds o vs<;>rfl
 |rptr id tot m j=>
  simp only [q00l,St.withL]
  cases rowAt S.hp id with
  |none=>rfl
  |some p=>
   obtain ⟨s,es⟩:=p
   simp only [Ze]
   split
   ·cases es[m]? with
    |none=>rfl
    |some el=>simp only [Ze];cases q001 el _ vs<;>rfl
   ·rfl
 |_=>rfl
theorem q0ao {t:Nat} {cs:List V} {x v:V} {m:Nat} (hx: ∀o,x≠ .lptr t o) (ht:(getL S.loc t).isSome=true):stI (S.withL t cs) x v m=(stI S x v m).map fun p=>(p.1,p.2.withL t cs):=by
 unfold stI
 split
 ·rw [q0dn hx ht];cases q00l S x v.cells<;>rfl
 ·rfl
theorem q0ek {t k:Nat} {cs:List V} {x:V} {n:Nat} {agg:Bool} (hx:k≠t\/ ∀o,x≠ .lptr t o):ldlV (S.withL t cs) k n agg x=ldlV S k n agg x:=by
 unfold ldlV
 split
 ·rename_i s o
  split
  ·rename_i hs
   rw [q0ko]
   rcases hx with hx|hx
   ·intro o' e;cases e;exact hx hs.symm
   ·exact hx
  ·rfl
 ·rfl
theorem q0qe {t k:Nat} {cs:List V} {x v:V} {m:Nat} (hx: ∀o,x≠ .lptr t o) (ht:(getL S.loc t).isSome=true):stlI (S.withL t cs) k v m x=(stlI S k v m x).map fun p=>(p.1,p.2.withL t cs):=by
 unfold stlI
 split
 ·split
  ·exact q0ao hx ht
  ·rfl
 ·rfl
theorem q095 {t:Nat} {cs:List V} (x y:V) (s:Nat):appV (S.withL t cs) x y s=(appV S x y s).map fun p=>(p.1,p.2.withL t cs):=by
 unfold appV
 have hh:(S.withL t cs).hp=S.hp:=rfl
 rw [hh]
 cases elems S.hp y with
 |none=>rfl
 |some ys=>
  simp only [Ze]
  split
  ·split
   ·split
    ·split<;>rfl
    ·rfl
   ·cases rowAt S.hp _ with
    |none=>rfl
    |some p=>
     obtain ⟨s',es⟩:=p
     simp only [Ze]
     split<;>rfl
   ·rfl
  ·rfl
theorem q0sp {x y:V} {s:Nat} {v:V} {T:St} (h:appV S x y s=some (v,T)):T.loc=S.loc:=by
 unfold appV at h
 cases he:elems S.hp y with
 |none=>rw [he] at h;cases h
 |some ys=>
  rw [he] at h
  simp only [Ze] at h
  split at h
  ·split at h
   ·split at h
    ·split at h<;>cases h<;>rfl
    ·cases h
   ·rename_i id _ _ _ _
    cases hro:rowAt S.hp id with
    |none=>rw [hro] at h;cases h
    |some p=>
     obtain ⟨s',es⟩:=p
     rw [hro] at h
     simp only [Ze] at h
     split at h<;>cases h;rfl
   ·cases h
  ·cases h
theorem q0ap {j s:Nat} {zero:List V} {x v:V} {T:St} (h:mkhI S j s zero x=some (v,T)):T.loc=S.loc:=by
 obtain ⟨k,n,-,-,-,-,rfl⟩:=q069 h
 rfl
theorem q0do {c:Bool} {x y:V} {s:Nat} {v:V} {T:St} (h:(if c=true then appV S x y s else none)=some (v,T)):T.loc=S.loc:=by
 split at h
 ·exact q0sp h
 ·cases h
theorem q0sq {H:Heap}: ∀ {d:Nat} {v x:V},solV H d v=some x->x.notL=true:=by
 have mp: ∀ {α:Type} {r:Option α} {f:α->V} {x:V},(∀a,(f a).notL=true)->r.map f=some x->x.notL=true:=by
  intro α r f x hf hr
  cases r with
  |none=>cases hr
  |some a=>cases hr;exact hf a
 intro d v x h
 cases d<;>cases v<;>simp only [solV] at h
 case zero.p|succ.p|zero.nils|succ.nils=>cases h;rfl
 case zero.row|succ.row=>exact mp (fun _=>rfl) h
 case zero.eptr|succ.eptr=>split at h<;>cases h;rfl
 case succ.agg=>exact mp (fun _=>rfl) h
 case succ.ptr id off=>
  cases hb:boxAt H id with
  |none=>rw [hb] at h;cases h
  |some cs=>rw [hb] at h;exact mp (fun _=>rfl) h
 all_goals cases h
theorem q0At {f:FuncId} {vs:List V} {x:V} (h:zC cl f vs=some x):x.notL=true:=by
 have zv: ∀ {H:Heap} {v:V},zV H v=some x->x.notL=true:=by
  intro H v hz
  unfold zV at hz
  split at hz
  ·rename_i vs
   cases hx:allO (solV H sd) vs with
   |none=>rw [hx] at hz;cases hz
   |some xs=>rw [hx] at hz;cases hz;rfl
  ·exact q0sq hz
 unfold zC at h
 split at h
 ·unfold zR at h
  split at h
  ·exact zv h
  ·exact zv h
  ·cases h
 ·cases h
theorem q0el {t:Nat} {cs:List V} (n:Nat) (agg:Bool) (x:V):ldhV (S.withL t cs) n agg x=ldhV S n agg x:=by
 unfold ldhV
 cases x<;>rfl
theorem q0em {t:Nat} {cs:List V} (j s:Nat) (zero:List V) (x:V):mkhI (S.withL t cs) j s zero x=(mkhI S j s zero x).map fun p=>(p.1,p.2.withL t cs):=by
 unfold mkhI
 split
 ·have e:(S.withL t cs).hp=S.hp:=rfl
  have e2:(S.withL t cs).base=S.base:=rfl
  rw [e,e2]
  split
  ·unfold mkhR
   split
   ·split<;>rfl
   ·rfl
  ·rfl
 ·rfl
theorem q0hm {t:Nat} {cs:List V} (x y n:V) (s c:Nat):(if apoB (S.withL t cs).base x y n c=true then appV (S.withL t cs) x y s else none)=(if apoB S.base x y n c=true then appV S x y s else none).map fun p=>(p.1,p.2.withL t cs):=by
 have e2:(S.withL t cs).base=S.base:=rfl
 rw [e2]
 split
 ·exact q095 ..
 ·rfl
theorem q0en {t:Nat} {cs:List V} (s:Nat) (es:Option (List (List V))):rowI (S.withL t cs) s es=(rowI S s es).map fun p=>(p.1,p.2.withL t cs):=by
 unfold rowI
 split
 ·split<;>rfl
 ·rfl
theorem q0sr {s:Nat} {es:Option (List (List V))} {v:V} {T:St} (h:rowI S s es=some (v,T)):v.notL=true:=by
 obtain ⟨l,-,-,rfl,-⟩:=q04z h;rfl
theorem q064 {t:Nat} {cs:List V} (p:Bool) (f:V) (vs:List V):evV.callV cl (S.withL t cs) p f vs=(evV.callV cl S p f vs).map fun p=>(p.1,p.2.withL t cs):=by
 unfold evV.callV
 have hh:(S.withL t cs).hp=S.hp:=rfl
 rw [hh]
 split
 ·generalize cl f vs S.hp=r
  match r with
  |none=>rfl
  |some (v,none)=>simp only;split<;>rfl
  |some (v,some (H,ds))=>simp only;split<;>rfl
 ·rfl
theorem q0ss {t:Nat} {cs:List V} {i:Ins} (hn:NoL S t i) (hk:i.okL=true) (ht:(getL S.loc t).isSome=true):evV cl i (S.withL t cs)=(evV cl i S).map fun p=>(p.1,p.2.withL t cs):=by
 have ha:(S.withL t cs).arg=S.arg:=by funext x;cases x<;>rfl
 have hh:(S.withL t cs).hp=S.hp:=rfl
 have hm: ∀(r:Option V),r.map (·,S.withL t cs)=(r.map (·,S)).map fun p:V×St=>(p.1,p.2.withL t cs):=fun r=>by cases r<;>rfl
 have hc: ∀(p:Bool) (f:V) (vs:List V),evV.callV cl (S.withL t cs) p f vs=(evV.callV cl S p f vs).map fun p=>(p.1,p.2.withL t cs):=fun p f vs=>by
  unfold evV.callV
  rw [hh]
  split
  ·generalize cl f vs S.hp=r
   match r with
   |none=>rfl
   |some (v,none)=>simp only;split<;>rfl
   |some (v,some (H,ds))=>simp only;split<;>rfl
  ·rfl
 cases i with
 |ld x n agg=>
  simp only [evV,ha]
  rw [q0ko (NoL.arg (S:=S) hn hk)]
  exact hm _
 |st x v n=>
  simp only [evV,ha]
  exact q0ao (NoL.arg (S:=S) (fun n hn'=>hn n (Zi _ hn')) hk) ht
 |ldl k x n agg=>
  simp only [evV,ha]
  rw [q0ek (.inr (NoL.arg (S:=S) hn hk))]
  exact hm _
 |stl k x v n=>
  simp only [evV,ha]
  exact q0qe (NoL.arg (S:=S) (fun n hn'=>hn n (Zi _ hn')) hk) ht
 |app x y s=>simp only [evV,ha];exact q095 ..
 |clr x s z=>
  simp only [evV,ha]
  unfold clrI
  split
  ·split
   ·rw [q0dn (fun o=>by simp) ht];cases q00l S _ (List.replicate _ z).flatten<;>rfl
   ·rfl
  ·rfl
  ·rfl
 |bsr s l z ps=>simp only [evV,ha];exact q0en ..
 |mks s z n=>
  simp only [evV,ha]
  unfold mksI
  split
  ·split<;>rfl
  ·rfl
 |call f as p=>simp only [evV,ha];exact hc ..
 |callv x as p=>simp only [evV,ha];exact hc ..
 |mp m as=>simp only [evV,ha,q033];exact q064 ..
 |nrow s=>rfl
 |al z l=>cases l<;>rfl
 |bx x n l=>
  cases l
  ·simp only [evV,ha];split<;>rfl
  ·rfl
 |alp z=>rfl
 |bxp x n=>rfl
 |mov x=>simp only [evV,ha];rfl
 |mkh j s z n=>simp only [evV,ha];exact q0em ..
 |ldh x n agg=>simp only [evV,ha,q0el];exact hm _
 |apo x y s n c=>simp only [evV,ha];exact q0hm ..
 |_=>simp only [evV,ha,hh];exact hm _
theorem optL {r:Option V} {v:V} {T:St} (hr:r.map (·,S)=some (v,T)):r=some v:=by
 cases r with
 |none=>cases hr
 |some x=>cases hr;rfl
theorem q05h {a:Bool} {ds:List V} {v:V} (hr:aggOr a ds=some v):v.notL=true:=by
 unfold aggOr at hr
 split at hr
 ·cases hr;rfl
 ·split at hr
  ·rename_i hl;cases hr;exact hl
  ·cases hr
 ·cases hr
theorem q096 {p:Bool} {f:V} {vs:List V} {v:V} {T:St} (hr:evV.callV cl S p f vs=some (v,T)):v.notL=true:=by
 unfold evV.callV at hr
 split at hr
 ·generalize cl f vs S.hp=r at hr
  match r,hr with
  |some (v,none),hr=>
   simp only at hr
   split at hr
   ·rename_i hl;cases hr;exact hl
   ·cases hr
  |some (v,some (H,ds)),hr=>
   simp only at hr
   split at hr
   ·cases hr
   ·rename_i hl;cases hr;simpa using (not_or.1 hl).2
 ·cases hr
theorem bindL {α:Type} {r:Option α} {f:α->Option V} {v:V} (hf: ∀a,f a=some v->v.notL=true) (hr:r.bind f=some v):v.notL=true:=by
 cases r with
 |none=>cases hr
 |some a=>exact hf a hr
theorem q0st {H:Heap} {x i:V} {s:Nat} {v:V} (hr:ixsI H x i s=some v):v.notL=true:=by
 unfold ixsI at hr
 split at hr
 ·unfold ixsV at hr
  split at hr
  ·split at hr
   ·exact bindL (fun a ha=>by split at ha<;>cases ha;rfl) hr
   ·exact bindL (fun a ha=>by split at ha<;>cases ha;rfl) hr
   ·split at hr<;>cases hr;rfl
   ·exact bindL (fun a ha=>by simp only at ha;split at ha<;>cases ha;rfl) hr
   ·cases hr
  ·cases hr
 ·cases hr
theorem q07k {H:Heap} {s:Nat} {x:V} {lo hi:Option Int} {v:V} (hr:slcV H s x lo hi=some v):v.notL=true:=by
 unfold slcV at hr
 split at hr
 ·cases hr
 ·split at hr
  ·split at hr
   ·split at hr<;>cases hr;rfl
   ·split at hr<;>cases hr;rfl
   ·cases hr;rfl
   ·split at hr
    ·split at hr<;>cases hr;rfl
    ·cases hr
   ·cases hr
  ·cases hr
theorem q0hn {x y:V} {s:Nat} {v:V} {T:St} (hr:appV S x y s=some (v,T)):v.notL=true:=by
 unfold appV at hr
 cases he:elems S.hp y with
 |none=>rw [he] at hr;cases hr
 |some ys=>
  rw [he] at hr
  simp only [Ze] at hr
  split at hr
  ·split at hr
   ·split at hr
    ·split at hr<;>cases hr<;>rfl
    ·cases hr
   ·rename_i id _ _ _ _
    cases hro:rowAt S.hp id with
    |none=>rw [hro] at hr;cases hr
    |some p=>
     obtain ⟨s',es⟩:=p
     rw [hro] at hr
     simp only [Ze] at hr
     split at hr<;>cases hr;rfl
   ·cases hr
  ·cases hr
theorem q0wk {t:Nat} {i:Ins} (hn:NoL S t i) (hk:i.okL=true) {v:V} {T:St} (h:evV cl i S=some (v,T)): ∀o,v≠ .lptr t o:=by
 have fin:v.notL=true-> ∀o,v≠ .lptr t o:=fun hl o e=>by rw [e] at hl;cases hl
 have sh: ∀ {x:V} {k:Nat},q007 x k=some v->(∀o,x≠ .lptr t o)-> ∀o,v≠ .lptr t o:=fun {x k} hr hx o e=>by
  subst e
  cases x<;>simp only [q007] at hr<;>cases hr
  exact hx _ rfl
 cases i with
 |mov x=>simp only [evV] at h;cases h;exact NoL.arg (S:=S) hn hk
 |off x k=>exact sh (optL h) (NoL.arg (S:=S) hn hk)
 |nck x=>
  have h:=optL h
  unfold nckV at h
  split at h
  ·cases h;exact NoL.arg (S:=S) hn hk
  ·cases h
 |ixa x y s n=>
  have h:=optL h
  unfold ixaV at h
  split at h
  ·split at h
   ·exact sh h (NoL.arg (S:=S) (fun n hn'=>hn n (Zi _ hn')) hk)
   ·cases h
  ·cases h
 |pick c x y=>
  have h:=optL h
  simp only [Ins.okL,Zb] at hk
  unfold pickV at h
  split at h
  ·cases h
   split
   ·exact NoL.arg (S:=S) (fun n hn'=>hn n (Zi _ (Zk _ hn'))) hk.1
   ·exact NoL.arg (S:=S) (fun n hn'=>hn n (Zk _ hn')) hk.2
  ·cases h
 |ld x n a=>exact fin (bindL (fun _ ha=>q05h ha) (optL h))
 |ldl k x n a=>
  have h:=optL h
  unfold ldlV at h
  split at h
  ·split at h
   ·exact fin (bindL (fun _ ha=>q05h ha) h)
   ·cases h
  ·cases h
 |mkz s z x=>
  have h:=optL h
  unfold mkzV at h
  split at h
  ·split at h<;>cases h;exact fin rfl
  ·cases h
 |stl k x v' n=>
  simp only [evV] at h
  unfold stlI at h
  split at h
  ·split at h
   ·rename_i s o _ _
    unfold stI at h
    split at h
    ·cases hs:q00l S (.lptr s o) (S.arg v').cells with
     |none=>rw [hs] at h;cases h
     |some T'=>rw [hs] at h;cases h;exact fin rfl
    ·cases h
   ·cases h
  ·cases h
 |fldv x k n a=>
  have h:=optL h
  unfold fldvV at h
  split at h
  ·exact fin (bindL (fun _ ha=>q05h ha) h)
  ·cases h
 |ixc x y=>
  have h:=optL h
  unfold ixcV at h
  split at h
  ·split at h
   ·split at h<;>cases h;exact fin rfl
   ·cases h
  ·cases h
 |ixv x y s n a=>
  have h:=optL h
  unfold ixvV at h
  split at h
  ·split at h
   ·exact fin (bindL (fun _ ha=>q05h ha) h)
   ·cases h
  ·cases h
 |ext x k=>
  have h:=optL h
  unfold extV at h
  split at h
  ·refine fin (bindL (fun a ha=> ?_) h)
   split at ha
   ·rename_i hl;cases ha;exact hl
   ·cases ha
  ·cases h
 |call f as p=>exact fin (q096 h)
 |callv x as p=>exact fin (q096 h)
 |mp m as=>simp only [evV,q033] at h;exact fin (q096 h)
 |callz f as=>exact fin (q0At (optL h))
 |ldh x n agg=>
  have h:=optL h
  unfold ldhV at h
  split at h
  ·exact fin (bindL (fun _ ha=>q05h ha) h)
  ·cases h
 |mkh j s z n=>
  obtain ⟨k,n,-,-,-,e,-⟩:=q069 (show mkhI S j s z (S.arg n)=some (v,T) from h)
  exact fin (by rw [e];rfl)
 |apo x y s n c=>
  simp only [evV] at h
  split at h
  ·exact fin (q0hn h)
  ·cases h
 |bin op x y=>
  have h:=optL h
  unfold binV at h
  split at h
  ·split at h
   ·refine fin ?_;revert h;generalize intOp _ _ _ _=z;intro h;cases z<;>cases h;rfl
   ·cases h
  ·cases h
 |eqb ng x y=>have h:=optL h;unfold eqbV at h;split at h<;>cases h;exact fin rfl
 |eqn k ng x=>have h:=optL h;unfold eqnV at h;split at h<;>cases h;exact fin rfl
 |eqa ng sh x y=>
  have h:=optL h
  unfold eqaV at h
  split at h
  ·split at h<;>cases h;exact fin rfl
  ·cases h
 |eqs ng x y=>have h:=optL h;unfold eqsV at h;split at h<;>cases h;exact fin rfl
 |un op x=>have h:=optL h;unfold unV at h;split at h<;>cases h<;>exact fin rfl
 |conv k x=>have h:=optL h;unfold convV at h;split at h<;>cases h;exact fin rfl
 |len x=>
  have h:=optL h
  unfold lenR at h
  split at h
  ·cases h;exact fin rfl
  ·cases h
 |mnmx m x y=>
  have h:=optL h
  unfold mnmxV at h
  split at h
  ·split at h
   ·cases h;exact fin rfl
   ·cases h
  ·cases h
 |ixs x y s=>exact fin (q0st (optL h))
 |st x v' n=>
  simp only [evV] at h
  unfold stI at h
  split at h
  ·cases hs:q00l S (S.arg x) (S.arg v').cells with
   |none=>rw [hs] at h;cases h
   |some T'=>rw [hs] at h;cases h;exact fin rfl
  ·cases h
 |al z l=>cases l<;>simp only [evV] at h<;>cases h;exact fin rfl
 |bx x n l=>
  cases l
  ·simp only [evV] at h;split at h<;>cases h;exact fin rfl
  ·simp only [evV] at h;cases h
 |alp z=>simp only [evV] at h;cases h
 |bxp x n=>simp only [evV] at h;cases h
 |nrow s=>simp only [evV] at h;cases h;exact fin rfl
 |bld z ps=>
  have h:=optL h
  unfold aggR at h
  split at h<;>cases h;exact fin rfl
 |bsl s l z ps=>
  have h:=optL h
  unfold slR at h
  split at h
  ·cases h;exact fin rfl
  ·split at h<;>cases h<;>exact fin rfl
  ·cases h
 |app x y s=>exact fin (q0hn h)
 |slc x lo hi s=>
  have h:=optL h
  unfold slcI at h
  split at h
  ·exact fin (q07k h)
  ·exact fin (q07k h)
  ·exact fin (q07k h)
  ·exact fin (q07k h)
  ·cases h
 |slca x lo s n=>
  have h:=optL h
  unfold slcaV at h
  split at h
  ·split at h
   ·split at h<;>cases h<;>exact fin rfl
   ·cases h
  ·split at h
   ·split at h
    ·split at h<;>cases h<;>exact fin rfl
    ·cases h
   ·cases h
  ·cases h
 |clr x s z=>
  simp only [evV] at h
  unfold clrI at h
  split at h
  ·split at h
   ·cases hs:q00l S (.ptr ‹Nat› ‹Nat›) (List.replicate ‹Nat› z).flatten with
    |none=>refine fin ?_;revert h;generalize q00l S _ _=q;intro h;cases q<;>cases h;rfl
    |some T'=>refine fin ?_;revert h;generalize q00l S _ _=q;intro h;cases q<;>cases h;rfl
   ·cases h
  ·cases h;exact fin rfl
  ·cases h
 |bsr s l z ps=>exact fin (q0sr h)
 |mks s z n=>
  simp only [evV] at h
  unfold mksI at h
  split at h
  ·split at h<;>cases h;exact fin rfl
  ·cases h
 |mkf f as bs=>
  have h:=optL h
  unfold mkfV at h
  split at h<;>cases h;exact fin rfl
theorem q076 {x:V} {vs:List V} {T:St} (h:q00l S x vs=some T) (s:Nat):(getL T.loc s).isSome=(getL S.loc s).isSome:=by
 unfold q00l at h
 split at h
 ·rename_i t o
  cases hg:getL S.loc t with
  |none=>rw [hg] at h;cases h
  |some ds=>
   rw [hg] at h
   simp only [Ze] at h
   split at h
   ·cases h
   ·cases hss:q001 ds o vs with
    |none=>rw [hss] at h;cases h
    |some ds'=>
     rw [hss] at h;cases h
     rw [q04j]
     split
     ·rename_i e;subst e;rw [hg];rfl
     ·rfl
 ·rename_i id o
  cases hg:boxAt S.hp id with
  |none=>rw [hg] at h;cases h
  |some ds=>
   rw [hg] at h
   simp only [Ze] at h
   cases hss:q001 ds o vs with
   |none=>rw [hss] at h;cases h
   |some ds'=>rw [hss] at h;cases h;rfl
 ·rename_i id tot m j
  cases hg:rowAt S.hp id with
  |none=>rw [hg] at h;cases h
  |some p=>
   obtain ⟨z,es⟩:=p
   rw [hg] at h
   simp only [Ze] at h
   split at h
   ·cases he:es[m]? with
    |none=>rw [he] at h;cases h
    |some el=>
     rw [he] at h
     simp only [Ze] at h
     cases hss:q001 el j vs with
     |none=>rw [hss] at h;cases h
     |some el'=>rw [hss] at h;cases h;rfl
   ·cases h
 ·cases h
theorem q0wl {i:Ins} {v:V} {T:St} (h:evV cl i S=some (v,T)) (s:Nat):(getL T.loc s).isSome=(getL S.loc s).isSome:=by
 have hm: ∀ {r:Option V},r.map (·,S)=some (v,T)->T=S:=fun {r} hr=>by
  cases r with
  |none=>cases hr
  |some x=>cases hr;rfl
 have hp: ∀ {cl:ClT} {p:Bool} {f:V} {vs:List V},evV.callV cl S p f vs=some (v,T)->T.loc=S.loc:=fun {cl p f vs} hr=>by
  unfold evV.callV at hr
  split at hr
  ·generalize cl f vs S.hp=r at hr
   match r,hr with
   |some (v,none),hr=>
    simp only at hr
    split at hr
    ·cases hr;rfl
    ·cases hr
   |some (v,some (H,ds)),hr=>
    simp only at hr
    split at hr
    ·cases hr
    ·cases hr;rfl
  ·cases hr
 have loc:T.loc=S.loc->(getL T.loc s).isSome=(getL S.loc s).isSome:=fun e=>by rw [e]
 cases i with
 |st x v' n=>
  simp only [evV] at h
  unfold stI at h
  split at h
  ·cases hs:q00l S (S.arg x) (S.arg v').cells with
   |none=>rw [hs] at h;cases h
   |some T'=>rw [hs] at h;cases h;exact q076 hs s
  ·cases h
 |stl k x v' n=>
  simp only [evV] at h
  unfold stlI at h
  split at h
  ·split at h
   ·rename_i s' o _ _
    unfold stI at h
    split at h
    ·cases hs:q00l S (.lptr s' o) (S.arg v').cells with
     |none=>rw [hs] at h;cases h
     |some T'=>rw [hs] at h;cases h;exact q076 hs s
    ·cases h
   ·cases h
  ·cases h
 |call f as p=>exact loc (hp h)
 |callv x as p=>exact loc (hp h)
 |mp m as=>simp only [evV,q033] at h;exact loc (hp h)
 |app x y n=>
  simp only [evV] at h
  refine loc ?_
  unfold appV at h
  cases he:elems S.hp (S.arg y) with
  |none=>rw [he] at h;cases h
  |some ys=>
   rw [he] at h
   simp only [Ze] at h
   split at h
   ·split at h
    ·split at h
     ·split at h<;>cases h<;>rfl
     ·cases h
    ·rename_i id _ _ _ _
     cases hro:rowAt S.hp id with
     |none=>rw [hro] at h;cases h
     |some p=>
      obtain ⟨s',es⟩:=p
      rw [hro] at h
      simp only [Ze] at h
      split at h<;>cases h;rfl
    ·cases h
   ·cases h
 |clr x n z=>
  simp only [evV] at h
  unfold clrI at h
  split at h
  ·split at h
   ·rename_i id off len s' hx hs'
    cases hs:q00l S (.ptr id off) (List.replicate len z).flatten with
    |none=>rw [hs] at h;cases h
    |some T'=>rw [hs] at h;cases h;exact q076 hs s
   ·cases h
  ·cases h;rfl
  ·cases h
 |bsr s l z ps=>obtain ⟨l,-,-,-,rfl⟩:=q04z h;rfl
 |mks n z x=>
  simp only [evV] at h
  unfold mksI at h
  split at h
  ·split at h<;>cases h;rfl
  ·cases h
 |al z l=>cases l<;>simp only [evV] at h<;>cases h;rfl
 |bx x n l=>
  cases l
  ·simp only [evV] at h;split at h<;>cases h;rfl
  ·simp only [evV] at h;cases h
 |nrow n=>simp only [evV] at h;cases h;rfl
 |mov x=>simp only [evV] at h;cases h;rfl
 |alp z=>simp only [evV] at h;cases h
 |bxp x n=>simp only [evV] at h;cases h
 |mkh j s z n=>simp only [evV] at h;exact loc (q0ap h)
 |apo x y s n c=>simp only [evV] at h;exact loc (q0do h)
 |_=>simp only [evV] at h;rw [hm h]
def Ins.noK (k:Nat):Ins->Bool
 | .ld .. | .st .. | .alp _| .bxp .. | .al _ true| .bx _ _ true=>false
 | .ldl k' .. | .stl k' .. =>k' !=k
 |_=>true
theorem q0su {t:Nat} {cs:List V} {i:Ins} (hk:i.noK t=true) (ht:(getL S.loc t).isSome=true):evV cl i (S.withL t cs)=(evV cl i S).map fun p=>(p.1,p.2.withL t cs):=by
 have ha:(S.withL t cs).arg=S.arg:=by funext x;cases x<;>rfl
 have hm: ∀(r:Option V),r.map (·,S.withL t cs)=(r.map (·,S)).map fun p:V×St=>(p.1,p.2.withL t cs):=fun r=>by cases r<;>rfl
 cases i with
 |ldl k x n agg=>
  have hne:k≠t:=by simpa [Ins.noK] using hk
  simp only [evV,ha]
  rw [q0ek (.inl hne)]
  exact hm _
 |stl k x v n=>
  have hne:k≠t:=by simpa [Ins.noK] using hk
  simp only [evV,ha]
  unfold stlI
  split
  ·rename_i s o _
   split
   ·rename_i hs
    exact q0ao (fun o' e=>by cases e;exact hne hs.symm) ht
   ·rfl
  ·rfl
 |ld=>simp [Ins.noK] at hk
 |st=>simp [Ins.noK] at hk
 |alp=>simp [Ins.noK] at hk
 |bxp=>simp [Ins.noK] at hk
 |mov x=>simp only [evV,ha];rfl
 |off x k=>simp only [evV,ha];exact hm _
 |nck x=>simp only [evV,ha];exact hm _
 |ixa x y s n=>simp only [evV,ha];exact hm _
 |pick c x y=>simp only [evV,ha];exact hm _
 |app x y s=>simp only [evV,ha];exact q095 ..
 |clr x s z=>
  simp only [evV,ha]
  unfold clrI
  split
  ·split
   ·rw [q0dn (fun o=>by simp) ht];cases q00l S _ (List.replicate _ z).flatten<;>rfl
   ·rfl
  ·rfl
  ·rfl
 |bsr s l z ps=>simp only [evV,ha];exact q0en ..
 |mks s z n=>
  simp only [evV,ha]
  unfold mksI
  split
  ·split<;>rfl
  ·rfl
 |call f as p=>simp only [evV,ha];exact q064 ..
 |callv x as p=>simp only [evV,ha];exact q064 ..
 |mp m as=>simp only [evV,ha,q033];exact q064 ..
 |nrow s=>rfl
 |al z l=>cases l<;>rfl
 |bx x n l=>
  cases l
  ·simp only [evV,ha];split<;>rfl
  ·rfl
 |mkh j s z n=>simp only [evV,ha];exact q0em ..
 |ldh x n agg=>simp only [evV,ha,q0el];exact hm _
 |apo x y s n c=>simp only [evV,ha];exact q0hm ..
 |_=>simp only [evV,ha];exact hm _
theorem q09z {t:Nat} {x:V} {vs:List V} {T:St} (hx: ∀o,x≠ .lptr t o) (h:q00l S x vs=some T):getL T.loc t=getL S.loc t:=by
 unfold q00l at h
 split at h
 ·rename_i s o
  cases hg:getL S.loc s with
  |none=>rw [hg] at h;cases h
  |some ds=>
   rw [hg] at h
   simp only [Ze] at h
   split at h
   ·cases h
   ·cases hss:q001 ds o vs with
    |none=>rw [hss] at h;cases h
    |some ds'=>
     rw [hss] at h;cases h
     rw [q04j,if_neg fun e=>hx o (by rw [e])]
 ·rename_i id o
  cases hg:boxAt S.hp id with
  |none=>rw [hg] at h;cases h
  |some ds=>
   rw [hg] at h
   simp only [Ze] at h
   cases hss:q001 ds o vs with
   |none=>rw [hss] at h;cases h
   |some ds'=>rw [hss] at h;cases h;rfl
 ·rename_i id tot m j
  cases hg:rowAt S.hp id with
  |none=>rw [hg] at h;cases h
  |some p=>
   obtain ⟨z,es⟩:=p
   rw [hg] at h
   simp only [Ze] at h
   split at h
   ·cases he:es[m]? with
    |none=>rw [he] at h;cases h
    |some el=>
     rw [he] at h
     simp only [Ze] at h
     cases hss:q001 el j vs with
     |none=>rw [hss] at h;cases h
     |some el'=>rw [hss] at h;cases h;rfl
   ·cases h
 ·cases h
theorem q0sv {t:Nat} {i:Ins} (hk:i.noK t=true) {v:V} {T:St} (h:evV cl i S=some (v,T)):getL T.loc t=getL S.loc t:=by
 have hm: ∀ {r:Option V},r.map (·,S)=some (v,T)->getL T.loc t=getL S.loc t:=fun {r} hr=>by
  cases r with
  |none=>cases hr
  |some x=>cases hr;rfl
 have hp: ∀ {cl:ClT} {p:Bool} {f:V} {vs:List V},evV.callV cl S p f vs=some (v,T)->getL T.loc t=getL S.loc t:=fun {cl p f vs} hr=>by
  unfold evV.callV at hr
  split at hr
  ·generalize cl f vs S.hp=r at hr
   match r,hr with
   |some (v,none),hr=>
    simp only at hr
    split at hr
    ·cases hr;rfl
    ·cases hr
   |some (v,some (H,ds)),hr=>
    simp only at hr
    split at hr
    ·cases hr
    ·cases hr;rfl
  ·cases hr
 cases i with
 |ld=>simp [Ins.noK] at hk
 |st=>simp [Ins.noK] at hk
 |alp=>simp [Ins.noK] at hk
 |bxp=>simp [Ins.noK] at hk
 |stl k x v' n=>
  have hne:k≠t:=by simpa [Ins.noK] using hk
  simp only [evV] at h
  unfold stlI at h
  split at h
  ·rename_i s' o _
   split at h
   ·rename_i hs'
    unfold stI at h
    split at h
    ·cases hs:q00l S (.lptr s' o) (S.arg v').cells with
     |none=>rw [hs] at h;cases h
     |some T'=>rw [hs] at h;cases h;exact q09z (fun o' e=>by cases e;exact hne hs'.symm) hs
    ·cases h
   ·cases h
  ·cases h
 |call f as p=>exact hp h
 |callv x as p=>exact hp h
 |mp m as=>simp only [evV,q033] at h;exact hp h
 |app x y n=>
  simp only [evV] at h
  unfold appV at h
  cases he:elems S.hp (S.arg y) with
  |none=>rw [he] at h;cases h
  |some ys=>
   rw [he] at h
   simp only [Ze] at h
   split at h
   ·split at h
    ·split at h
     ·split at h<;>cases h<;>rfl
     ·cases h
    ·rename_i id _ _ _ _
     cases hro:rowAt S.hp id with
     |none=>rw [hro] at h;cases h
     |some p=>
      obtain ⟨s',es⟩:=p
      rw [hro] at h
      simp only [Ze] at h
      split at h<;>cases h;rfl
    ·cases h
   ·cases h
 |clr x n z=>
  simp only [evV] at h
  unfold clrI at h
  split at h
  ·split at h
   ·rename_i id off len s' hx hs'
    cases hs:q00l S (.ptr id off) (List.replicate len z).flatten with
    |none=>rw [hs] at h;cases h
    |some T'=>rw [hs] at h;cases h;exact q09z (fun o=>by simp) hs
   ·cases h
  ·cases h;rfl
  ·cases h
 |bsr s l z ps=>obtain ⟨l,-,-,-,rfl⟩:=q04z h;rfl
 |mks n z x=>
  simp only [evV] at h
  unfold mksI at h
  split at h
  ·split at h<;>cases h;rfl
  ·cases h
 |al z l=>cases l<;>simp only [evV] at h<;>cases h;rfl
 |bx x n l=>
  cases l
  ·simp only [evV] at h;split at h<;>cases h;rfl
  ·simp only [evV] at h;cases h
 |nrow n=>simp only [evV] at h;cases h;rfl
 |mov x=>simp only [evV] at h;cases h;rfl
 |mkh j s z n=>simp only [evV] at h;rw [q0ap h]
 |apo x y s n c=>simp only [evV] at h;rw [q0do h]
 |_=>simp only [evV] at h;exact hm h
def Ins.heapOnly:Ins->Bool
 | .call .. | .callv .. | .mp .. | .app .. | .mks .. | .bsr .. | .nrow _| .al _ false| .bx _ _ false| .mkh .. | .apo .. =>true
 |_=>false
def Ins.isLdl:Ins->Bool
 | .ldl .. =>true
 |_=>false
theorem q0kp {i:Ins} (hk:i.heapOnly=true) {v:V} {T:St} (h:evV cl i S=some (v,T)):T.loc=S.loc:=by
 have hp: ∀ {cl:ClT} {p:Bool} {f:V} {vs:List V},evV.callV cl S p f vs=some (v,T)->T.loc=S.loc:=fun {cl p f vs} hr=>by
  unfold evV.callV at hr
  split at hr
  ·generalize cl f vs S.hp=r at hr
   match r,hr with
   |some (v,none),hr=>
    simp only at hr
    split at hr
    ·cases hr;rfl
    ·cases hr
   |some (v,some (H,ds)),hr=>
    simp only at hr
    split at hr
    ·cases hr
    ·cases hr;rfl
  ·cases hr
 cases i with
 |call f as p=>exact hp h
 |callv x as p=>exact hp h
 |mp m as=>simp only [evV,q033] at h;exact hp h
 |app x y n=>
  simp only [evV] at h
  unfold appV at h
  cases he:elems S.hp (S.arg y) with
  |none=>rw [he] at h;cases h
  |some ys=>
   rw [he] at h
   simp only [Ze] at h
   split at h
   ·split at h
    ·split at h
     ·split at h<;>cases h<;>rfl
     ·cases h
    ·rename_i id _ _ _ _
     cases hro:rowAt S.hp id with
     |none=>rw [hro] at h;cases h
     |some p=>
      obtain ⟨s',es⟩:=p
      rw [hro] at h
      simp only [Ze] at h
      split at h<;>cases h;rfl
    ·cases h
   ·cases h
 |bsr s l z ps=>obtain ⟨l,-,-,-,rfl⟩:=q04z h;rfl
 |mks n z x=>
  simp only [evV] at h
  unfold mksI at h
  split at h
  ·split at h<;>cases h;rfl
  ·cases h
 |al z l=>
  cases l
  ·simp only [evV] at h;cases h;rfl
  ·simp [Ins.heapOnly] at hk
 |bx x n l=>
  cases l
  ·simp only [evV] at h;split at h<;>cases h;rfl
  ·simp [Ins.heapOnly] at hk
 |nrow n=>simp only [evV] at h;cases h;rfl
 |mkh j s z n=>simp only [evV] at h;exact q0ap h
 |apo x y s n c=>simp only [evV] at h;exact q0do h
 |_=>simp [Ins.heapOnly] at hk
theorem q0Au {i:Ins} (hk:i.isLdl=true) {T:St} (hr: ∀t∈i.reads,getE S.env t=getE T.env t) (hl:T.loc=S.loc):evV cl i T=(evV cl i S).map fun p=>(p.1,T):=by
 cases i with
 |ldl k x n agg=>
  have ha:T.arg x=S.arg x:=by
   cases x with
   |t m=>exact (hr m (by simp [Ins.reads,argT])).symm
   |c v=>rfl
  simp only [evV,ha]
  have hv:ldlV T k n agg (S.arg x)=ldlV S k n agg (S.arg x):=by
   unfold ldlV
   split
   ·simp only [q011,hl]
   ·rfl
  rw [hv]
  cases ldlV S k n agg (S.arg x)<;>rfl
 |_=>simp [Ins.isLdl] at hk
end
def GIns.guardT (g:GIns):List Nat:=match g.guard with|some (t,_)=>[t]|none=>[]
def GIns.reads (g:GIns):List Nat:=g.guardT++g.ins.reads
def evVG (cl:ClT) (g:GIns) (S:St):Option (V×St):=
 match wanted S g.guard with
 |some true=>evV cl g.ins S
 |some false=>some (.tup [],S)
 |none=>none
theorem q01e {cl:ClT} {g:GIns} (S:St) (h:g.ins.heapy g.dst=true):evG cl g S=(evVG cl g S).map fun p=>p.2.put g.dst p.1:=by
 unfold evG evVG
 cases wanted S g.guard with
 |none=>rfl
 |some b=>
  cases b
  ·rfl
  ·exact q0sm cl _ _ S h
section
variable {cl:ClT} {S:St}
theorem q0qf {e:List (Nat×V)} {g:GIns} (h: ∀t∈g.guardT,getE S.env t=getE e t):wanted {S with env:=e} g.guard=wanted S g.guard:=by
 unfold GIns.guardT at h
 cases hg:g.guard with
 |none=>rfl
 |some p=>
  obtain ⟨t,b⟩:=p
  rw [hg] at h
  have:=h t (by simp)
  simp only [wanted,this]
theorem q03p {e:List (Nat×V)} {g:GIns} (h: ∀t∈g.reads,getE S.env t=getE e t):evVG cl g {S with env:=e}=(evVG cl g S).map fun p=>(p.1,{p.2 with env:=e}):=by
 unfold evVG
 rw [q0qf fun t ht=>h t (Zi _ ht)]
 split
 ·exact q0oq fun t ht=>h t (Zk _ ht)
 ·rfl
 ·rfl
theorem q034 {g:GIns} {v:V} {T:St} (h:evVG cl g S=some (v,T)):T.env=S.env:=by
 unfold evVG at h
 split at h
 ·exact q0sn h
 ·cases h;rfl
 ·cases h
theorem q05i {g:GIns} (hc:g.ins.cls<=1) {v:V} {T:St} (h:evVG cl g S=some (v,T)):T=S:=by
 unfold evVG at h
 split at h
 ·exact q0so hc h
 ·cases h;rfl
 ·cases h
theorem q0ho {g:GIns} (hc:g.ins.cls=0) {T:St} (he:T.env=S.env):evVG cl g T=(evVG cl g S).map fun p=>(p.1,T):=by
 have hw:wanted T g.guard=wanted S g.guard:=by
  have:T= {T with env:=S.env}:=by rw [<-he]
  cases g.guard with
  |none=>rfl
  |some p=>simp only [wanted,he]
 unfold evVG
 rw [hw]
 split
 ·exact q0wj hc he
 ·rfl
 ·rfl
end
def GIns.wkey (g:GIns):Option Nat:=
 if g.guard.isNone=true then match g.ins with
  | .alp _| .bxp _ _=>g.dst
  | .stl k _ _ _=>some k
  |_=>none
 else none
def GIns.fresh (g:GIns):Bool:=match g.ins with| .stl .. =>false|_=>true
def GIns.okD (g:GIns):Bool:=g.ins.heapy g.dst||g.wkey.isSome
def Arg.same:Arg->Arg->Bool
 | .t a,.t b=>a==b
 |_,_=>false
def rows2 (g h:GIns):Bool:=g.guard.isNone&&h.guard.isNone&&(match g.ins,h.ins with
 | .mkh j ..,.mkh k .. =>j !=k
 | .apo _ _ _ n c,.apo _ _ _ n' c'=>n.same n'&&c==c'
 |_,_=>false)
def indep (g h:GIns):Bool:=
 (match g.dst with|some d=> !h.reads.contains d&&(match h.dst with|some d'=>d !=d'|none=>true)|none=>true)&&
 (match h.dst with|some d=> !g.reads.contains d|none=>true)&&
 (match g.wkey,h.wkey with
  |some k,some k'=>k !=k'
  |some k,none=>h.ins.heapy h.dst&&(if g.fresh=true then h.ins.okL else h.ins.noK k)
  |none,some k=>g.ins.heapy g.dst&&(if h.fresh=true then g.ins.okL else g.ins.noK k)
  |none,none=>g.ins.heapy g.dst&&h.ins.heapy h.dst&&((g.ins.cls==0||h.ins.cls==0||(g.ins.cls==1&&h.ins.cls==1))||(g.ins.isLdl&&h.ins.heapOnly)||(g.ins.heapOnly&&h.ins.isLdl)||rows2 g h))
structure Eqv (S T:St):Prop where
 env: ∀t,getE S.env t=getE T.env t
 stale: ∀s,q012 S.env s=q012 T.env s
 loc:S.loc=T.loc
 hp:S.hp=T.hp
 base:S.base=T.base
 dirty:S.dirty=T.dirty
theorem Eqv.refl (S:St):Eqv S S:=⟨fun _=>rfl,fun _=>rfl,rfl,rfl,rfl,rfl⟩
theorem Eqv.trans {S T U:St} (h:Eqv S T) (k:Eqv T U):Eqv S U:=⟨fun t=>(h.env t).trans (k.env t),fun t=>(h.stale t).trans (k.stale t),h.loc.trans k.loc,h.hp.trans k.hp,h.base.trans k.base,h.dirty.trans k.dirty⟩
theorem Eqv.eq {S T:St} (h:Eqv S T):T= {S with env:=T.env}:=by
 obtain ⟨-,-,h1,h2,h3,h4⟩:=h
 cases S;cases T;simp_all
theorem Eqv.put {S T:St} (h:Eqv S T) (d:Option Nat) (v:V):Eqv (S.put d v) (T.put d v):=by
 cases d with
 |none=>exact h
 |some t=>
  refine ⟨fun t'=> ?_,fun s=> ?_,h.loc,h.hp,h.base,h.dirty⟩
  ·simp only [St.put,q02c]
   split
   ·rfl
   ·exact h.env t'
  ·simp only [St.put,q01z,h.stale s]
def conW (g:GIns) (k:Nat) (S:St):Option (List V×V):=
 match g.ins with
 | .alp z=>if q012 S.env k=true/\(getL S.loc k).isSome=true/\z≠[] then some (z,.lptr k 0) else none
 | .bxp x n=>if ((S.arg x).cells.length=n/\(S.arg x).cells.all V.oneB=true)/\q012 S.env k=true/\(getL S.loc k).isSome=true/\(S.arg x).cells≠[] then some ((S.arg x).cells,.lptr k 0) else none
 | .stl k' x v n=>match S.arg x with
   | .lptr s o=>if s=k' then (if (S.arg v).cells.length=n/\(S.arg v).cells.all V.oneB=true then (getL S.loc k).bind fun cs=>if cs.isEmpty=true then none else (q001 cs o (S.arg v).cells).map fun cs'=>(cs',.tup []) else none) else none
   |_=>none
 |_=>none
theorem evG_W {cl:ClT} {g:GIns} {k:Nat} (hw:g.wkey=some k) (S:St):evG cl g S=(conW g k S).map fun p=>(S.withL k p.1).put g.dst p.2:=by
 unfold GIns.wkey at hw
 split at hw
 ·rename_i hg
  have h1:g.guard=none:=by simpa using hg
  unfold evG conW
  rw [h1]
  simp only [wanted]
  split at hw
  ·rename_i z hz
   rw [hz,hw]
   simp only [evIns,alpI,St.withL]
   split<;>rfl
  ·rename_i x n hz
   rw [hz,hw]
   simp only [evIns,bxpI,alpI,St.withL]
   by_cases c1:(S.arg x).cells.length=n/\(S.arg x).cells.all V.oneB=true
   ·rw [if_pos c1]
    by_cases c2:q012 S.env k=true/\(getL S.loc k).isSome=true/\(S.arg x).cells≠[]
    ·rw [if_pos c2,if_pos ⟨c1,c2⟩];rfl
    ·rw [if_neg c2,if_neg fun hh=>c2 hh.2];rfl
   ·rw [if_neg c1,if_neg fun hh=>c1 hh.1];rfl
  ·rename_i k' x v n hz
   cases hw
   rw [hz]
   simp only [evIns,stlI]
   generalize S.arg x=y
   cases y with
   |lptr s o=>
    simp only
    by_cases hs:s=k
    ·subst hs
     simp only [if_true,stI,q00l]
     by_cases hc:(S.arg v).cells.length=n/\(S.arg v).cells.all V.oneB=true
     ·rw [if_pos hc,if_pos hc]
      cases hg:getL S.loc s with
      |none=>rfl
      |some cs=>
       simp only [Ze]
       by_cases he:cs.isEmpty=true
       ·rw [if_pos he,if_pos he];rfl
       ·rw [if_neg he,if_neg he]
        cases q001 cs o (S.arg v).cells<;>rfl
     ·rw [if_neg hc,if_neg hc];rfl
    ·rw [if_neg hs,if_neg hs];rfl
   |_=>rfl
  ·cases hw
 ·cases hw
theorem q05j {g:GIns} {k:Nat} {S T:St} (he: ∀t∈g.reads,getE S.env t=getE T.env t) (hs:g.fresh=true->q012 S.env k=q012 T.env k) (hi:(getL S.loc k).isSome=(getL T.loc k).isSome)
  (hl:g.fresh=false->getL S.loc k=getL T.loc k):conW g k T=conW g k S:=by
 have ha: ∀x:Arg,(∀t∈argT x,t∈g.reads)->T.arg x=S.arg x:=fun x hx=>by
  cases x with
  |t m=>exact (he m (hx m (by simp [argT]))).symm
  |c v=>rfl
 have hr: ∀t∈g.ins.reads,t∈g.reads:=fun t ht=>Zk _ ht
 unfold conW
 split
 ·rename_i z hz
  have hf:g.fresh=true:=by simp [GIns.fresh,hz]
  rw [hs hf,hi]
 ·rename_i x n hz
  have hf:g.fresh=true:=by simp [GIns.fresh,hz]
  rw [hs hf,hi,ha x fun t ht=>hr t (by rw [hz];exact ht)]
 ·rename_i k' x v n hz
  have hf:g.fresh=false:=by simp [GIns.fresh,hz]
  rw [hl hf,ha x fun t ht=>hr t (by rw [hz];exact Zi _ ht),ha v fun t ht=>hr t (by rw [hz];exact Zk _ ht)]
 ·rfl
theorem q07l {g:GIns} {k:Nat} {S:St} {p:List V×V} (h:conW g k S=some p):(getL S.loc k).isSome=true/\(g.fresh=true->q012 S.env k=true)/\(p.2= .tup []\/p.2= .lptr k 0):=by
 unfold conW at h
 split at h
 ·split at h
  ·rename_i hc;cases h;exact ⟨hc.2.1,fun _=>hc.1,.inr rfl⟩
  ·cases h
 ·split at h
  ·rename_i hc;cases h;exact ⟨hc.2.2.1,fun _=>hc.2.1,.inr rfl⟩
  ·cases h
 ·rename_i k' x v n hz
  split at h
  ·split at h
   ·split at h
    ·cases hg:getL S.loc k with
     |none=>rw [hg] at h;cases h
     |some cs=>
      rw [hg] at h
      simp only [Ze] at h
      split at h
      ·cases h
      ·cases hss:q001 cs _ (S.arg v).cells with
       |none=>rw [hss] at h;cases h
       |some cs'=>rw [hss] at h;cases h;exact ⟨rfl,fun hf=>(by simp [GIns.fresh,hz] at hf),.inl rfl⟩
    ·cases h
   ·cases h
  ·cases h
 ·cases h
theorem Eqv.evG {cl:ClT} {g:GIns} (hh:g.okD=true) {S T S':St} (h:Eqv S T) (he:evG cl g S=some S'): ∃T',evG cl g T=some T'/\Eqv S' T':=by
 cases hw:g.wkey with
 |some k=>
  rw [evG_W hw] at he
  rw [evG_W hw,q05j (S:=S) (T:=T) (fun t _=>h.env t) (fun _=>h.stale k) (by rw [h.loc]) (fun _=>by rw [h.loc])]
  cases hc:conW g k S with
  |none=>rw [hc] at he;cases he
  |some p=>
   rw [hc] at he
   cases he
   refine ⟨_,rfl,Eqv.put ?_ _ _⟩
   exact ⟨h.env,h.stale,by simp only [St.withL,h.loc],h.hp,h.base,h.dirty⟩
 |none=>
  have hh:g.ins.heapy g.dst=true:=by simpa [GIns.okD,hw] using hh
  rw [q01e S hh] at he
  cases hv:evVG cl g S with
  |none=>rw [hv] at he;cases he
  |some p=>
   obtain ⟨v,U⟩:=p
   rw [hv] at he
   have he':U.put g.dst v=S':=by simpa using he
   subst he'
   have h1:=q03p (cl:=cl) (S:=S) (e:=T.env) (g:=g) (fun t _=>h.env t)
   rw [<-h.eq,hv] at h1
   have h2:=q01e (cl:=cl) T hh
   rw [h1] at h2
   have hq:Eqv U {U with env:=T.env}:=⟨fun t=>by show getE U.env t=getE T.env t;rw [q034 hv];exact h.env t,fun s=>by show q012 U.env s=q012 T.env s;rw [q034 hv];exact h.stale s,rfl,rfl,rfl,rfl⟩
   exact ⟨({U with env:=T.env}:St).put g.dst v,h2,hq.put _ _⟩
theorem q01s {S:St} {d:Option Nat} {v:V} {t:Nat} (h: ∀x,d=some x->x≠t):getE (S.put d v).env t=getE S.env t:=by
 cases d with
 |none=>rfl
 |some x=>simp only [St.put,q02c];rw [if_neg];simpa using h x rfl
theorem q0wm {cl:ClT} {g h:GIns} (n1: ∀t∈h.reads,∀x,g.dst=some x->x≠t) (n2: ∀t∈g.reads,∀x,h.dst=some x->x≠t) (n3: ∀x y,g.dst=some x->h.dst=some y->x≠y)
  (i3:g.ins.heapy g.dst=true) (i4:h.ins.heapy h.dst=true) (i5:(g.ins.cls==0||h.ins.cls==0||(g.ins.cls==1&&h.ins.cls==1))=true) {S S1 S2:St} (h1:evG cl g S=some S1) (h2:evG cl h S1=some S2):
  ∃T1 T2,evG cl h S=some T1/\evG cl g T1=some T2/\Eqv S2 T2:=by
 rw [q01e S i3] at h1
 rw [q01e S1 i4] at h2
 cases hg:evVG cl g S with
 |none=>rw [hg] at h1;cases h1
 |some p=>
  obtain ⟨vg,Sg⟩:=p
  rw [hg] at h1
  have e1:Sg.put g.dst vg=S1:=by simpa using h1
  have kg:=q034 hg
  cases hh:evVG cl h S1 with
  |none=>rw [hh] at h2;cases h2
  |some p=>
   obtain ⟨vh,Sh⟩:=p
   rw [hh] at h2
   have e2:Sh.put h.dst vh=S2:=by simpa using h2
   have kh:=q034 hh
   have hSg:Sg= {S1 with env:=Sg.env}:=by subst e1;cases g.dst<;>rfl
   have hhg:evVG cl h Sg=some (vh,{Sh with env:=Sg.env}):=by
    have:=q03p (cl:=cl) (S:=S1) (e:=Sg.env) (g:=h) (fun t ht=>by subst e1;exact q01s (n1 t ht))
    rw [<-hSg,hh] at this
    exact this
   have agree: ∀(U:St) (v:V),U.env=S.env-> ∀t∈g.reads,getE S.env t=getE (U.put h.dst v).env t:=fun U v hU t ht=>by
    rw [q01s (n2 t ht),hU]
   have ends: ∀(U:St),U= {Sh with env:=S.env}-> ∀(v:V),v=vh-> ∀(W:St),W.env=(U.put h.dst v).env->W.loc=Sh.loc->W.hp=Sh.hp->W.base=Sh.base->W.dirty=Sh.dirty->Eqv S2 (W.put g.dst vg):=by
    rintro U rfl v rfl W w1 w2 w3 w4 w5
    subst e2
    refine ⟨fun t=> ?_,fun s=> ?_,?_,?_,?_,?_⟩
    ·have hl:getE (Sh.put h.dst v).env t=match h.dst with|some y=>if y=t then v else (match g.dst with|some x=>if x=t then vg else getE S.env t|none=>getE S.env t)|none=>(match g.dst with|some x=>if x=t then vg else getE S.env t|none=>getE S.env t):=by
      have hb:getE Sh.env t=match g.dst with|some x=>if x=t then vg else getE S.env t|none=>getE S.env t:=by
       rw [kh,<-e1]
       cases hgd:g.dst with
       |none=>simp only [St.put,kg]
       |some x=>simp [St.put,kg]
      cases hhd:h.dst with
      |none=>simp only [St.put];exact hb
      |some y=>simp only [St.put,q02c,hb,beq_iff_eq]
     rw [hl]
     cases hgd:g.dst with
     |none=>
      simp only [St.put,w1]
      cases hhd:h.dst with
      |none=>simp
      |some y=>simp
     |some x=>
      simp only [St.put,q02c,w1,beq_iff_eq]
      cases hhd:h.dst with
      |none=>simp
      |some y=>
       have:=n3 x y hgd hhd
       by_cases c1:x=t
       ·subst c1;simp [Ne.symm this]
       ·simp [c1]
    ·have hb:q012 Sh.env s=(match g.dst with|some x=>q00s vg s&&q012 S.env s|none=>q012 S.env s):=by
      rw [kh,<-e1]
      cases hgd:g.dst with
      |none=>simp only [St.put,kg]
      |some x=>simp only [St.put,q01z,kg]
     cases hgd:g.dst with
     |none=>
      rw [hgd] at hb
      cases hhd:h.dst with
      |none=>simp only [St.put,w1,hb,hhd]
      |some y=>simp only [St.put,q01z,w1,hb,hhd]
     |some x=>
      rw [hgd] at hb
      cases hhd:h.dst with
      |none=>simp only [St.put,q01z,w1,hb,hhd]
      |some y=>simp only [St.put,q01z,w1,hb,hhd];cases q00s v s<;>cases q00s vg s<;>rfl
    ·cases h.dst<;>cases g.dst<;>exact w2.symm
    ·cases h.dst<;>cases g.dst<;>exact w3.symm
    ·cases h.dst<;>cases g.dst<;>exact w4.symm
    ·cases h.dst<;>cases g.dst<;>exact w5.symm
   by_cases c2:g.ins.cls<=1
   ·have hS:=q05i c2 hg
    subst hS
    refine ⟨({Sh with env:=Sg.env}:St).put h.dst vh,(({Sh with env:=Sg.env}:St).put h.dst vh).put g.dst vg,by rw [q01e _ i4,hhg];rfl,?_,?_⟩
    ·rw [q01e _ i3]
     have hx:evVG cl g ({Sh with env:=Sg.env}.put h.dst vh)=some (vg,{Sh with env:=Sg.env}.put h.dst vh):=by
      by_cases c3:h.ins.cls<=1
      ·have hU:=q05i c3 hhg
       have:=q03p (cl:=cl) (S:=Sg) (e:=({Sh with env:=Sg.env}.put h.dst vh).env) (g:=g) (agree {Sh with env:=Sg.env} vh rfl)
       rw [hg] at this
       rw [hU] at this⊢
       have hE:Sg.put h.dst vh= {Sg with env:=(Sg.put h.dst vh).env}:=by cases h.dst<;>rfl
       rw [hE]
       exact this
      ·have c4:g.ins.cls=0:=by
        simp only [Z4,beq_iff_eq,Zb] at i5
        rcases i5 with (h5|h5)|⟨h5,h6⟩
        ·exact h5
        ·omega
        ·omega
       have hz:=q0ho (cl:=cl) (S:=Sg) (T:= {Sh with env:=Sg.env}) c4 rfl
       rw [hg] at hz
       have:=q03p (cl:=cl) (S:= {Sh with env:=Sg.env}) (e:=({Sh with env:=Sg.env}.put h.dst vh).env) (g:=g) (agree {Sh with env:=Sg.env} vh rfl)
       rw [hz] at this
       have hE:({Sh with env:=Sg.env}:St).put h.dst vh= {({Sh with env:=Sg.env}:St) with env:=(({Sh with env:=Sg.env}:St).put h.dst vh).env}:=by cases h.dst<;>rfl
       rw [hE]
       exact this
     rw [hx];rfl
    ·refine ends _ rfl vh rfl _ rfl ?_ ?_ ?_ ?_<;>cases h.dst<;>rfl
   ·have c4:h.ins.cls=0:=by
     simp only [Z4,beq_iff_eq,Zb] at i5
     rcases i5 with (h5|h5)|⟨h5,h6⟩
     ·omega
     ·exact h5
     ·omega
    have hU:=q05i (by omega) hhg
    have hz:=q0ho (cl:=cl) (S:=Sg) (T:=S) c4 kg.symm
    rw [hhg] at hz
    have hz':evVG cl h S=some (vh,S):=hz
    refine ⟨S.put h.dst vh,({Sg with env:=(S.put h.dst vh).env}:St).put g.dst vg,by rw [q01e _ i4,hz'];rfl,?_,?_⟩
    ·rw [q01e _ i3]
     have:=q03p (cl:=cl) (S:=S) (e:=(S.put h.dst vh).env) (g:=g) (agree S vh rfl)
     rw [hg] at this
     have hE:S.put h.dst vh= {S with env:=(S.put h.dst vh).env}:=by cases h.dst<;>rfl
     rw [hE,this];rfl
    ·have hm:Sg.loc=Sh.loc/\Sg.hp=Sh.hp/\Sg.base=Sh.base/\Sg.dirty=Sh.dirty:=by rw [<-hU];exact ⟨rfl,rfl,rfl,rfl⟩
     exact ends {Sh with env:=S.env} rfl vh rfl _ (by cases h.dst<;>rfl) hm.1 hm.2.1 hm.2.2.1 hm.2.2.2
theorem q0eo {e:List (Nat×V)} {t:Nat} (h:q012 e t=true): ∀n o,getE e n≠ .lptr t o:=fun _ _ he=>(q07z h he) rfl
theorem q0sw {cl:ClT} {h:GIns} {S:St} {k:Nat} {fr:Bool} (hk:(if fr=true then h.ins.okL else h.ins.noK k)=true) (hs:fr=true->q012 S.env k=true) (ht:(getL S.loc k).isSome=true) (cs:List V):
  evVG cl h (S.withL k cs)=(evVG cl h S).map fun p=>(p.1,p.2.withL k cs):=by
 have hw:wanted (S.withL k cs) h.guard=wanted S h.guard:=by cases h.guard<;>rfl
 unfold evVG
 rw [hw]
 split
 ·cases fr with
  |true=>exact q0ss (fun n _=>q0eo (hs rfl) n) (by simpa using hk) ht
  |false=>exact q0su (by simpa using hk) ht
 ·rfl
 ·rfl
theorem q0or {cl:ClT} {h:GIns} {S:St} {k:Nat} {fr:Bool} (hk:(if fr=true then h.ins.okL else h.ins.noK k)=true) (hs:fr=true->q012 S.env k=true) {v:V} {T:St} (hv:evVG cl h S=some (v,T)):
  (fr=true-> ∀o,v≠ .lptr k o)/\(getL T.loc k).isSome=(getL S.loc k).isSome/\(fr=false->getL T.loc k=getL S.loc k):=by
 unfold evVG at hv
 split at hv
 ·cases fr with
  |true=>exact ⟨fun _=>q0wk (fun n _=>q0eo (hs rfl) n) (by simpa using hk) hv,q0wl hv k,fun h=>(by cases h)⟩
  |false=>
   have:=q0sv (by simpa using hk) hv
   exact ⟨fun h=>(by cases h),by rw [this],fun _=>this⟩
 ·cases hv;exact ⟨fun _ o=>by simp,rfl,fun _=>rfl⟩
 ·cases hv
theorem q0qg {v:V} {t:Nat} (h: ∀o,v≠ .lptr t o):q00s v t=true:=by
 cases v<;>simp only [q00s]
 rename_i s o
 have:s≠t:=fun e=>h o (by rw [e])
 simpa using this
theorem Eqv.puts {U:St} {x y:Nat} {v u:V} (hne:x≠y):Eqv ((U.put (some x) v).put (some y) u) ((U.put (some y) u).put (some x) v):=by
 refine ⟨fun t=> ?_,fun s=> ?_,rfl,rfl,rfl,rfl⟩
 ·simp only [St.put,q02c,beq_iff_eq]
  by_cases c1:x=t
  ·subst c1;simp [Ne.symm hne]
  ·simp [c1]
 ·simp only [St.put,q01z];cases q00s u s<;>cases q00s v s<;>rfl
theorem Eqv.putsO {U:St} {d:Option Nat} {y:Nat} {v u:V} (hne: ∀x,d=some x->x≠y):Eqv ((U.put d v).put (some y) u) ((U.put (some y) u).put d v):=by
 cases d with
 |none=>exact .refl _
 |some x=>exact .puts (hne x rfl)
theorem Eqv.symm' {S T:St} (h:Eqv S T):Eqv T S:=⟨fun t=>(h.env t).symm,fun s=>(h.stale s).symm,h.loc.symm,h.hp.symm,h.base.symm,h.dirty.symm⟩
theorem q0aq (S:St) (d:Option Nat) (v:V) (t:Nat) (cs:List V):(S.put d v).withL t cs=(S.withL t cs).put d v:=by cases d<;>rfl
theorem q031 (S:St) (d:Option Nat) (v:V):(S.put d v).loc=S.loc:=by cases d<;>rfl
theorem q0Av {cl:ClT} {g h:GIns} {k:Nat} (n1: ∀t∈h.reads,∀x,g.dst=some x->x≠t) (n2: ∀t∈g.reads,∀x,h.dst=some x->x≠t) (n3: ∀x y,g.dst=some x->h.dst=some y->x≠y)
  (i3:g.ins.heapy g.dst=true) (hw:h.wkey=some k) (hk:(if h.fresh=true then g.ins.okL else g.ins.noK k)=true) {S S1 S2:St} (h1:evG cl g S=some S1) (h2:evG cl h S1=some S2):
  ∃T1 T2,evG cl h S=some T1/\evG cl g T1=some T2/\Eqv S2 T2:=by
 rw [q01e S i3] at h1
 cases hg:evVG cl g S with
 |none=>rw [hg] at h1;cases h1
 |some p=>
  obtain ⟨vg,Sg⟩:=p
  rw [hg] at h1
  have e1:Sg.put g.dst vg=S1:=by simpa using h1
  have kg:=q034 hg
  subst e1
  rw [evG_W hw] at h2
  cases hc:conW h k (Sg.put g.dst vg) with
  |none=>rw [hc] at h2;cases h2
  |some q=>
   obtain ⟨cs,u⟩:=q
   rw [hc] at h2
   have e2:((Sg.put g.dst vg).withL k cs).put h.dst u=S2:=by simpa using h2
   obtain ⟨c1,c2,c3⟩:=q07l hc
   have hst:h.fresh=true->q012 S.env k=true:=fun hf=>by
    have:=c2 hf
    cases hgd:g.dst with
    |none=>rw [hgd] at this;simpa [St.put,kg] using this
    |some x=>rw [hgd] at this;simp only [St.put,q01z,kg,Zb] at this;exact this.2
   obtain ⟨w1,w2,w3⟩:=q0or (k:=k) hk hst hg
   have hks:(getL S.loc k).isSome=true:=by rw [q031] at c1;rw [<-w2];exact c1
   have hcS:conW h k S=some (cs,u):=by
    rw [<-hc]
    refine (q05j (fun n hn=> ?_) (fun hf=> ?_) (by rw [q031,w2]) (fun hf=>by rw [q031,w3 hf])).symm
    ·rw [q01s (n1 n hn),kg]
    ·rw [hst hf,c2 hf]
   have hx:=q0sw (cl:=cl) hk hst hks cs
   rw [hg] at hx
   have hz:=q03p (cl:=cl) (S:=S.withL k cs) (e:=((S.withL k cs).put h.dst u).env) (g:=g) (fun n hn=>(q01s (S:=S.withL k cs) (fun x hx'=>n2 n hn x hx')).symm)
   have e8:({S.withL k cs with env:=((S.withL k cs).put h.dst u).env}:St)=(S.withL k cs).put h.dst u:=by cases h.dst<;>rfl
   rw [e8,hx] at hz
   have e9:({Sg.withL k cs with env:=((S.withL k cs).put h.dst u).env}:St)=(Sg.withL k cs).put h.dst u:=by
    cases h.dst<;>simp only [St.put,St.withL,kg]
   refine ⟨_,((Sg.withL k cs).put h.dst u).put g.dst vg,by rw [evG_W hw,hcS];rfl,?_,?_⟩
   ·rw [q01e _ i3,hz,<-e9];rfl
   ·subst e2
    rw [q0aq]
    cases hhd:h.dst with
    |none=>exact .refl _
    |some y=>exact .putsO fun x hx=>n3 x y hx hhd
theorem q0Aw {cl:ClT} {g h:GIns} {k:Nat} (n1: ∀t∈h.reads,∀x,g.dst=some x->x≠t) (n2: ∀t∈g.reads,∀x,h.dst=some x->x≠t) (n3: ∀x y,g.dst=some x->h.dst=some y->x≠y)
  (i4:h.ins.heapy h.dst=true) (hw:g.wkey=some k) (hk:(if g.fresh=true then h.ins.okL else h.ins.noK k)=true) {S S1 S2:St} (h1:evG cl g S=some S1) (h2:evG cl h S1=some S2):
  ∃T1 T2,evG cl h S=some T1/\evG cl g T1=some T2/\Eqv S2 T2:=by
 rw [evG_W hw] at h1
 cases hc:conW g k S with
 |none=>rw [hc] at h1;cases h1
 |some q=>
  obtain ⟨cs,u⟩:=q
  rw [hc] at h1
  have e1:(S.withL k cs).put g.dst u=S1:=by simpa using h1
  subst e1
  obtain ⟨c1,c2,c3⟩:=q07l hc
  rw [q01e _ i4] at h2
  have hy:=q0sw (cl:=cl) hk c2 c1 cs
  have hz:=q03p (cl:=cl) (S:=S.withL k cs) (e:=((S.withL k cs).put g.dst u).env) (g:=h) (fun n hn=>(q01s (S:=S.withL k cs) (fun x hx'=>n1 n hn x hx')).symm)
  have e8:({S.withL k cs with env:=((S.withL k cs).put g.dst u).env}:St)=(S.withL k cs).put g.dst u:=by cases g.dst<;>rfl
  rw [e8,hy] at hz
  cases hh:evVG cl h S with
  |none=>rw [hh] at hz;rw [hz] at h2;cases h2
  |some p=>
   obtain ⟨vh,Sh⟩:=p
   rw [hh] at hz
   rw [hz] at h2
   have kh:=q034 hh
   obtain ⟨w1,w2,w3⟩:=q0or (k:=k) hk c2 hh
   have e2:(({Sh.withL k cs with env:=((S.withL k cs).put g.dst u).env}:St)).put h.dst vh=S2:=by simpa using h2
   have hcS:conW g k (Sh.put h.dst vh)=some (cs,u):=by
    rw [<-hc]
    refine q05j (fun n hn=> ?_) (fun hf=> ?_) (by rw [q031,w2]) (fun hf=>by rw [q031,w3 hf])
    ·rw [q01s (n2 n hn),kh]
    ·have:=q0qg (w1 hf)
     cases h.dst with
     |none=>simp [St.put,kh]
     |some x=>simp only [St.put,q01z,kh,this,ZV]
   have e9:({Sh.withL k cs with env:=((S.withL k cs).put g.dst u).env}:St)=(Sh.withL k cs).put g.dst u:=by
    cases g.dst<;>simp only [St.put,St.withL,kh]
   refine ⟨_,((Sh.put h.dst vh).withL k cs).put g.dst u,by rw [q01e _ i4,hh];rfl,by rw [evG_W hw,hcS];rfl,?_⟩
   subst e2
   rw [e9,q0aq]
   cases hgd:g.dst with
   |none=>exact .refl _
   |some x=>exact (Eqv.putsO fun y hy=>(n3 x y hgd hy).symm).symm'
theorem q0Ax {cl:ClT} {g h:GIns} {k k':Nat} (n1: ∀t∈h.reads,∀x,g.dst=some x->x≠t) (n2: ∀t∈g.reads,∀x,h.dst=some x->x≠t) (n3: ∀x y,g.dst=some x->h.dst=some y->x≠y)
  (hG:g.wkey=some k) (hH:h.wkey=some k') (hne:k≠k') {S S1 S2:St} (h1:evG cl g S=some S1) (h2:evG cl h S1=some S2):
  ∃T1 T2,evG cl h S=some T1/\evG cl g T1=some T2/\Eqv S2 T2:=by
 rw [evG_W hG] at h1
 cases hc:conW g k S with
 |none=>rw [hc] at h1;cases h1
 |some q=>
  obtain ⟨cs,u⟩:=q
  rw [hc] at h1
  have e1:(S.withL k cs).put g.dst u=S1:=by simpa using h1
  subst e1
  obtain ⟨c1,c2,c3⟩:=q07l hc
  rw [evG_W hH] at h2
  cases hd:conW h k' ((S.withL k cs).put g.dst u) with
  |none=>rw [hd] at h2;cases h2
  |some q'=>
   obtain ⟨ds,u'⟩:=q'
   rw [hd] at h2
   have e2:(((S.withL k cs).put g.dst u).withL k' ds).put h.dst u'=S2:=by simpa using h2
   obtain ⟨b1,b2,b3⟩:=q07l hd
   have hlu:q00s u k'=true:=by
    rcases c3 with rfl|rfl
    ·rfl
    ·simpa [q00s] using hne
   have hlu':q00s u' k=true:=by
    rcases b3 with rfl|rfl
    ·rfl
    ·simpa [q00s] using Ne.symm hne
   have pst: ∀(U:St) (d:Option Nat) (v:V) (s:Nat),q00s v s=true->q012 (U.put d v).env s=q012 U.env s:=fun U d v s hv=>by
    cases d with
    |none=>rfl
    |some x=>simp only [St.put,q01z,hv,ZV]
   have hlS:getL (S.withL k cs).loc k'=getL S.loc k':=by simp only [St.withL,q04j,if_neg (Ne.symm hne)]
   have hlS':getL (S.withL k' ds).loc k=getL S.loc k:=by simp only [St.withL,q04j,if_neg hne]
   have hdS:conW h k' S=some (ds,u'):=by
    rw [<-hd]
    refine (q05j (fun n hn=> ?_) (fun _=> ?_) (by rw [q031,hlS]) (fun _=>by rw [q031,hlS])).symm
    ·rw [q01s (n1 n hn)];rfl
    ·rw [pst _ _ _ _ hlu];rfl
   have hcS:conW g k ((S.withL k' ds).put h.dst u')=some (cs,u):=by
    rw [<-hc]
    refine q05j (fun n hn=> ?_) (fun _=> ?_) (by rw [q031,hlS']) (fun _=>by rw [q031,hlS'])
    ·rw [q01s (n2 n hn)];rfl
    ·rw [pst _ _ _ _ hlu'];rfl
   have hks:(getL S.loc k').isSome=true:=by rw [q031,hlS] at b1;exact b1
   refine ⟨_,(((S.withL k' ds).put h.dst u').withL k cs).put g.dst u,by rw [evG_W hH,hdS];rfl,by rw [evG_W hG,hcS];rfl,?_⟩
   subst e2
   simp only [q0aq]
   have e9:(S.withL k cs).withL k' ds=(S.withL k' ds).withL k cs:=by
    simp only [St.withL];rw [q0an hne c1 hks]
   rw [e9]
   cases hgd:g.dst with
   |none=>exact .refl _
   |some x=>exact (Eqv.putsO fun y hy=>(n3 x y hgd hy).symm).symm'
theorem Eqv.puts2 {U:St} {d d':Option Nat} {v u:V} (hne: ∀x y,d=some x->d'=some y->x≠y):Eqv ((U.put d v).put d' u) ((U.put d' u).put d v):=by
 cases d' with
 |none=>exact .refl _
 |some y=>exact .putsO fun x hx=>hne x y hx rfl
theorem q0kq {cl:ClT} {g:GIns} {S T:St} (hk:g.ins.isLdl=true) (hr: ∀t∈g.reads,getE S.env t=getE T.env t) (hl:T.loc=S.loc):evVG cl g T=(evVG cl g S).map fun p=>(p.1,T):=by
 have hw:wanted T g.guard=wanted S g.guard:=by
  cases hg:g.guard with
  |none=>rfl
  |some p=>
   obtain ⟨t,b⟩:=p
   simp only [wanted]
   rw [hr t (Zi _ (by simp [GIns.guardT,hg]))]
 unfold evVG
 rw [hw]
 split
 ·exact q0Au hk (fun t ht=>hr t (Zk _ ht)) hl
 ·rfl
 ·rfl
theorem q0a0 {cl:ClT} {g:GIns} {S T:St} {v:V} (hk:g.ins.heapOnly=true) (h:evVG cl g S=some (v,T)):T.loc=S.loc:=by
 unfold evVG at h
 split at h
 ·exact q0kp hk h
 ·cases h;rfl
 ·cases h
theorem q0hp {i:Ins} (h:i.isLdl=true):i.cls<=1:=by cases i<;>simp_all [Ins.isLdl,Ins.cls]
theorem q0Ay {cl:ClT} {g h:GIns} (n1: ∀t∈h.reads,∀x,g.dst=some x->x≠t) (n2: ∀t∈g.reads,∀x,h.dst=some x->x≠t) (n3: ∀x y,g.dst=some x->h.dst=some y->x≠y)
  (i3:g.ins.heapy g.dst=true) (i4:h.ins.heapy h.dst=true) (hg:g.ins.isLdl=true) (hh:h.ins.heapOnly=true) {S S1 S2:St} (h1:evG cl g S=some S1) (h2:evG cl h S1=some S2):
  ∃T1 T2,evG cl h S=some T1/\evG cl g T1=some T2/\Eqv S2 T2:=by
 rw [q01e S i3] at h1
 cases e1:evVG cl g S with
 |none=>rw [e1] at h1;cases h1
 |some p=>
  obtain ⟨vg,Sg⟩:=p
  have hS:=q05i (q0hp hg) e1
  subst hS
  rw [e1] at h1
  have f1:Sg.put g.dst vg=S1:=by simpa using h1
  subst f1
  rw [q01e _ i4] at h2
  have hz:=q03p (cl:=cl) (S:=Sg) (e:=(Sg.put g.dst vg).env) (g:=h) (fun n hn=>(q01s (S:=Sg) (fun x hx'=>n1 n hn x hx')).symm)
  have e8:({Sg with env:=(Sg.put g.dst vg).env}:St)=Sg.put g.dst vg:=by cases g.dst<;>rfl
  rw [e8] at hz
  cases e2:evVG cl h Sg with
  |none=>rw [e2] at hz;rw [hz] at h2;cases h2
  |some p=>
   obtain ⟨vh,Sh⟩:=p
   rw [e2] at hz
   rw [hz] at h2
   have kh:=q034 e2
   have f2:({Sh with env:=(Sg.put g.dst vg).env}:St).put h.dst vh=S2:=by simpa using h2
   have hl:=q0a0 hh e2
   have hx:=q0kq (cl:=cl) (S:=Sg) (T:=Sh.put h.dst vh) hg (fun n hn=>by rw [q01s (fun x hx'=>n2 n hn x hx'),kh]) (by rw [q031];exact hl)
   rw [e1] at hx
   refine ⟨Sh.put h.dst vh,(Sh.put h.dst vh).put g.dst vg,by rw [q01e _ i4,e2];rfl,by rw [q01e _ i3,hx];rfl,?_⟩
   have e9:({Sh with env:=(Sg.put g.dst vg).env}:St)=Sh.put g.dst vg:=by
    cases g.dst<;>simp only [St.put,kh]
    rw [<-kh]
   rw [<-f2,e9]
   exact .puts2 n3
theorem q0Az {cl:ClT} {g h:GIns} (n1: ∀t∈h.reads,∀x,g.dst=some x->x≠t) (n2: ∀t∈g.reads,∀x,h.dst=some x->x≠t) (n3: ∀x y,g.dst=some x->h.dst=some y->x≠y)
  (i3:g.ins.heapy g.dst=true) (i4:h.ins.heapy h.dst=true) (hg:g.ins.heapOnly=true) (hh:h.ins.isLdl=true) {S S1 S2:St} (h1:evG cl g S=some S1) (h2:evG cl h S1=some S2):
  ∃T1 T2,evG cl h S=some T1/\evG cl g T1=some T2/\Eqv S2 T2:=by
 rw [q01e S i3] at h1
 cases e1:evVG cl g S with
 |none=>rw [e1] at h1;cases h1
 |some p=>
  obtain ⟨vg,Sg⟩:=p
  have kg:=q034 e1
  have hl:=q0a0 hg e1
  rw [e1] at h1
  have f1:Sg.put g.dst vg=S1:=by simpa using h1
  subst f1
  rw [q01e _ i4] at h2
  have hx:=q0kq (cl:=cl) (S:=S) (T:=Sg.put g.dst vg) hh (fun n hn=>by rw [q01s (fun x hx'=>n1 n hn x hx'),kg]) (by rw [q031];exact hl)
  cases e2:evVG cl h S with
  |none=>rw [e2] at hx;rw [hx] at h2;cases h2
  |some p=>
   obtain ⟨vh,Sh⟩:=p
   have hS:=q05i (q0hp hh) e2
   subst hS
   rw [e2] at hx
   rw [hx] at h2
   have f2:(Sg.put g.dst vg).put h.dst vh=S2:=by simpa using h2
   have hz:=q03p (cl:=cl) (S:=Sh) (e:=(Sh.put h.dst vh).env) (g:=g) (fun n hn=>(q01s (S:=Sh) (fun x hx'=>n2 n hn x hx')).symm)
   have e8:({Sh with env:=(Sh.put h.dst vh).env}:St)=Sh.put h.dst vh:=by cases h.dst<;>rfl
   rw [e8,e1] at hz
   have e9:({Sg with env:=(Sh.put h.dst vh).env}:St)=Sg.put h.dst vh:=by
    cases h.dst<;>simp only [St.put,kg]
    rw [<-kg]
   refine ⟨Sh.put h.dst vh,(Sg.put h.dst vh).put g.dst vg,by rw [q01e _ i4,e2];rfl,by rw [q01e _ i3,hz,<-e9];rfl,?_⟩
   rw [<-f2]
   exact .puts2 n3
theorem q0os {S:St} {j s:Nat} {zero:List V} {k:IntKind} {n:Int} (hc:0<n/\n.toNat<most/\0<j/\j<=S.hp.length/\S.base<=S.hp.length-j) (hr:rowAt S.hp (S.hp.length-j)=some (s,[])):
  mkhI S j s zero (.p (.int k n))=some (.row (S.hp.length-j) n.toNat 0 n.toNat,{S with hp:=S.hp.set (S.hp.length-j) (.row s (List.replicate n.toNat zero))}):=by
 unfold mkhI
 simp only [if_pos hc,hr,mkhR,if_true]
def apoE (S:St) (x y n:V) (s c:Nat):Option (V×St):=if apoB S.base x y n c=true then appV S x y s else none
theorem q0kr {S:St} {x y n:V} {s c:Nat} {v:V} {T:St} (h:apoE S x y n s c=some (v,T)): ∃id tot e r k m es,x= .row id tot 0 tot/\y= .p (.sl (e::r))/\n= .p (.int k m)/\S.base<=id/\(tot:Int)=m+c/\
  rowAt S.hp id=some (s,es)/\es.length=tot/\(upV (e::r)).all (okEl s)=true/\tot+(upV (e::r)).length<most/\v= .row id (tot+(upV (e::r)).length) 0 (tot+(upV (e::r)).length)/\T= {S with hp:=S.hp.set id (.row s (es++upV (e::r)))}:=by
 unfold apoE at h
 split at h
 ·rename_i hb
  unfold apoB at hb
  split at hb
  ·rename_i id tot off len e r k m
   simp only [Zb,decide_eq_true_eq] at hb
   obtain ⟨⟨⟨b1,b2⟩,rfl⟩,rfl⟩:=hb
   unfold appV at h
   simp only [elems,Ze,nil1] at h
   split at h
   ·rename_i hall
    cases hro:rowAt S.hp id with
    |none=>rw [hro] at h;cases h
    |some p=>
     obtain ⟨s',es⟩:=p
     rw [hro] at h
     simp only [Ze] at h
     split at h
     ·rename_i hc
      obtain ⟨c1,rfl,-,-,c5⟩:=hc
      cases h
      have hd:addD S.base id S.dirty=S.dirty:=by unfold addD;rw [if_neg (by omega)]
      exact ⟨id,len,e,r,k,m,es,rfl,rfl,rfl,b1,b2,hro,c1,hall,c5,rfl,by rw [hd]⟩
     ·cases h
   ·cases h
  ·cases hb
 ·cases h
theorem q0sx {S:St} {id tot s c:Nat} {e:List PV} {r:List (List PV)} {k:IntKind} {m:Int} {es:List (List V)} (h1:S.base<=id) (h2:(tot:Int)=m+c) (hr:rowAt S.hp id=some (s,es)) (hl:es.length=tot) (ha:(upV (e::r)).all (okEl s)=true) (hm:tot+(upV (e::r)).length<most):
  apoE S (.row id tot 0 tot) (.p (.sl (e::r))) (.p (.int k m)) s c=some (.row id (tot+(upV (e::r)).length) 0 (tot+(upV (e::r)).length),{S with hp:=S.hp.set id (.row s (es++upV (e::r)))}):=by
 have hd:addD S.base id S.dirty=S.dirty:=by unfold addD;rw [if_neg (by omega)]
 have hb:apoB S.base (.row id tot 0 tot) (.p (.sl (e::r))) (.p (.int k m)) c=true:=by
  simp only [apoB,Zb,decide_eq_true_eq];exact ⟨⟨⟨h1,h2⟩,trivial⟩,trivial⟩
 unfold apoE appV
 rw [if_pos hb]
 simp only [elems,Ze,nil1,if_pos ha,hr]
 rw [if_pos ⟨hl,trivial,trivial,trivial,hm⟩,hd]
theorem q051 {U:St} {d:Option Nat} {v:V} {x:Arg} (h: ∀t∈argT x,∀y,d=some y->y≠t):(U.put d v).arg x=U.arg x:=by
 cases x with
 |t n=>exact q01s (h n (by simp [argT]))
 |c v=>rfl
theorem q05k (U:St) (d:Option Nat) (v:V):(U.put d v).hp=U.hp:=by cases d<;>rfl
theorem q07m (U:St) (d:Option Nat) (v:V) (H:Heap):(⟨(U.put d v).env,(U.put d v).loc,H,(U.put d v).base,(U.put d v).dirty⟩:St)=(⟨U.env,U.loc,H,U.base,U.dirty⟩:St).put d v:=by cases d<;>rfl
theorem q097 {H:Heap} {i k:Nat} {o:DObj} (h:i≠k):rowAt (H.set i o) k=rowAt H k:=by unfold rowAt;rw [Zr h]
theorem q0hq {S:St} {d d':Option Nat} (hd: ∀x y,d=some x->d'=some y->x≠y) {i k:Nat} (hne:i≠k) (o u:DObj) (v v':V):
  Eqv (((⟨S.env,S.loc,(S.hp.set i o).set k u,S.base,S.dirty⟩:St).put d v).put d' v') (((⟨S.env,S.loc,(S.hp.set k u).set i o,S.base,S.dirty⟩:St).put d' v').put d v):=by
 rw [List.set_comm _ _ (Ne.symm hne)]
 exact .puts2 hd
theorem q0sy {cl:ClT} {g h:GIns} (n1: ∀t∈h.reads,∀x,g.dst=some x->x≠t) (n2: ∀t∈g.reads,∀x,h.dst=some x->x≠t) (n3: ∀x y,g.dst=some x->h.dst=some y->x≠y)
  (hr:rows2 g h=true) {S S1 S2:St} (h1:evG cl g S=some S1) (h2:evG cl h S1=some S2): ∃T1 T2,evG cl h S=some T1/\evG cl g T1=some T2/\Eqv S2 T2:=by
 obtain ⟨dg,gg,ig⟩:=g
 obtain ⟨dh,gh,ih⟩:=h
 simp only [rows2,Zb] at hr
 obtain ⟨⟨g1,g2⟩,hr⟩:=hr
 obtain rfl:gg=none:=by simpa using g1
 obtain rfl:gh=none:=by simpa using g2
 simp only [GIns.reads,GIns.guardT,Zf] at n1 n2 n3
 simp only [evG,wanted] at h1 h2⊢
 split at hr
 ·rename_i j s z x k s' z' x'
  have hjk:j≠k:=by simpa using hr
  simp only [Ins.reads] at n1 n2
  have h1':retP dg (mkhI S j s z (S.arg x))=some S1:=h1
  have h2':retP dh (mkhI S1 k s' z' (S1.arg x'))=some S2:=h2
  obtain ⟨v1,U1,e1,rfl⟩:=q01v h1'
  obtain ⟨k1,m1,a1,c1,r1,rfl,rfl⟩:=q069 e1
  obtain ⟨v2,U2,e2,rfl⟩:=q01v h2'
  rw [q051 n1] at e2
  obtain ⟨k2,m2,a2,c2,r2,rfl,rfl⟩:=q069 e2
  rw [q07m]
  simp only [q05k,q05u,List.length_set] at c2 r2
  simp only [q05k,List.length_set]
  have a2':S.arg x'= .p (.int k2 m2):=a2
  have hne:S.hp.length-j≠S.hp.length-k:=by omega
  rw [q097 hne] at r2
  have t1:=q0os (zero:=z') (k:=k2) c2 r2
  refine ⟨_,_,show retP dh (mkhI S k s' z' (S.arg x'))=some _ by rw [a2',t1];rfl,?_,q0hq n3 hne _ _ _ _⟩
  show retP dg (mkhI _ j s z (St.arg _ x))=_
  rw [q051 n2]
  have a1':St.arg {S with hp:=S.hp.set (S.hp.length-k) (.row s' (List.replicate m2.toNat z'))} x= .p (.int k1 m1):=a1
  rw [a1',q0os (zero:=z) (k:=k1) (by simp only [q05k,q05u,List.length_set];exact c1) (by simp only [q05k,List.length_set];rw [q097 (Ne.symm hne)];exact r1)]
  rw [q07m]
  simp only [q05k,List.length_set]
  rfl
 ·rename_i x y s n c x' y' s' n' c'
  simp only [Zb,beq_iff_eq] at hr
  obtain ⟨hn,rfl⟩:=hr
  obtain rfl:n=n':=by
   unfold Arg.same at hn
   split at hn
   ·have:=beq_iff_eq.1 hn;rw [this]
   ·cases hn
  simp only [Ins.reads,ZY] at n1 n2
  have h1':(if apoB S.base (S.arg x) (S.arg y) (S.arg n) c=true then retP dg (appV S (S.arg x) (S.arg y) s) else none)=some S1:=h1
  have h2':(if apoB S1.base (S1.arg x') (S1.arg y') (S1.arg n) c=true then retP dh (appV S1 (S1.arg x') (S1.arg y') s') else none)=some S2:=h2
  have as: ∀(U:St) (d:Option Nat) (x y n:V) (s:Nat),(if apoB U.base x y n c=true then retP d (appV U x y s) else none)=retP d (apoE U x y n s c):=by
   intro U d x y n s;unfold apoE;split<;>rfl
  rw [as] at h1' h2'
  obtain ⟨v1,U1,e1,rfl⟩:=q01v h1'
  obtain ⟨i1,t1,e,r,k,m,es,x1,y1,m1,b1,p1,q1,l1,al1,mo1,rfl,rfl⟩:=q0kr e1
  obtain ⟨v2,U2,e2,rfl⟩:=q01v h2'
  rw [q051 fun t ht=>n1 t (.inl (.inl ht)),q051 fun t ht=>n1 t (.inl (.inr ht)),q051 fun t ht=>n1 t (.inr ht)] at e2
  obtain ⟨i2,t2,e',r',k',m',es',x2,y2,m2,b2,p2,q2,l2,al2,mo2,rfl,rfl⟩:=q0kr e2
  rw [q07m]
  simp only [q05k,q05u] at b2 q2
  simp only [q05k]
  have x2':S.arg x'= .row i2 t2 0 t2:=x2
  have y2':S.arg y'= .p (.sl (e'::r')):=y2
  have m2':S.arg n= .p (.int k' m'):=m2
  have hne:i1≠i2:=by
   rintro rfl
   have hlt:i1<S.hp.length:=by
    unfold rowAt at q1
    rcases Z2 i1 S.hp.length with hl|hl
    ·exact hl
    ·rw [ZF hl] at q1;cases q1
   have:rowAt (S.hp.set i1 (.row s (es++upV (e::r)))) i1=some (s,es++upV (e::r)):=by unfold rowAt;simp [hlt]
   rw [this] at q2
   cases q2
   rw [m1] at m2'
   cases m2'
   simp only [Zt,upV,Z0,Zg] at l2
   omega
  rw [q097 hne] at q2
  have t1':=q0sx (S:=S) (k:=k') b2 p2 q2 l2 al2 mo2
  refine ⟨_,_,show (if apoB S.base (S.arg x') (S.arg y') (S.arg n) c=true then retP dh (appV S (S.arg x') (S.arg y') s') else none)=some _ by rw [as,x2',y2',m2',t1'];rfl,?_,q0hq n3 hne _ _ _ _⟩
  show (if apoB (St.base _) (St.arg _ x) (St.arg _ y) (St.arg _ n) c=true then retP dg (appV _ (St.arg _ x) (St.arg _ y) s) else none)=_
  rw [as,q051 fun t ht=>n2 t (.inl (.inl ht)),q051 fun t ht=>n2 t (.inl (.inr ht)),q051 fun t ht=>n2 t (.inr ht)]
  have x1':St.arg {S with hp:=S.hp.set i2 (.row s' (es'++upV (e'::r')))} x= .row i1 t1 0 t1:=x1
  have y1':St.arg {S with hp:=S.hp.set i2 (.row s' (es'++upV (e'::r')))} y= .p (.sl (e::r)):=y1
  have m1':St.arg {S with hp:=S.hp.set i2 (.row s' (es'++upV (e'::r')))} n= .p (.int k m):=m1
  rw [x1',y1',m1',q0sx (k:=k) (by rw [q05u];exact b1) p1 (by rw [q05k];simp only;rw [q097 (Ne.symm hne)];exact q1) l1 al1 mo1]
  rw [q07m]
  simp only [q05k]
  rfl
 ·cases hr
theorem q0qh {cl:ClT} {g h:GIns} (hi:indep g h=true) {S S1 S2:St} (h1:evG cl g S=some S1) (h2:evG cl h S1=some S2):
  ∃T1 T2,evG cl h S=some T1/\evG cl g T1=some T2/\Eqv S2 T2:=by
 simp only [indep,Zb] at hi
 obtain ⟨⟨i1,i2⟩,i3⟩:=hi
 have n1: ∀t∈h.reads,∀x,g.dst=some x->x≠t:=fun t ht x hx e=>by
  subst e;rw [hx] at i1;simp at i1;exact i1.1 ht
 have n2: ∀t∈g.reads,∀x,h.dst=some x->x≠t:=fun t ht x hx e=>by
  subst e;rw [hx] at i2;simp at i2;exact i2 ht
 have n3: ∀x y,g.dst=some x->h.dst=some y->x≠y:=fun x y hx hy=>by
  rw [hx,hy] at i1;simp at i1;exact i1.2
 split at i3
 ·rename_i k k' hG hH;exact q0Ax n1 n2 n3 hG hH (by simpa using i3) h1 h2
 ·rename_i k hG hH
  simp only [Zb] at i3
  exact q0Aw n1 n2 n3 i3.1 hG i3.2 h1 h2
 ·rename_i k hG hH
  simp only [Zb] at i3
  exact q0Av n1 n2 n3 i3.1 hH i3.2 h1 h2
 ·simp only [Zb] at i3
  obtain ⟨⟨j1,j2⟩,j3⟩:=i3
  rcases Bool.or_eq_true_iff.1 j3 with j3|j3
  ·rcases Bool.or_eq_true_iff.1 j3 with j3|j3
   ·rcases Bool.or_eq_true_iff.1 j3 with j3|j3
    ·exact q0wm n1 n2 n3 j1 j2 j3 h1 h2
    ·simp only [Zb] at j3
     exact q0Ay n1 n2 n3 j1 j2 j3.1 j3.2 h1 h2
   ·simp only [Zb] at j3
    exact q0Az n1 n2 n3 j1 j2 j3.1 j3.2 h1 h2
  ·exact q0sy n1 n2 n3 j3 h1 h2
def evL (cl:ClT):List (Nat×GIns)->St->Option St
 |[],S=>some S
 |p::r,S=>(evG cl p.2 S).bind (evL cl r)
theorem q0ot {cl:ClT}: ∀ {R:List (Nat×GIns)} (_: ∀p∈R,p.2.okD=true) {S T S':St},Eqv S T->evL cl R S=some S'-> ∃T',evL cl R T=some T'/\Eqv S' T'
 |[],_,S,T,S',h,he=>by cases he;exact ⟨T,rfl,h⟩
 |p::r,hh,S,T,S',h,he=>by
  simp only [evL] at he⊢
  cases hg:evG cl p.2 S with
  |none=>rw [hg] at he;cases he
  |some S1=>
   rw [hg] at he
   obtain ⟨T1,t1,t2⟩:=h.evG (hh p ZE) hg
   rw [t1]
   exact q0ot (fun q hq=>hh q (Zv _ hq)) t2 he
theorem q0hr {cl:ClT} {p:Nat×GIns} {B:List (Nat×GIns)}: ∀ {A:List (Nat×GIns)} (_: ∀q∈A++p::B,q.2.okD=true) (_: ∀q∈A,indep q.2 p.2=true) {S S':St},evL cl (A++p::B) S=some S'->
  ∃S1 S'',evG cl p.2 S=some S1/\evL cl (A++B) S1=some S''/\Eqv S' S''
 |[],_,_,S,S',he=>by
  simp only [Zf,evL] at he⊢
  cases hg:evG cl p.2 S with
  |none=>rw [hg] at he;cases he
  |some S1=>rw [hg] at he;exact ⟨S1,S',rfl,he,.refl _⟩
 |q::A,hh,hi,S,S',he=>by
  simp only [Zd,evL] at he⊢
  cases hg:evG cl q.2 S with
  |none=>rw [hg] at he;cases he
  |some S1=>
   rw [hg] at he
   obtain ⟨S2,S'',h1,h2,h3⟩:=q0hr (fun x hx=>hh x (Zv _ hx)) (fun x hx=>hi x (Zv _ hx)) he
   obtain ⟨T1,T2,t1,t2,t3⟩:=q0qh (hi q ZE) hg h1
   obtain ⟨T',u1,u2⟩:=q0ot (fun x hx=>hh x (by
    rcases ZY.1 hx with hx|hx
    ·exact Zv _ (Zi _ hx)
    ·exact Zv _ (Zk _ (Zv _ hx)))) t3 h2
   exact ⟨T1,T',t1,by rw [t2];exact u1,h3.trans u2⟩
def rowB (acc:Array Nat):List Edge->Nat
 |[]=>0
 |e::r=>if Region.binds .any e=true then rowB acc r|||2^e.on|||acc.getD e.on 0 else rowB acc r
def predB:List Oper->Array Nat->Array Nat
 |[],acc=>acc
 |o::r,acc=>predB r (acc.push (rowB acc o.after.toList))
theorem q0ar {acc:Array Nat} {i:Nat}: ∀ {es:List Edge},(rowB acc es).testBit i=true-> ∃e∈es,Region.binds .any e=true/\(e.on=i\/(acc.getD e.on 0).testBit i=true)
 |[],h=>by simp [rowB] at h
 |e::r,h=>by
  simp only [rowB] at h
  split at h
  ·rename_i hb
   simp only [Nat.testBit_or,Z4] at h
   rcases h with (h|h)|h
   ·obtain ⟨e',h1,h2⟩:=q0ar h
    exact ⟨e',Zv _ h1,h2⟩
   ·rw [Nat.testBit_two_pow] at h
    exact ⟨e,ZE,hb,.inl (by simpa using h)⟩
   ·exact ⟨e,ZE,hb,.inr h⟩
  ·obtain ⟨e',h1,h2⟩:=q0ar h
   exact ⟨e',Zv _ h1,h2⟩
theorem q0ep {Lp:Nat->Prop} {all:List Oper} (hc: ∀j o,all[j]? =some o->Lp j-> ∀e∈o.after,Region.binds .any e=true->Lp e.on): ∀(r:List Oper) (pre:List Oper) (acc:Array Nat),all=pre++r->acc.size=pre.length->
  (∀j o,pre[j]? =some o->(∀e∈o.after,Region.binds .any e=true->Lp e.on)-> ∀i,(acc.getD j 0).testBit i=true->Lp i)->
  ∀j o,all[j]? =some o->(∀e∈o.after,Region.binds .any e=true->Lp e.on)-> ∀i,((predB r acc).getD j 0).testBit i=true->Lp i
 |[],pre,acc,he,_,ha=>by
  simp only [List.append_nil] at he
  subst he
  exact ha
 |o::r,pre,acc,he,hs,ha=>by
  refine q0ep hc r (pre++[o]) _ (by rw [he];simp) (by simp [hs]) ?_
  intro j o' hj hall i hb
  rcases Nat.lt_trichotomy j pre.length with hlt|heq|hgt
  ·rw [Zw hlt] at hj
   have:(acc.push (rowB acc o.after.toList)).getD j 0=acc.getD j 0:=by
    have h1:j<acc.size:=by omega
    have h2:j≠acc.size:=by omega
    simp [Zc,Array.getElem?_push,h2]
   rw [this] at hb
   exact ha j o' hj hall i hb
  ·subst heq
   simp at hj
   subst hj
   have:(acc.push (rowB acc o.after.toList)).getD pre.length 0=rowB acc o.after.toList:=by simp [Zc,<-hs]
   rw [this] at hb
   obtain ⟨e,h1,h2,h3⟩:=q0ar hb
   have hL:=hall e (by simpa using h1) h2
   rcases h3 with h3|h3
   ·rw [<-h3];exact hL
   ·by_cases hlt:e.on<pre.length
    ·have hx:pre[e.on]? =some pre[e.on]:=Zl hlt
     refine ha e.on _ hx (fun e' he' hb'=>hc e.on pre[e.on] ?_ hL e' he' hb') i h3
     rw [he,Zw hlt];exact hx
    ·have:acc.getD e.on 0=0:=by
      have:acc.size<=e.on:=by omega
      simp [Zc,this]
     rw [this] at h3;simp at h3
  ·rw [ZF (by simp;omega)] at hj;cases hj
def ordOK (ops:Array Oper) (gs:List GIns):Bool:=
 let b:=predB ops.toList #[]
 (ops.toList.zipIdx.all fun (o,i)=>o.after.all fun e=> !Region.binds .any e||decide (e.on<i))&&
 gs.all GIns.okD&&
 gs.zipIdx.all fun (g,i)=>gs.zipIdx.all fun (h,j)=> !decide (j<i)||indep h g||(b.getD i 0).testBit j
def okGs (P:Program) (ops:Array Oper) (N:Nat):List Oper->List GIns->Bool
 |[],[]=>true
 |o::r,g::s=>okG P ops N o g&&okGs P ops N r s
 |_,_=>false
theorem q0dp {P:Program} {ops:Array Oper} {N:Nat}: ∀ {os:List Oper} {gs:List GIns},okGs P ops N os gs=true->os.length=gs.length/\ ∀(i:Nat) (o:Oper) (g:GIns),os[i]? =some o->gs[i]? =some g->okG P ops N o g=true
 |[],[],_=>⟨rfl,fun i o g h=>by simp at h⟩
 |o::r,g::s,h=>by
  simp only [okGs,Zb] at h
  obtain ⟨h1,h2⟩:=q0dp h.2
  refine ⟨by simp [h1],fun i o' g' ho hg=> ?_⟩
  cases i with
  |zero=>simp at ho hg;subst ho;subst hg;exact h.1
  |succ i=>exact h2 i o' g' (by simpa using ho) (by simpa using hg)
 |[],_::_,h=>by simp [okGs] at h
 |_::_,[],h=>by simp [okGs] at h
section
variable {n:Nat} {P:Program} {a:Act} {w:World} {Q:Exit->Act->World->Prop} {ro:Option Nat}
variable {N:Nat} {S S':St} {w0:World} {G0:Gh} {own0:Own} {ops:Array Oper} {cl:ClT}
theorem InF.eqv (h:InF N w0 G0 own0 S a w) {T:St} (he:Eqv S T):InF N w0 G0 own0 T a w:=by
 obtain ⟨G,own,L,h1,h2,h3,h4⟩:=h
 refine ⟨G,own,L,⟨h1.size,fun t=>by rw [<-he.env];exact h1.slot t,by rw [<-he.loc,<-he.hp];exact h1.wok⟩,h2,⟨h3.sz,by rw [<-he.base];exact h3.own,h3.old,by rw [<-he.dirty];exact h3.same⟩,h4⟩
theorem InF.drew (h:InF N w0 G0 own0 S a w):InF N w0 G0 own0 S a w.drew:=by
 obtain ⟨G,own,L,h1,h2,h3,h4⟩:=h
 exact ⟨G,own,L,⟨h1.size,h1.slot,h1.wok.drew⟩,h2.trans .drew,⟨h3.sz,h3.own,h3.old,h3.same⟩,h4.foot (.drew (G:=G))⟩
theorem q0sz {Kg:Gh->Prop} (hcl:ClOK P Kg cl) (hK:Kn Kg G0) {M:Nat} (hM:M<=N): ∀(gs:List GIns) (k:Nat),(∀i g,gs[i]? =some g-> ∃o,ops[k+i]? =some o/\okG P ops M o g=true)-> ∀ {S S':St} {a:Act} {w:World},InF N w0 G0 own0 S a w->evOps cl gs S=some S'->
  (∀a' w',InF N w0 G0 own0 S' a' w'->Q .normal a' w')->wpOpsIn (Fw ro) n P ops Q (List.range' k gs.length) a w
 |[],k,_,S,S',a,w,hi,he,hq=>by cases he;exact hq _ _ hi
 |g::r,k,hg,S,S',a,w,hi,he,hq=>by
  simp only [Zg,List.range'_succ]
  rw [wpOpsIn_cons]
  simp only [evOps] at he
  cases h1:evG cl g S with
  |none=>rw [h1] at he;cases he
  |some S1=>
   rw [h1] at he
   obtain ⟨o,ho,hok⟩:=hg 0 g rfl
   refine op_ok hM (by simpa using ho) hok hcl hK hi h1 fun a' w' hi'=> ?_
   exact q0sz hcl hK hM r (k+1) (fun i g' hg'=>by
    obtain ⟨o',ho',hok'⟩:=hg (i+1) g' (by simpa using hg')
    exact ⟨o',by rw [<-ho'];congr 1;omega,hok'⟩) hi' he hq
def Left (ops:Array Oper) (listed:Array Bool) (R:List (Nat×GIns)):Prop:=R.map (·.1)=(List.range ops.size).filter fun i=> !listed.getD i true
theorem Left.front {listed:Array Bool} {A B:List (Nat×GIns)} {p:Nat×GIns} (h:Left ops listed (A++p::B)) (hs:listed.size=ops.size):
  (∀q∈A,q.1<p.1)/\Left ops (listed.setIfInBounds p.1 true) (A++B):=by
 have hp:((List.range ops.size).filter fun i=> !listed.getD i true).Pairwise (· < ·):=List.Pairwise.filter _ List.pairwise_lt_range
 unfold Left at h
 rw [<-h] at hp
 simp only [List.map_append,Zo] at hp h
 have hpa:=(List.pairwise_append.1 hp)
 have hA: ∀q∈A,q.1<p.1:=fun q hq=>hpa.2.2 q.1 (ZJ.2 ⟨q,hq,rfl⟩) p.1 ZE
 have hB: ∀q∈B,p.1<q.1:=fun q hq=>(ZW.1 hpa.2.1).1 q.1 (ZJ.2 ⟨q,hq,rfl⟩)
 refine ⟨hA,?_⟩
 unfold Left
 have hlt:p.1<ops.size:=by
  have:p.1∈(List.range ops.size).filter fun i=> !listed.getD i true:=by rw [<-h];simp
  simpa using (List.mem_filter.1 this).1
 have e1:((List.range ops.size).filter fun i=> !(listed.setIfInBounds p.1 true).getD i true)=((List.range ops.size).filter fun i=> !listed.getD i true).filter fun i=>i !=p.1:=by
  rw [List.filter_filter]
  apply List.filter_congr
  intro i hi
  have hi':i<listed.size:=by rw [hs];simpa using hi
  by_cases e:p.1=i
  ·subst e;simp [Zc,hi']
  ·simp [Zc,e,Ne.symm e]
 rw [e1,<-h]
 simp only [List.map_append,List.filter_append,List.filter_cons,bne_self_eq_false,Zh,if_false]
 congr 1
 ·symm;rw [List.filter_eq_self]
  intro x hx
  obtain ⟨q,hq,rfl⟩:=ZJ.1 hx
  simpa using Nat.ne_of_lt (hA q hq)
 ·symm;rw [List.filter_eq_self]
  intro x hx
  obtain ⟨q,hq,rfl⟩:=ZJ.1 hx
  simpa using Nat.ne_of_gt (hB q hq)
theorem q0B0 {Kg:Gh->Prop} (hcl:ClOK P Kg cl) (hK:Kn Kg G0) {M:Nat} (hM:M<=N) {gs:List GIns} (hgs:okGs P ops M ops.toList gs=true) (hord:ordOK ops gs=true): ∀(fuel:Nat) (R:List (Nat×GIns)) (listed:Array Bool) {S S':St} {a:Act} {w:World},
  R.length=fuel->listed.size=ops.size->Left ops listed R->(∀p∈R,gs[p.1]? =some p.2)->
  (∀j o,ops[j]? =some o->listed.getD j false=true-> ∀e∈o.after,Region.binds .any e=true->listed.getD e.on false=true)->
  InF N w0 G0 own0 S a w->evL cl R S=some S'->(∀S'' a' w',Eqv S' S''->InF N w0 G0 own0 S'' a' w'->Q .normal a' w')->wpAnyIn (Fw ro) n P .any ops Q fuel listed a w:=by
 obtain ⟨hlen,hget⟩:=q0dp hgs
 simp only [ordOK,Zb] at hord
 obtain ⟨⟨o1,o2⟩,o3⟩:=hord
 have back: ∀i o,ops[i]? =some o-> ∀e∈o.after,Region.binds .any e=true->e.on<i:=by
  intro i o ho e he hb
  have hm:(o,i)∈ops.toList.zipIdx:=by
   rw [List.mk_mem_zipIdx_iff_getElem?];simpa using ho
  have:=Zn.1 o1 _ hm
  simp only [Array.all_eq_true_iff_forall_mem] at this
  have:=this e he
  simpa [hb] using this
 have heapy: ∀ {i:Nat} {g:GIns},gs[i]? =some g->g.okD=true:=fun {i g} hg=>Zn.1 o2 _ (Zp hg)
 intro fuel
 induction fuel with
 |zero=>
  intro R listed S S' a w hf hs hl hR hc hi he hq
  have hR0:R=[]:=ZU.1 hf
  subst hR0
  cases he
  refine ⟨?_,hq _ _ _ (.refl _) hi⟩
  cases hr:Region.ready .any ops listed with
  |nil=>rfl
  |cons i r=>
   have hm:i∈Region.ready .any ops listed:=by rw [hr];exact ZE
   obtain ⟨hu,o,ho,-⟩:=mem_ready.1 hm
   have:i∈(List.range ops.size).filter fun i=> !listed.getD i true:=List.mem_filter.2 ⟨by simpa using (ZN.1 ho).1,by simpa using hu⟩
   rw [<-hl] at this;simp at this
 |succ fuel ih=>
  intro R listed S S' a w hf hs hl hR hc hi he hq
  have lead: ∀ {i j:Nat},i<listed.size->(listed.getD i true=false↔ ¬listed.getD i false=true):=fun {i j} h=>by simp [Zc,h]
  refine ⟨fun h0=> ?_,fun i hir=> ?_⟩
  ·
   exfalso
   cases R with
   |nil=>simp at hf
   |cons p R'=>
    have hl':=hl
    unfold Left at hl'
    have hmem:p.1∈(List.range ops.size).filter fun i=> !listed.getD i true:=by rw [<-hl'];simp
    obtain ⟨hm1,hm2⟩:=List.mem_filter.1 hmem
    have hp1:p.1<ops.size:=by simpa using hm1
    have:p.1∈Region.ready .any ops listed:=by
     refine mem_ready.2 ⟨by simpa using hm2,ops[p.1],by simp [hp1],fun e he' hb=> ?_⟩
     have hlt:=back p.1 _ (by simp [hp1]) e he' hb
     have hlt2:e.on<listed.size:=by omega
     cases hx:listed.getD e.on false with
     |true=>rfl
     |false=>
      exfalso
      have hu:listed.getD e.on true=false:=(lead (j:=0) hlt2).2 (by simp [hx])
      have hin:e.on∈(p::R').map (·.1):=by
       rw [hl'];exact List.mem_filter.2 ⟨by simp;omega,by simp [hu]⟩
      have hpw:((List.range ops.size).filter fun i=> !listed.getD i true).Pairwise (· < ·):=List.Pairwise.filter _ List.pairwise_lt_range
      rw [<-hl'] at hpw
      simp only [Zo,ZW] at hpw
      simp only [Zo,ZI] at hin
      rcases hin with hin|hin
      ·omega
      ·have:=hpw.1 _ hin;omega
    rw [h0] at this;cases this
  ·obtain ⟨hu,o,ho,hall⟩:=mem_ready.1 hir
   have hi1:i<ops.size:=(ZN.1 ho).1
   have hin:i∈R.map (·.1):=by
    rw [hl];exact List.mem_filter.2 ⟨by simpa using hi1,by simp [hu]⟩
   obtain ⟨⟨i',g⟩,hp,hpi⟩:=ZJ.1 hin
   simp only at hpi
   subst hpi
   obtain ⟨A,B,rfl⟩:=List.append_of_mem hp
   have hg:gs[i']? =some g:=hR _ hp
   obtain ⟨hA,hl2⟩:=hl.front hs
   have hind: ∀q∈A,indep q.2 g=true:=by
    intro q hq'
    have hqg:gs[q.1]? =some q.2:=hR q (Zi _ hq')
    have hm1:(g,i')∈gs.zipIdx:=by rw [List.mk_mem_zipIdx_iff_getElem?];exact hg
    have hm2:(q.2,q.1)∈gs.zipIdx:=by rw [List.mk_mem_zipIdx_iff_getElem?];exact hqg
    have:=Zn.1 (Zn.1 o3 _ hm1) _ hm2
    simp only [Z4,Bool.not_eq_true',decide_eq_false_iff_not] at this
    rcases this with (h1|h1)|h1
    ·exact absurd (hA q hq') h1
    ·exact h1
    ·exfalso
     have hL:=q0ep (Lp:=fun j=>listed.getD j false=true) (all:=ops.toList) (fun j o' hj hLj e he' hb=>hc j o' (by simpa using hj) hLj e he' hb) ops.toList [] #[] rfl rfl
      (fun j o' hj=>by simp at hj) i' o (by simpa using ho) hall q.1 h1
     have hq1:q.1∈(List.range ops.size).filter fun i=> !listed.getD i true:=by
      rw [<-hl];exact ZJ.2 ⟨q,Zi _ hq',rfl⟩
     have hq2:=(List.mem_filter.1 hq1)
     have:q.1<listed.size:=by rw [hs];simpa using hq2.1
     have h3:listed.getD q.1 true=false:=by simpa using hq2.2
     exact (lead (j:=0) this).1 h3 hL
   obtain ⟨S1,S'',e1,e2,e3⟩:=q0hr (p:=(i',g)) (fun q hq'=>heapy (hR q hq')) hind he
   refine op_ok hM ho (hget i' o g (by simpa using ho) hg) hcl hK hi e1 fun a' w' hi'=> ?_
   refine ih (A++B) _ (by simp at hf⊢;omega) (by simpa using hs) hl2 (fun q hq'=>hR q (by
    rcases ZY.1 hq' with h|h
    ·exact Zi _ h
    ·exact Zk _ (Zv _ h))) ?_ hi' e2 (fun S3 a3 w3 h3 h4=>hq S3 a3 w3 (e3.trans h3) h4)
   intro j oj hj hjl e he' hb
   have keep: ∀k,listed.getD k false=true->(listed.setIfInBounds i' true).getD k false=true:=fun k hk=>by
    by_cases e:i'=k
    ·subst e;have:i'<listed.size:=by omega
     simp [Zc,this]
    ·simpa [Zc,Array.getElem?_setIfInBounds,e] using hk
   by_cases e:i'=j
   ·subst e
    rw [ho] at hj;cases hj
    exact keep _ (hall _ he' hb)
   ·refine keep _ (hc j oj hj ?_ _ he' hb)
    simpa [Zc,Array.getElem?_setIfInBounds,e] using hjl
end
section
variable {G:Gh} {own:Own} {H:Heap} {L:Nat->Option Nat} {loc:List (Nat×List V)} {w:World}
theorem q0eq (h:WOK G own H L loc w) {S:St} (hH:S.hp=H) {ids:List Nat} {v:Value} {raw x:V} (hv:SRep G L v raw) (hf:freeze S raw=some x) (hids: ∀i∈q00w S.base S.hp deep raw,i∈ids):
  VRep (G.bury own w ids) v x:=by
 have hle:=G.le_bury own w ids
 unfold freeze at hf
 split at hf
 ·cases hf
  cases hv with|nils ad=>exact .p (.sl0 ad 0)
 ·cases hf
  have hv':VRep G v .nil0:=hv
  cases hv';exact .p (.sl0 none 0)
 ·rename_i id tot off len
  split at hf
  ·cases hfr:frz S.base S.hp deep (.row id tot off len) with
   |none=>rw [hfr] at hf;cases hf
   |some y=>
    rw [hfr] at hf
    cases hf
    rw [hH] at hfr hids
    exact .p (q0Uj h deep hv hfr hids)
  ·cases hf;exact VRep.mono hle hv
 ·cases hf
 ·cases hf
 ·cases hf
 ·rename_i h1 h2 h3 h4 h5 h6
  cases hf
  exact VRep.mono hle (hv.vrep h4)
theorem q0cx (h:WOK G own H L loc w) {S:St} (hH:S.hp=H) {ids:List Nat}: ∀ {raws xs:List V} {f:Nat->Value},CRep G f raws->q02z S raws=some xs->(∀i∈raws.flatMap (q00w S.base S.hp deep),i∈ids)->
  raws.length=xs.length/\CRep (G.bury own w ids) f xs
 |[],xs,f,_,hf,_=>by cases hf;exact ⟨rfl,fun j hj=>absurd hj (Zz _)⟩
 |v::r,xs,f,hc,hf,hids=>by
  simp only [q02z] at hf
  split at hf
  ·rename_i x ys hx hys
   cases hf
   have h0:=q0eq h hH (.of (L:=L) (hc 0 (by simp))) hx (fun i hi=>hids i (ZQ.2 ⟨v,ZE,hi⟩))
   obtain ⟨q1,q2⟩:=q0cx h hH (f:=fun j=>f (j+1)) (fun j hj=>hc (j+1) (by simpa using hj)) hys (fun i hi=>hids i (by
    obtain ⟨u,hu,hiu⟩:=ZQ.1 hi
    exact ZQ.2 ⟨u,Zv _ hu,hiu⟩))
   refine ⟨by simp [q1],fun j hj=> ?_⟩
   cases j with
   |zero=>exact h0
   |succ j=>exact q2 j (by simpa using hj)
  ·cases hf
theorem q0np (h:WOK G own H L loc w) {S:St} (hH:S.hp=H) {ids:List Nat} {v:Value} {raw x:V} (hv:SRep G L v raw) (hf:freezeR S raw=some x) (hids: ∀i∈q01d S raw,i∈ids):
  VRep (G.bury own w ids) v x:=by
 cases raw with
 |agg cs=>
  simp only [freezeR] at hf
  cases hfs:q02z S cs with
  |none=>rw [hfs] at hf;cases hf
  |some xs=>
   rw [hfs] at hf
   cases hf
   obtain ⟨c,rfl,hs,hc⟩:=q06p hv
   obtain ⟨q1,q2⟩:=q0cx h hH hc hfs hids
   exact .agg _ _ (hs.trans q1) q2
 |_=>exact q0eq h hH hv hf hids
theorem q0ou (h:WOK G own H L loc w) {S:St} (hH:S.hp=H) {th:Bool} {ids:List Nat} {v:Value} {raw x:V} (hv:SRep G L v raw) (hf:fzR th S raw=some x) (hids:th=false-> ∀i∈q01d S raw,i∈ids):
  VRep (G.bury own w ids) v x:=by
 unfold fzR at hf
 split at hf
 ·unfold rawR at hf
  split at hf
  ·rename_i ho
   cases hf
   exact VRep.mono (G.le_bury own w ids) (hv.vrep fun s o e=>by rw [e] at ho;cases ho)
  ·cases hf
 ·rename_i ht
  exact q0np h hH hv hf (hids (by simpa using ht))
end
def okRs (P:Program):List ResultVar->List RV->Bool
 |[],[]=>true
 | .tmp t::r,.tmp t'::s=>t==t'&&okRs P r s
 | .cell a ty::r,.cell a' m agg::s=>a==a'&&sizeB P ty m&&aggB P ty agg&&(agg||m==1)&&okRs P r s
 |_,_=>false
def resOf (tmps:Array Value):ResultVar->Sem Value
 | .tmp t=>pure (tmps.getD t undef)
 | .cell a t=>do loadVar t (<-asAddr (tmps.getD a undef))
section
variable {P:Program} {N:Nat} {G:Gh} {own:Own} {L:Nat->Option Nat} {S:St} {a:Act} {w:World}
theorem q080 (h:Sim N G own L S a w) {th:Bool} {ids:List Nat}: ∀ {rs:List ResultVar} {vs:List RV} {xs:List V},okRs P rs vs=true->resVs th S vs=some xs->(th=false-> ∀i∈q02e S vs,i∈ids)->
  ∃us:List Value,(rs.mapM (resOf a.tmps)).run P w= .ok us w/\us.length=xs.length/\ ∀j (hj:j<xs.length),VRep (G.bury own w ids) (us.getD j undef) (xs[j])
 |[],[],xs,_,hr,_=>by cases hr;exact ⟨[],by simp,rfl,fun j hj=>absurd hj (Zz _)⟩
 | .tmp t::r,.tmp t'::s,xs,hok,hr,hids=>by
   simp only [okRs,Zb,beq_iff_eq] at hok
   obtain ⟨rfl,hok⟩:=hok
   simp only [resVs] at hr
   split at hr
   ·rename_i x ys hx hys
    cases hr
    simp only [q02e] at hids
    obtain ⟨us,u1,u2,u3⟩:=q080 h hok hys (fun ht i hi=>hids ht i (Zk _ hi))
    have h0:=q0ou (ids:=ids) h.wok rfl (h.slot t) hx (fun ht i hi=>hids ht i (Zi _ hi))
    refine ⟨a.tmps.getD t undef::us,?_,by simp [u2],fun j hj=> ?_⟩
    ·simp [List.mapM_cons,resOf,u1]
    ·cases j with
     |zero=>exact h0
     |succ j=>exact u3 j (by simpa using hj)
   ·cases hr
 | .cell ad ty::r,.cell a' m agg::s,xs,hok,hr,hids=>by
   simp only [okRs,Zb,beq_iff_eq,Z4] at hok
   obtain ⟨⟨⟨⟨rfl,o2⟩,o3⟩,o4⟩,hok⟩:=hok
   obtain ⟨i,hi,hsz⟩:=q017 o2
   simp only [resVs] at hr
   split at hr
   ·rename_i x ys hx hys
    cases hr
    simp only [q02e] at hids
    obtain ⟨us,u1,u2,u3⟩:=q080 h hok hys (fun ht i hi=>hids ht i (Zk _ hi))
    simp only [resV] at hx
    cases hl:q011 S (getE S.env ad) m with
    |none=>rw [hl] at hx;cases hx
    |some cs=>
     rw [hl] at hx hids
     simp only [Ze] at hx hids
     cases hag:aggOr agg cs with
     |none=>rw [hag] at hx;cases hx
     |some raw=>
      rw [hag] at hx hids
      simp only [Ze] at hx hids
      obtain ⟨b,off,f,hv,hc,hlen,hrep⟩:=q0s7 h (h.slot ad) hl
      have run:=q0cp (P:=P) (w:=w) o3 hi hsz o4 hc
      have hraw:VRep G (if agg=true then .agg ((List.range m).map f).toArray else f 0) raw:=by
       rcases q0bz hag hrep with ⟨rfl,rfl,hra⟩|⟨rfl,y,rfl,rfl,hra⟩
       ·simpa [hlen] using hra
       ·exact hra
      have h0:=q0ou (ids:=ids) h.wok rfl (.of hraw) hx (fun ht i hi=>hids ht i (Zi _ hi))
      refine ⟨(if agg=true then .agg ((List.range m).map f).toArray else f 0)::us,?_,by simp [u2],fun j hj=> ?_⟩
      ·simp [List.mapM_cons,resOf,hv,asAddr,run,u1]
      ·cases j with
       |zero=>exact h0
       |succ j=>exact u3 j (by simpa using hj)
   ·cases hr
 | .tmp _::_,.cell .. ::_,_,hok,_,_=>by simp [okRs] at hok
 | .cell .. ::_,.tmp _::_,_,hok,_,_=>by simp [okRs] at hok
 |[],_::_,_,hok,_,_=>by simp [okRs] at hok
 | .tmp _::_,[],_,hok,_,_=>by simp [okRs] at hok
 | .cell .. ::_,[],_,hok,_,_=>by simp [okRs] at hok
def q0ks:List Value->Value
 |[u]=>u
 |us=> .tuple us.toArray
theorem q0nq {fn:Func} {us:List Value} {tmps:Array Value} (h:(fn.results.toList.mapM (resOf tmps)).run P w= .ok us w):
  (results fn tmps).run P w= .ok (q0ks us) w:=by
 have e:results fn tmps=(do
   let vs<-fn.results.mapM (resOf tmps)
   pure (if h:vs.size=1 then vs[0] else .tuple vs)):=by
  unfold results resOf;rfl
 rw [e]
 have h1:(fn.results.mapM (resOf tmps)).run P w= .ok us.toArray w:=by simp [Array.mapM_eq_mapM_toList,h]
 simp only [Sem.run_bind,h1,Result.andThen_ok,Sem.run_pure]
 match us with
 |[]=>rfl
 |[u]=>rfl
 |u::v::r=>simp [q0ks]
theorem q0t0 {G':Gh} {v:Value} {x:V} (h:VRep G v x) (hp:x.plainR=true) (hI: ∀b o u,G.I b o u->G'.I b o u):VRep G' v x:=by
 have one: ∀ {u:Value} {y:V},VRep G u y->y.plainB=true->VRep G' u y:=by
  intro u y hu hy
  cases hu with
  |p hp=>exact .p (hp.mono hI)
  |eptr b base off cs c h1 h2=>exact q0fw hI sd (VRep.eptr b base off cs c h1 h2) hy
  |_=>cases hy
 have ag: ∀ {u:Value} {cs:List V},VRep G u (.agg cs)->cs.all V.plainB=true->VRep G' u (.agg cs):=by
  intro u cs hu hy
  cases hu with
  |agg c _ hs hc=>exact .agg c _ hs fun j hj=>one (hc j hj) (Zn.1 hy _ (ZK hj))
 cases x with
 |p y=>exact one h rfl
 |eptr cs o=>exact one h hp
 |nils=>cases h with|nils a=>exact .nils a
 |agg cs=>exact ag h hp
 |tup vs=>
  cases h with
  |tup c _ hs hc=>
   refine .tup c _ hs fun j hj=> ?_
   have h1:=hc j hj
   have h2:=Zn.1 hp _ (ZK hj)
   generalize vs[j]=y at h1 h2
   cases y with
   |agg cs=>exact ag h1 h2
   |_=>exact one h1 h2
 |_=>cases hp
end
def exOf:Ex->Exit
 | .normal=> .normal
 | .exit id=> .exit id
 | .goto l=> .goto l
 | .ret=> .ret
def IC.flat:IC->Bool
 | .rangeFunc .. =>false
 | .seq a b| .cond _ a b| .scopeR a b=>a.flat&&b.flat
 | .block _ c| .loop _ _ c| .prep _ c| .esc _ c| .scope c| .rsv _ c=>c.flat
 |_=>true
def okC (P:Program) (M:Nat):Code->IC->Bool
 |c,.prep _ x=>okC P M c x
 |c,.esc _ x=>okC P M c x
 |c,.rsv _ x=>okC P M c x
 | .skip,.skip=>true
 | .label l,.label l'=>l==l'
 | .region _ ops draw,.reg d gs _ _=>d==draw&&okGs P ops M ops.toList gs&&(!draw||ordOK ops gs)
 | .seq a b,.seq x y=>okC P M a x&&okC P M b y
 | .cond c a b,.cond c' x y=>okArg c c'&&okC P M a x&&okC P M b y
 | .block i c,.block j x=>i==j&&okC P M c x
 | .loop c,.loop _ _ x=>okC P M c x
 | .scope c,.scope x=>okC P M c x
 | .goto l,.goto l'=>l==l'
 | .exit i,.exit j=>i==j
 | .ret,.ret=>true
 | .rangeFunc f ps a b,.rangeFunc x ps' y z=>okArg f x&&ps.toList==ps'&&ps'.all (fun p=>decide (p<M))&&okC P M a y&&okC P M b z&&y.flat&&z.flat
 |_,_=>false
def cOK (P:Program) (c:Code) (ic:IC) (n:Nat):Prop:= ∃M,M<=n/\okC P M c ic=true/\ic.flat=true
def KP (P:Program) (X:Gh->Prop) (G:Gh):Prop:=G.C=cOK P/\X G
def q0Dl (P:Program) (Kg:Gh->Prop) (M:Nat) (ev:EvT) (c:Code) (ic:IC):Prop:= ∀N,M<=N-> ∀S ex S',ev ic S=some (ex,S')-> ∀n ro w0 G0 own0 a w,Kn Kg G0->(ro=none\/ic.flat=true)->InF N w0 G0 own0 S a w->
 ∀Q:Exit->Act->World->Prop,(∀a' w',InF N w0 G0 own0 S' a' w'->Q (exOf ex) a' w')->c.wpIn (Fw ro) n P Q a w
theorem Eqv.symm {S T:St} (h:Eqv S T):Eqv T S:=h.symm'
theorem q0er: ∀(ks:List Nat) (e:List (Nat×V)) (t:Nat),getE (keepE e ks) t=if t∈ks then getE e t else .undef
 |[],e,t=>by simp [keepE]
 |k::r,e,t=>by
  have ih:=q0er r e t
  simp only [keepE,Zo,q02c,beq_iff_eq,ZI] at ih⊢
  by_cases h:k=t
  ·subst h;simp
  ·simp only [h,if_false,ih,Ne.symm h,false_or]
theorem q098: ∀(ks:List Nat) (l:List (Nat×List V)) (s:Nat) (cs:List V),getL (keepL l ks) s=some cs->getL l s=some cs
 |[],l,s,cs,h=>by simp [keepL] at h
 |k::r,l,s,cs,h=>by
  simp only [keepL,List.filterMap_cons] at h
  cases hk:getL l k with
  |none=>simp only [hk,Option.map_none] at h;exact q098 r l s cs h
  |some c=>
   simp only [hk,ZH,q0aa] at h
   split at h
   ·rename_i e;simp at e;subst e;rw [hk];exact h
   ·exact q098 r l s cs h
section
variable {n:Nat} {P:Program} {a:Act} {w:World} {ro:Option Nat}
variable {N M:Nat} {S S':St} {w0:World} {G0:Gh} {own0:Own} {cl:ClT}
theorem q0kt: ∀(l:List (Nat×List V)) (t:Nat) (s:Nat),getL (l++[(t,[])]) s=match getL l s with|some c=>some c|none=>if t==s then some [] else none
 |[],t,s=>by simp
 |(k,v)::r,t,s=>by
  simp only [Zd,q0aa]
  split
  ·rfl
  ·exact q0kt r t s
theorem q0es: ∀(ts:List Nat) (l:List (Nat×List V)) (s:Nat) (cs:List V),getL (prepL l ts) s=some cs->getL l s=some cs\/cs=[]
 |[],_,_,_,h=> .inl h
 |t::r,l,s,cs,h=>by
  simp only [prepL] at h
  rcases q0es r _ s cs h with h|h
  ·split at h
   ·exact .inl h
   ·rw [q0kt] at h
    split at h
    ·rename_i c hc;cases h;exact .inl hc
    ·split at h
     ·cases h;exact .inr rfl
     ·cases h
  ·exact .inr h
theorem Marks.own {own own':Own} {ds:List Deferred} (h:Marks w0 own w ds) (ho: ∀b,own b=none->own' b=none):Marks w0 own' w ds:=
 ⟨fun d hd=>let ⟨b,h1,h2,h3,h4⟩:=h.all d hd;⟨b,h1,h2,ho b h3,h4⟩,h.nodup⟩
theorem InF.prep (h:InF N w0 G0 own0 S a w) (ts:List Nat):InF N w0 G0 own0 {S with loc:=prepL S.loc ts} a w:=by
 obtain ⟨G,own,L,h1,h2,h3,h4⟩:=h
 refine ⟨G,own,L,⟨h1.size,h1.slot,⟨h1.wok.imm,h1.wok.dom,h1.wok.domr,h1.wok.top,h1.wok.obj,fun s cs hs=> ?_,h1.wok.noI,h1.wok.lt,h1.wok.ilt⟩⟩,h2,⟨h3.sz,h3.own,h3.old,h3.same⟩,h4⟩
 rcases q0es ts _ _ _ hs with hs|hs
 ·exact h1.wok.locs s cs hs
 ·exact .inl hs
theorem InF.rsv1 (h:InF N w0 G0 own0 S a w) (s:Nat):InF N w0 G0 own0 {S with hp:=S.hp++[DObj.row s []]} a w:=by
 obtain ⟨G,own,L,h1,h2,h3,h4⟩:=h
 have hnew:=h1.wok.row_new 0
 have hle:=Gh.le_withRow (r:= .nil) hnew
 have hsim:Sim N (G.withRow S.hp.length 0 .nil) own L {S with hp:=S.hp++[DObj.row s []]} a w:=by
  refine h1.change hle rfl (fun _ _ _ _=>rfl) ⟨h1.wok.imm,?_,?_,?_,?_,?_,h1.wok.noI,h1.wok.lt,h1.wok.ilt⟩
  ·intro i b hi;have:=h1.wok.dom i b hi;simp;omega
  ·intro i t r hi
   simp only [Gh.withRow] at hi
   split at hi
   ·rename_i hh;simp;omega
   ·have:=h1.wok.domr i t r hi;simp;omega
  ·intro i s' es hi t r hr
   simp only [Gh.withRow] at hr
   split at hr
   ·rename_i hh;omega
   ·rcases q047 hi with hi|⟨rfl,-⟩
    ·exact h1.wok.top i s' es hi t r hr
    ·rw [h1.wok.row_new t] at hr;cases hr
  ·intro i o' hi
   rcases q047 hi with hi|⟨rfl,rfl⟩
   ·exact (h1.wok.obj i o' hi).frame hle (fun _ x=>x) (fun _ _=>rfl)
   ·exact .inl ⟨rfl,by simp [Gh.withRow]⟩
  ·intro s' cs hs;exact (h1.wok.locs s' cs hs).frame hle rfl (fun _ x=>x) (fun _ _=>rfl)
 have hfoot:Foot G own w (G.withRow S.hp.length 0 .nil) own w:=⟨hle,Zm _,fun _ _ _=>rfl,fun _ _ x=> .inl x,fun _ _ _ x=> .inl x,rfl,rfl,rfl⟩
 exact ⟨_,own,L,hsim,h2.trans hfoot,⟨h3.sz,h3.own,h3.old,h3.same⟩,h4.foot hfoot⟩
theorem InF.rsv: ∀(ss:List Nat) {S:St},InF N w0 G0 own0 S a w->InF N w0 G0 own0 {S with hp:=S.hp++ss.map fun s=>DObj.row s []} a w
 |[],S,h=>by simpa using h
 |s::ss,S,h=>by
  have:=InF.rsv ss (h.rsv1 s)
  simpa using this
theorem q0hs: ∀(e:List (Nat×V)) (t id n:Nat),getE (escE t id e) n=escV t id (getE e n)
 |[],_,_,_=>rfl
 |(k,v)::r,t,id,n=>by
  simp only [q0s2,q02c]
  split
  ·rfl
  ·exact q0hs r t id n
theorem InF.esc1 (h:InF N w0 G0 own0 S a w) {t:Nat} {c:V} {cs:List V} (hg:getL S.loc t=some (c::cs)):
  InF N w0 G0 own0 {S with env:=escE t S.hp.length S.env,loc:=setL S.loc t [],hp:=S.hp++[DObj.box (c::cs)]} a w:=by
 obtain ⟨G,own,L,h1,h2,h3,h4⟩:=h
 rcases h1.wok.locs t _ hg with h5|⟨b,arr,l1,l2,l3,l4,l5⟩
 ·cases h5
 have hn:=h1.wok.blk_new
 have hle:=Gh.le_withBox (b:=b) hn
 have hkeep: ∀b' k,own b'=some k->k≠ .loc t->upd own b (.obj S.hp.length) b'=some k:=fun b' k hk hne=>by
  by_cases e:b'=b
  ·subst e;rw [l2] at hk;cases hk;exact absurd rfl hne
  ·rw [q01t _ _ e];exact hk
 refine ⟨G.withBox S.hp.length b,upd own b (.obj S.hp.length),L,⟨h1.size,fun n=> ?_,?_⟩,?_,?_,h4.own fun b' hb'=>by rw [q01t _ _ (fun e=>by subst e;rw [l2] at hb';cases hb')];exact hb'⟩
 ·show SRep _ L _ (getE (escE t S.hp.length S.env) n)
  rw [q0hs]
  have hs:=h1.slot n
  cases hx:getE S.env n with
  |lptr s o=>
   rw [hx] at hs
   obtain ⟨b',k1,k2⟩:=hs
   simp only [escV]
   split
   ·rename_i e
    subst e
    rw [l1] at k1;cases k1
    rw [k2]
    exact VRep.ptr _ _ _ (q01n ..)
   ·exact ⟨b',k1,k2⟩
  |_=>rw [hx] at hs;exact VRep.mono hle hs
 ·refine ⟨h1.wok.imm,fun i b' hi=> ?_,fun i n r hi=> ?_,fun i s es hi n r hr=> ?_,fun i o hi=> ?_,fun s ds hs=> ?_,fun b' o v hi=> ?_,fun b' k hk=> ?_,h1.wok.ilt⟩
  ·simp only [Gh.withBox] at hi
   by_cases e:i=S.hp.length
   ·simp;omega
   ·rw [q01t _ _ e] at hi;have:=h1.wok.dom _ _ hi;simp;omega
  ·have:=h1.wok.domr i n r hi;simp;omega
  ·rcases q047 hi with hi|⟨-,hi⟩
   ·exact h1.wok.top i s es hi n r hr
   ·cases hi
  ·rcases q047 hi with hi|⟨rfl,rfl⟩
   ·exact (h1.wok.obj i o hi).frame hle (fun b' hb=>hkeep b' _ hb (by simp)) (fun _ _=>rfl)
   ·exact ⟨b,arr,q01n ..,q01n ..,l3,l4,l5.mono hle⟩
  ·by_cases e:s=t
   ·subst e
    have:getL (setL S.loc s []) s=some ds:=hs
    rw [q05r] at this;cases this
    exact .inl rfl
   ·have:getL (setL S.loc t []) s=some ds:=hs
    rw [q070 _ e] at this
    exact (h1.wok.locs s ds this).frame hle rfl (fun b' hb=>hkeep b' _ hb (by simpa using e)) (fun _ _=>rfl)
  ·have:=h1.wok.noI b' o v hi
   by_cases e:b'=b
   ·subst e;rw [l2] at this;cases this
   ·rw [q01t _ _ e];exact this
  ·by_cases e:b'=b
   ·subst e;exact h1.wok.lt _ _ l2
   ·rw [q01t _ _ e] at hk;exact h1.wok.lt _ _ hk
 ·have hnew:w0.heap.size<=b:=by
   rcases Z2 b w0.heap.size with hlt|hge
   ·obtain ⟨id,e,_⟩:=h3.own b _ l2 hlt;cases e
   ·exact hge
  refine ⟨h2.le.trans hle,h2.size,h2.same,fun b' k hk=> ?_,h2.imms,h2.os,h2.tape,h2.output⟩
  by_cases e:b'=b
  ·subst e;exact .inr hnew
  ·rw [q01t _ _ e] at hk;exact h2.news b' k hk
 ·have hnew:w0.heap.size<=b:=by
   rcases Z2 b w0.heap.size with hlt|hge
   ·obtain ⟨id,e,_⟩:=h3.own b _ l2 hlt;cases e
   ·exact hge
  refine ⟨h3.sz,fun b' k hk hb=> ?_,fun b' k hk hb=> ?_,h3.same⟩
  ·rw [q01t _ _ (by omega)] at hk;exact h3.own b' k hk hb
  ·rw [q01t _ _ (by omega)] at hk;exact h3.old b' k hk hb
theorem InF.esc: ∀(ts:List Nat) {S T:St},InF N w0 G0 own0 S a w->escS S ts=some T->InF N w0 G0 own0 T a w
 |[],S,T,h,he=>by cases he;exact h
 |t::r,S,T,h,he=>by
  simp only [escS] at he
  split at he
  ·rename_i c cs hg;exact InF.esc r (h.esc1 hg) he
  ·cases he
theorem q0ov: ∀(ts:List Nat) {S T:St},escS S ts=some T->Up S T
 |[],S,T,he=>by cases he;exact .refl S
 |t::r,S,T,he=>by
  simp only [escS] at he
  split at he
  ·refine Up.trans ?_ (q0ov r he);exact ⟨rfl,fun _ h=>h⟩
  ·cases he
theorem InF.keep (h:InF N w0 G0 own0 S a w) (ks kl:List Nat):InF N w0 G0 own0 (S.keep ks kl) a w:=by
 obtain ⟨G,own,L,h1,h2,h3,h4⟩:=h
 refine ⟨G,own,L,⟨h1.size,fun t=> ?_,⟨h1.wok.imm,h1.wok.dom,h1.wok.domr,h1.wok.top,h1.wok.obj,fun s cs hs=>h1.wok.locs s cs (q098 _ _ _ _ hs),h1.wok.noI,h1.wok.lt,h1.wok.ilt⟩⟩,h2,⟨h3.sz,h3.own,h3.old,h3.same⟩,h4⟩
 show SRep G L _ (getE (keepE S.env ks) t)
 rw [q0er]
 split
 ·exact h1.slot t
 ·exact VRep.undef _
theorem q0B1 (gs:List GIns): ∀(k:Nat) (S:St),evL cl ((gs.zipIdx k).map fun x=>(x.2,x.1)) S=evOps cl gs S:=by
 induction gs with
 |nil=>intro k S;rfl
 |cons g r ih=>
  intro k S
  simp only [List.zipIdx_cons,Zo,evL,evOps]
  cases evG cl g S with
  |none=>rfl
  |some S1=>exact ih (k+1) S1
theorem q0t1 (hmix:P.follows .mixedOrders=true) {Kg:Gh->Prop} (hcl:ClOK P Kg cl) (hK:Kn Kg G0) (hM:M<=N) {id:Nat} {ops:Array Oper} {draw:Bool} {gs:List GIns} (hgs:okGs P ops M ops.toList gs=true) (hord:(!draw||ordOK ops gs)=true)
  (hi:InF N w0 G0 own0 S a w) (he:evOps cl gs S=some S') {Q:Exit->Act->World->Prop} (hq: ∀a' w',InF N w0 G0 own0 S' a' w'->Q .normal a' w'):(Code.region id ops draw).wpIn (Fw ro) n P Q a w:=by
 obtain ⟨hlen,hget⟩:=q0dp hgs
 simp only [Array.length_toList] at hlen
 cases draw with
 |false=>
  refine wpIn_region ?_
  rw [List.range_eq_range',hlen]
  refine q0sz hcl hK hM gs 0 (fun i g hg=> ?_) hi he hq
  have hlt:i<gs.length:=(Za.1 hg).1
  have hlt':i<ops.size:=by omega
  exact ⟨ops[i],by simp [hlt'],hget i ops[i] g (by simp [hlt']) hg⟩
 |true=>
  refine wpIn_region_any hmix ?_
  have hord':ordOK ops gs=true:=by simpa using hord
  refine q0B0 hcl hK hM hgs hord' ops.size ((gs.zipIdx 0).map fun x=>(x.2,x.1)) _ (by simp [hlen]) (by simp) ?_ ?_ ?_ hi.drew (by rw [q0B1];exact he) (fun S'' a' w' h1 h2=>hq a' w' (h2.eqv h1.symm))
  ·unfold Left
   have e1:(List.range ops.size).filter (fun i=> !(Array.replicate ops.size false).getD i true)=List.range ops.size:=by
    rw [List.filter_eq_self]
    intro i hi'
    have:i<ops.size:=by simpa using hi'
    simp [Zc,this]
   rw [e1,hlen]
   simp [List.map_map,Function.comp_def,List.zipIdx_map_snd,List.range_eq_range']
  ·intro p hp
   obtain ⟨x,hx,rfl⟩:=ZJ.1 hp
   exact List.mk_mem_zipIdx_iff_getElem?.1 hx
  ·intro j o _ hl
   exfalso
   by_cases h:j<ops.size<;>simp [Zc,h] at hl
theorem least {p:Nat->Prop}: ∀ {j:Nat},p j-> ∃i,p i/\ ∀k,p k->i<=k:=by
 intro j
 induction j using Nat.strongRecOn with
 |_ j ih=>
  intro hj
  by_cases h: ∃i,i<j/\p i
  ·obtain ⟨i,h1,h2⟩:=h;exact ih i h1 h2
  ·exact ⟨j,hj,fun k hk=>Nat.le_of_not_lt fun hlt=>h ⟨k,hlt,hk⟩⟩
theorem q0jj {F:Fence} {c:Code} {Q:Exit->Act->World->Prop} (R:Nat->Act->World->Prop) {j:Nat} (h₀:R j a w)
  (round: ∀j a w,R j a w->c.wpIn F n P (Exit.then (fun a' w'=> ∃i,i<j/\R i a' w') Q) a w):(Code.loop c).wpIn F n P Q a w:=by
 classical
 let μ:Act->World->Nat:=fun a w=>if h: ∃j,R j a w then (least (p:=fun j=>R j a w) h.choose_spec).choose else 0
 have hμ: ∀ {a w j},R j a w->R (μ a w) a w/\ ∀k,R k a w->μ a w<=k:=fun {a w j} h=>by
  have hh: ∃j,R j a w:=⟨j,h⟩
  have:=(least (p:=fun j=>R j a w) hh.choose_spec).choose_spec
  simp only [μ,dif_pos hh]
  exact this
 refine wpIn_loop (fun a w=> ∃j,R j a w) μ ⟨j,h₀⟩ fun a w ⟨j,hj⟩=> ?_
 refine wpIn_mono (round _ a w (hμ hj).1) fun e a' w' he=> ?_
 cases e with
 |normal=>
  obtain ⟨i,h1,h2⟩:=he
  exact ⟨⟨i,h2⟩,Nat.lt_of_le_of_lt ((hμ h2).2 i h2) h1⟩
 |_=>exact he
theorem q0nr {b:Frame} {k:List Item} {cs:List Frame} {c:Code}:
  step P (lone (b.atR a (.code (.scope c)::k)) cs w)= .next (lone (b.atR a (.code c:: .inScope c::k)) cs w):=
 step_lone_go (by simp [stepG,stepG.exec,Frame.atR])
theorem q0jk {b:Frame} {k:List Item} {cs:List Frame} {c:Code}:step P (lone (b.atR a (.inScope c::k)) cs w)= .next (lone (b.atR a k) cs w):=
 step_lone_go (by simp [stepG,stepG.exec,Frame.atR])
theorem q0fy {F:Fence} {body:Code} {Q:Exit->Act->World->Prop} (R:Nat->Code->Act->World->Prop) {j:Nat} (h₀:R j body a w)
  (round: ∀j c a w,R j c a w->c.wpIn F n P (fun e a' w'=>match e with
   | .goto l=>(match findLabel body l with|some rest=> ∃i,i<j/\R i rest a' w'|none=>Q (.goto l) a' w')
   |e=>Q e a' w') a w):(Code.scope body).wpIn F n P Q a w:=by
 intro b k cs hro hb hr
 have key: ∀j c a w,R j c a w-> ∃e a' w',Q e a' w'/\ArrivesIn (Machine.fenced P F) P (lone (b.atR a (.code c:: .inScope body::k)) cs w) b k cs e a' w':=by
  intro j
  induction j using Nat.strongRecOn with
  |_ j ih=>
   intro c a w hR
   obtain ⟨e,a₁,w₁,hq,harr⟩:=round j c a w hR b (.inScope body::k) cs hro hb hr
   cases e with
   |normal=>exact ⟨.normal,a₁,w₁,hq,StepsIn.trans harr (.one (fenced_calm hb hr rfl) q0jk)⟩
   |exit id=>
    have hx:exitTo id (.inScope body::k)=exitTo id k:=by simp [exitTo]
    exact ⟨.exit id,a₁,w₁,hq,fun k' hk=>harr.1 k' (by rw [hx];exact hk),fun hr' hk=>let ⟨k₁,h1,h2⟩:=harr.2 hr' (by rw [hx];exact hk);⟨k₁,h1,h2⟩⟩
   |goto l=>
    simp only at hq
    cases hf:findLabel body l with
    |some rest=>
     rw [hf] at hq
     obtain ⟨i,h1,h2⟩:=hq
     obtain ⟨e₂,a₂,w₂,hq₂,harr₂⟩:=ih i h1 rest a₁ w₁ h2
     exact ⟨e₂,a₂,w₂,hq₂,.of_steps (harr.1 _ (by simp [gotoIn,hf])) harr₂⟩
    |none=>
     rw [hf] at hq
     have hx:gotoIn l (.inScope body::k)=gotoIn l k:=by simp [gotoIn,hf]
     exact ⟨.goto l,a₁,w₁,hq,fun k' hk=>harr.1 k' (by rw [hx];exact hk),fun hr' hk=>let ⟨k₁,h1,h2⟩:=harr.2 hr' (by rw [hx];exact hk);⟨k₁,h1,h2⟩⟩
   |ret=>exact ⟨_,a₁,w₁,hq,harr⟩
   |panic ch=>exact ⟨_,a₁,w₁,hq,harr⟩
   |outgrown=>exact ⟨_,a₁,w₁,hq,harr⟩
 obtain ⟨e,a',w',hq,harr⟩:=key j body a w h₀
 exact ⟨e,a',w',hq,.of_steps (.one (fenced_calm hb hr rfl) q0nr) harr⟩
theorem okC_label {M:Nat}: ∀ {x:IC} {c:Code} {l:Nat} {r:IC},okC P M c x=true->q019 x l=some r-> ∃rest,findLabel c l=some rest/\okC P M rest r=true
 | .prep _ x,c,l,r,h,hf=>okC_label (x:=x) (by simpa only [okC] using h) (by simpa only [q019] using hf)
 | .esc _ x,c,l,r,h,hf=>okC_label (x:=x) (by simpa only [okC] using h) (by simpa only [q019] using hf)
 | .rsv _ x,c,l,r,h,hf=>okC_label (x:=x) (by simpa only [okC] using h) (by simpa only [q019] using hf)
 | .seq x y,c,l,r,h,hf=>by
   cases c<;>simp only [okC,Zh] at h
   rename_i a b
   simp only [Zb] at h
   simp only [q019] at hf
   cases hx:q019 x l with
   |some r1=>
    rw [hx] at hf;cases hf
    obtain ⟨rest,k1,k2⟩:=okC_label h.1 hx
    exact ⟨.seq rest b,by simp [findLabel,k1],by simp [okC,k2,h.2]⟩
   |none=>
    rw [hx] at hf
    have hn:findLabel a l=none:=by
     cases hfa:findLabel a l with
     |none=>rfl
     |some z=>obtain ⟨r',hr'⟩:=okC_nolabel h.1 hfa;rw [hx] at hr';cases hr'
    obtain ⟨rest,k1,k2⟩:=okC_label h.2 hf
    exact ⟨rest,by simp [findLabel,hn,k1],k2⟩
 | .label l',c,l,r,h,hf=>by
   cases c<;>simp only [okC,Zh,beq_iff_eq] at h
   subst h
   simp only [q019] at hf
   split at hf
   ·rename_i e;subst e;cases hf;exact ⟨.skip,by simp [findLabel],rfl⟩
   ·cases hf
 | .skip,_,_,_,_,hf| .reg ..,_,_,_,_,hf| .cond ..,_,_,_,_,hf| .block ..,_,_,_,_,hf| .loop ..,_,_,_,_,hf| .exit _,_,_,_,_,hf| .ret,_,_,_,_,hf| .scope _,_,_,_,_,hf| .scopeR ..,_,_,_,_,hf| .goto _,_,_,_,_,hf| .rangeFunc ..,_,_,_,_,hf=>by simp [q019] at hf
where
 okC_nolabel {M:Nat}: ∀ {x:IC} {c:Code} {l:Nat} {z:Code},okC P M c x=true->findLabel c l=some z-> ∃r,q019 x l=some r
 | .prep _ x,c,l,z,h,hf=>by
   obtain ⟨r,hr⟩:=okC_nolabel (x:=x) (by simpa only [okC] using h) hf
   exact ⟨r,by simpa only [q019] using hr⟩
 | .esc _ x,c,l,z,h,hf=>by
   obtain ⟨r,hr⟩:=okC_nolabel (x:=x) (by simpa only [okC] using h) hf
   exact ⟨r,by simpa only [q019] using hr⟩
 | .rsv _ x,c,l,z,h,hf=>by
   obtain ⟨r,hr⟩:=okC_nolabel (x:=x) (by simpa only [okC] using h) hf
   exact ⟨r,by simpa only [q019] using hr⟩
 | .seq x y,c,l,z,h,hf=>by
   cases c<;>simp only [okC,Zh] at h
   rename_i a b
   simp only [Zb] at h
   simp only [findLabel] at hf
   simp only [q019]
   cases hx:q019 x l with
   |some r1=>exact ⟨_,rfl⟩
   |none=>
    cases hfa:findLabel a l with
    |some q=>obtain ⟨r',hr'⟩:=okC_nolabel h.1 hfa;rw [hx] at hr';cases hr'
    |none=>rw [hfa] at hf;exact okC_nolabel h.2 hf
 | .label l',c,l,z,h,hf=>by
   cases c<;>simp only [okC,Zh,beq_iff_eq] at h
   subst h
   simp only [findLabel,beq_iff_eq] at hf
   simp only [q019]
   split at hf
   ·rename_i e;rw [if_pos e];exact ⟨_,rfl⟩
   ·cases hf
 | .skip,c,_,_,h,hf| .reg ..,c,_,_,h,hf| .cond ..,c,_,_,h,hf| .block ..,c,_,_,h,hf| .loop ..,c,_,_,h,hf| .exit _,c,_,_,h,hf| .ret,c,_,_,h,hf| .scope _,c,_,_,h,hf| .scopeR ..,c,_,_,h,hf| .goto _,c,_,_,h,hf| .rangeFunc ..,c,_,_,h,hf=>by
   cases c<;>simp only [okC,Zh] at h<;>simp [findLabel] at hf
theorem q042: ∀ {x:IC} {l:Nat} {r:IC},x.flat=true->q019 x l=some r->r.flat=true
 | .prep _ x,l,r,h,hf=>q042 (x:=x) (by simpa only [IC.flat] using h) (by simpa only [q019] using hf)
 | .esc _ x,l,r,h,hf=>q042 (x:=x) (by simpa only [IC.flat] using h) (by simpa only [q019] using hf)
 | .rsv _ x,l,r,h,hf=>q042 (x:=x) (by simpa only [IC.flat] using h) (by simpa only [q019] using hf)
 | .seq x y,l,r,h,hf=>by
   simp only [IC.flat,Zb] at h
   simp only [q019] at hf
   cases hx:q019 x l with
   |some r1=>rw [hx] at hf;cases hf;simp only [IC.flat,Zb];exact ⟨q042 h.1 hx,h.2⟩
   |none=>rw [hx] at hf;exact q042 h.2 hf
 | .label l',l,r,h,hf=>by
   simp only [q019] at hf
   split at hf
   ·cases hf;rfl
   ·cases hf
 | .skip,_,_,_,hf| .reg ..,_,_,_,hf| .cond ..,_,_,_,hf| .block ..,_,_,_,hf| .loop ..,_,_,_,hf| .exit _,_,_,_,hf| .ret,_,_,_,hf| .scope _,_,_,_,hf| .scopeR ..,_,_,_,hf| .goto _,_,_,_,hf| .rangeFunc ..,_,_,_,hf=>by simp [q019] at hf
theorem Sim.defers {G:Gh} {own:Own} {L:Nat->Option Nat} (h:Sim N G own L S a w) (ds:List Deferred):Sim N G own L S {a with defers:=ds} w:=⟨h.size,h.slot,h.wok⟩
theorem InF.loop (hi:InF N w0 G0 own0 S a w) {id:Nat} {st:LSt} {env:List (Nat×V)} {ps:List Nat} {ia ib:IC} (hid:S.hp[id]? =some (.loop st env ps ia ib)):
  ∃l r,(∀l0,G0.blk id=some l0->l0=l)/\w.heap[l]? =some (.loop r)/\LStOK r st/\ ∀st' (s':LoopState) (pd:Option Code),LStOK {r with state:=s',pending:=pd} st'->
   InF N w0 G0 own0 {S with hp:=S.hp.set id (.loop st' env ps ia ib),dirty:=addD S.base id S.dirty} a (w.putObj l (.loop {r with state:=s',pending:=pd})):=by
 obtain ⟨G,own,L,h1,h2,h3,h4⟩:=hi
 obtain ⟨l,r,k1,k2,k3,k4⟩:=h1.wok.obj id _ hid
 refine ⟨l,r,fun l0 h0=> ?_,k3,k4.1,fun st' s' pd hst=> ?_⟩
 ·have:=h2.le.blk _ _ h0;rw [k1] at this;exact (Option.some.inj this).symm
 ·have hlt:l<w.heap.size:=(ZN.1 k3).1
  have hfoot:Foot G own w G own (w.putObj l (.loop {r with state:=s',pending:=pd})):= .putO k2 _
  have hres:Res N G own w a.defers {S with hp:=S.hp.set id (.loop st' env ps ia ib),dirty:=addD S.base id S.dirty} a (w.putObj l (.loop {r with state:=s',pending:=pd})):=by
   refine ⟨G,own,L,h1.change (.refl G) rfl (fun _ _ _ _=>rfl) (h1.wok.putO k2 _ _ (fun _ _ hh=>by cases hh) ?_),hfoot,rfl,Kp.putO k2 (fun i hi hlt=>by cases hi;exact q02w.2 (.inl ⟨rfl,hlt⟩)) _⟩
   exact ⟨l,_,k1,k2,World.putObj_heap_same hlt,hst,k4.2⟩
  obtain ⟨G',own',L',q1,q2,q3,q4⟩:=h3.step (S':= {S with hp:=S.hp.set id (.loop st' env ps ia ib),dirty:=addD S.base id S.dirty}) ⟨rfl,fun x hx=>q02w.2 (.inr hx)⟩ hres
  exact ⟨G',own',L',q1,h2.trans q2,q3,h4.foot q2⟩
theorem InF.unmark (hi:InF N w0 G0 own0 S a w) {d:Deferred} {ds:List Deferred} (hd:a.defers=d::ds):
  ∃b,d.target= .collected b/\w.heap[b]? =some (.deferred (some []))/\InF N w0 G0 own0 S {a with defers:=ds} (w.putObj b (.deferred none)):=by
 obtain ⟨G,own,L,h1,h2,h3,h4⟩:=hi
 rw [hd] at h4
 obtain ⟨b,rfl,k1,k2,k3⟩:=h4.all d ZE
 have hlt:b<w.heap.size:=(ZN.1 k3).1
 have hI: ∀o v,¬G.I b o v:=fun o v hv=>by
  have:=h1.wok.imm b o v hv
  unfold World.cell? at this
  simp only [k3] at this
  cases this
 have hfoot: ∀b',b'≠b->(w.putObj b (.deferred none)).heap[b']? =w.heap[b']? :=fun b' hb'=>World.putObj_heap_other hb'
 have hne: ∀b' k,own b'=some k->b'≠b:=fun b' k hk e=>by subst e;rw [k2] at hk;cases hk
 refine ⟨b,rfl,k3,G,own,L,⟨h1.size,h1.slot,?_⟩,?_,?_,?_⟩
 ·exact {
   imm:=fun b' o v hv=>by rw [q030 (hfoot b' (fun e=>by subst e;exact hI o v hv))];exact h1.wok.imm b' o v hv
   dom:=h1.wok.dom
   domr:=h1.wok.domr
   top:=h1.wok.top
   obj:=fun i o ho=>(h1.wok.obj i o ho).frame (.refl G) (fun _ x=>x) (fun b' hb'=>hfoot b' (hne b' _ hb'))
   locs:=fun s cs hs=>(h1.wok.locs s cs hs).frame (.refl G) rfl (fun _ x=>x) (fun b' hb'=>hfoot b' (hne b' _ hb'))
   noI:=h1.wok.noI
   lt:=fun b' k hk=>by rw [World.size_putObj];exact h1.wok.lt b' k hk
   ilt:=fun b' o v hv=>by rw [World.size_putObj];exact h1.wok.ilt b' o v hv}
 ·exact ⟨h2.le,by rw [World.size_putObj];exact h2.size,fun b' hb' ho=>by rw [hfoot b' (by omega)];exact h2.same b' hb' ho,h2.news,h2.imms,h2.os,h2.tape,h2.output⟩
 ·exact ⟨by rw [World.size_putObj];exact h3.sz,h3.own,h3.old,fun b' hb' ho=>by rw [hfoot b' (by omega)];exact h3.same b' hb' ho⟩
 ·refine ⟨fun d' hd'=> ?_,(ZW.1 h4.nodup).2⟩
  obtain ⟨b',q1,q2,q3,q4⟩:=h4.all d' (Zv _ hd')
  have hbb:b'≠b:=fun e=>by
   have:=(ZW.1 h4.nodup).1 d' hd'
   rw [q1,e] at this
   exact this rfl
  exact ⟨b',q1,q2,q3,by rw [hfoot b' hbb];exact q4⟩
theorem q0et {S:St} {r:CR} {ex:Ex} {S':St} {env:List (Nat×V)} {ps:List Nat} {a b:IC} (h:q03a S (some r)=some (ex,S')):
  ∃st env' ps' a' b',(q088 (S.hp++[DObj.loop .ready env ps a b]) r.2)[S.hp.length]? =some (.loop st env' ps' a' b')/\((st= .ready/\ex= .normal)\/st= .done ex)/\
   S'= {S with hp:=(q088 (S.hp++[DObj.loop .ready env ps a b]) r.2).set S.hp.length .dead,dirty:=(wrote r.2).foldr (addD S.base) S.dirty}:=by
 obtain ⟨v,Hr⟩:=r
 cases Hr with
 |none=>
  simp only [q03a] at h
  cases h
  exact ⟨.ready,env,ps,a,b,by simp [q088],.inl ⟨rfl,rfl⟩,by simp [q088,wrote]⟩
 |some p=>
  obtain ⟨H,ds⟩:=p
  simp only [q03a] at h
  unfold q0a7 at h
  split at h
  ·rename_i hh;cases h;exact ⟨.ready,_,_,_,_,hh,.inl ⟨rfl,rfl⟩,rfl⟩
  ·rename_i hh;cases h;exact ⟨_,_,_,_,_,hh,.inr rfl,rfl⟩
  ·cases h
theorem q0eu {cl:ClT} {S:St} {ps:List Nat} {a b:IC} {x:V} {q:Ex×St} (h:q03b cl S ps a b x=some q):
  (∀id,x≠ .yld id)/\(∀s o,x≠ .lptr s o)/\ ∃r,cl x [.yld S.hp.length] (S.hp++[DObj.loop .ready (outE S.env) ps a b])=some r/\q03a S (some r)=some q:=by
 unfold q03b at h
 split at h
 ·obtain ⟨r,hr⟩:=q03z h;rw [hr] at h;exact ⟨by simp,by simp,r,hr,h⟩
 ·obtain ⟨r,hr⟩:=q03z h;rw [hr] at h;exact ⟨by simp,by simp,r,hr,h⟩
 ·cases h
theorem q0ht {cl:ClT} {S S':St} {ps:List Nat} {a b:IC} {x:V} {ex:Ex} (h:q03b cl S ps a b x=some (ex,S')):Up S S':=by
 obtain ⟨-,-,r,-,hr⟩:=q0eu h
 obtain ⟨_,_,_,_,_,-,-,rfl⟩:=q0et (env:=[]) (ps:=[]) (a:= .skip) (b:= .skip) hr
 exact ⟨rfl,fun _ h=>q04y.2 (.inr h)⟩
theorem q0wn {G:Gh} {L:Nat->Option Nat} {f:Nat->Value}: ∀(e:List (Nat×V)),(∀t,SRep G L (f t) (getE e t))-> ∀t,VRep G (f t) (getE (outE e) t):=by
 have key: ∀(e:List (Nat×V)) (t:Nat),getE (outE e) t=outL (getE e t):=by
  intro e t
  induction e with
  |nil=>rfl
  |cons p r ih=>
   obtain ⟨k,v⟩:=p
   simp only [outE,q02c]
   split
   ·rfl
   ·exact ih
 intro e h t
 rw [key]
 have:=h t
 cases hx:getE e t with
 |lptr s o=>exact .undef _
 |_=>rw [hx] at this;exact this
theorem q0wo {X:Gh->Prop} {ex:Ex} (hcl:ClOK P (KP P X) cl) (hK:Kn (KP P X) G0) (hM:M<=N) {f:Operand} {ps:Array Tmp} {ca cb:Code} {x:Arg} {ps':List Nat} {ia ib:IC}
  (hx:okArg f x=true) (hps:ps.toList=ps') (hpM:ps'.all (fun p=>decide (p<M))=true) (ha:okC P M ca ia=true) (hb:okC P M cb ib=true) (fa:ia.flat=true) (fb:ib.flat=true)
  (hi:InF N w0 G0 own0 S a w) (he:q03b cl S ps' ia ib (S.arg x)=some (ex,S')) {Q:Exit->Act->World->Prop} (hq: ∀a' w',InF N w0 G0 own0 S' a' w'->Q (exOf ex) a' w'):
  (Code.rangeFunc f ps ca cb).wpIn (Fw none) n P Q a w:=by
 have hup:=q0ht he
 obtain ⟨hny,hnl,r,hr,hk⟩:=q0eu he
 obtain ⟨G,own,L,h1,h2,h3,h4⟩:=hi
 refine wpIn_rangeFunc fun fn _=> ?_
 let D:World:=w.alloc (.deferred (some []))
 let rec0:Loop:= {state:= .ready,pending:=none,fn:=fn,tmps:=a.tmps,params:=ps,assign:=ca,body:=cb,defers:=w.heap.size}
 let w1:World:=D.alloc (.loop rec0)
 let mark:Deferred:= {target:= .collected w.heap.size,args:= #[]}
 have hDs:D.heap.size=w.heap.size+1:=by simp [D]
 have hw1s:w1.heap.size=w.heap.size+2:=by simp [w1,hDs]
 have hnew:=h1.wok.blk_new
 have hle:G.Le (G.withBox S.hp.length D.heap.size):=Gh.le_withBox hnew
 have hKG:Kn (KP P X) G:=hK.le h2.le
 have hC:G.C=cOK P:=hKG.here.1
 have fD:Foot G own w G own D:= .alloc _
 have wokD:WOK G own S.hp L S.loc D:=h1.wok.alloc _
 have wok1:WOK (G.withBox S.hp.length D.heap.size) (upd own D.heap.size (.obj S.hp.length)) (S.hp++[DObj.loop .ready (outE S.env) ps' ia ib]) L S.loc w1:=by
  refine wokD.newObjO (.loop .ready (outE S.env) ps' ia ib) _ _ hle rfl ?_ ?_ ?_ ?_ ?_
  ·intro i b hi
   simp only [Gh.withBox] at hi
   by_cases e:i=S.hp.length
   ·omega
   ·rw [q01t _ _ e] at hi;have:=h1.wok.dom i b hi;omega
  ·intro i t r hi;have:=h1.wok.domr i t r hi;omega
  ·intro i t r _ hr;exact hr
  ·intro s es hh;cases hh
  ·refine ⟨D.heap.size,rec0,q01n ..,q01n ..,heap_alloc_new D _,⟨rfl,rfl⟩,hps,fun p hp=> ?_,fun t=> ?_,?_,?_⟩
   ·have:=of_decide_eq_true (Zn.1 hpM p hp)
    show p<a.tmps.size
    rw [h1.size];omega
   ·exact (q0wn S.env h1.slot t).mono hle
   ·show G.C ca ia a.tmps.size
    rw [hC,h1.size];exact ⟨M,hM,ha,fa⟩
   ·show G.C cb ib a.tmps.size
    rw [hC,h1.size];exact ⟨M,hM,hb,fb⟩
 have foot1:Foot G own w (G.withBox S.hp.length D.heap.size) (upd own D.heap.size (.obj S.hp.length)) w1:=fD.trans (.newOwnO _ _ _ hle rfl)
 have hfv:VRep G (a.eval f) (S.arg x):=(q008 h1 hx).vrep hnl
 have hlen:(S.hp++[DObj.loop .ready (outE S.env) ps' ia ib]).length=S.hp.length+1:=by simp
 have hown1: ∀b,b<w.heap.size->upd own D.heap.size (.obj S.hp.length) b=own b:=fun b hb=>q01t _ _ (by omega)
 rcases hcl.2 _ _ _ r hr (G.withBox S.hp.length D.heap.size) (q01x (upd own D.heap.size (.obj S.hp.length)) (S.hp++[DObj.loop .ready (outE S.env) ps' ia ib]).length) w1 (a.eval f) #[.func (.yield D.heap.size) #[] #[]]
  (hKG.le hle) (hfv.mono hle) rfl (fun j hj=>by
   have:j=0:=by simpa using hj
   subst this
   exact .yld _ _ (q01n ..)) wok1.forCall (fun b k hk=>let ⟨id,h1,h2,_⟩:=q02j hk;⟨id,h1,h2⟩) with ⟨g,first,cap,hf,hcf,hcr⟩|⟨id,l,g,tmps,assign,body,hy,-⟩
 rotate_left
 ·exact absurd hy (hny id)
 refine ⟨D.heap.size,[mark],w1,{target:= .fn (.func g) cap,args:=first++ #[.func (.yield D.heap.size) #[] #[]]},w1,g,first++ #[.func (.yield D.heap.size) #[] #[]]++cap,w1,?_,?_,fun _ _=>trivial,?_,fun hh=>(by cases hh),?_⟩
 ·have:=run_enterLoop_outer (P:=P) (w:=w) fn a.tmps ps ca cb
  rw [show (Fw none).round=none from rfl,this]
  simp [w1,D,rec0,mark]
 ·have hm:(#[.const (.func (.yield D.heap.size) #[] #[])]:Array Operand).map a.eval= #[.func (.yield D.heap.size) #[] #[]]:=by simp [Act.eval]
  simp only [resolve,hm,hf,Deferred.ofValue,Sem.run_pure]
 ·simp [invoke,hcf]
 ·refine CallsIn.mono (hcr (n-1)) ?_
  rintro e w' ⟨val,rfl,hsame,G',own',hfoot,hval,hwok⟩
  obtain ⟨st,env',qs,ia',ib',s1,s2,s3⟩:=q0et (env:=outE S.env) (ps:=ps') (a:=ia) (b:=ib) hk
  have wok2:=wok1.fromCall hfoot hwok
  have foot2:=hfoot.fromCall
  obtain ⟨l,rc,k1,k2,k3,k4⟩:=wok2.obj _ _ s1
  have hl:l=D.heap.size:=by
   have:G'.blk S.hp.length=some D.heap.size:=hfoot.le.blk _ _ (q01n ..)
   rw [this] at k1;exact (Option.some.inj k1).symm
  subst hl
  have hst:rc.state≠ .busy/\rc.pending=jumpC ex:=by
   have:=k4.1
   rcases s2 with ⟨rfl,rfl⟩|rfl
   ·exact ⟨by rw [this.1];decide,this.2⟩
   ·exact ⟨by rw [this.1];decide,this.2.1⟩
  have hend:=run_endLoop (P:=P) k3 hst.1
  have foot3:Foot G' (q027 (upd own D.heap.size (.obj S.hp.length)) own') w' G' (q027 (upd own D.heap.size (.obj S.hp.length)) own') (w'.putObj D.heap.size (.loop {rc with state:= .exhausted})):= .putO k2 _
  have hin:InF N w0 G0 own0 S' {a with defers:=[mark]++a.defers} (w'.putObj D.heap.size (.loop {rc with state:= .exhausted})):=by
   have hsim:Sim N G' (q027 (upd own D.heap.size (.obj S.hp.length)) own') L S' a (w'.putObj D.heap.size (.loop {rc with state:= .exhausted})):=by
    rw [s3]
    exact h1.change (hle.trans hfoot.le) rfl (fun _ _ _ _=>rfl) (wok2.putO k2 _ .dead (fun _ _ hh=>by cases hh) trivial)
   have hkp:Kp S'.base S'.dirty own w (w'.putObj D.heap.size (.loop {rc with state:= .exhausted})):=by
    intro b hb hbo
    have e1:w1.heap[b]? =w.heap[b]? :=by
     rw [show w1.heap[b]? =D.heap[b]? from q01c D _ b (by omega)]
     exact q01c w _ b hb
    rw [World.putObj_heap_other (by omega),hsame b (by omega) (fun k hk=> ?_),e1]
    obtain ⟨id,rfl,h5,h6⟩:=q02j hk
    rw [hown1 b hb] at h6
    obtain ⟨id',e2,h7,h8⟩:=hbo _ h6
    cases e2
    refine ⟨id,rfl,fun hm=>h8 ?_⟩
    rw [s3]
    rw [s3] at h7
    exact q04y.2 (.inl ⟨hm,h7⟩)
   have m1:Marks w0 (upd own D.heap.size (.obj S.hp.length)) w1 ([mark]++a.defers):=by
    have old:=h4.foot foot1
    have hw0:=h3.sz
    have ho:own w.heap.size=none:=h1.wok.own_new _ (Zm _)
    have hh:w1.heap[w.heap.size]? =some (.deferred (some [])):=by
     rw [show w1.heap[w.heap.size]? =D.heap[w.heap.size]? from q01c D _ _ (by omega)]
     exact heap_alloc_new w _
    refine ⟨fun d hd=> ?_,ZW.2 ⟨fun d hd hh'=> ?_,old.nodup⟩⟩
    ·rcases ZI.1 hd with rfl|hd
     ·exact ⟨w.heap.size,rfl,hw0,by rw [q01t _ _ (by omega)];exact ho,hh⟩
     ·exact old.all d hd
    ·obtain ⟨b',z1,z2,z3,z4⟩:=h4.all d hd
     rw [z1] at hh'
     have:w.heap.size=b':=by injection hh'
     have hlt:b'<w.heap.size:=(ZN.1 z4).1
     omega
   refine ⟨G',_,L,hsim.defers _,h2.trans ((foot1.trans foot2).trans foot3),?_,(m1.foot foot2).foot foot3⟩
   exact Fr.of_res h3 hup hsim ((foot1.trans foot2).trans foot3) hkp
  refine ⟨rc.pending,_,hend,?_⟩
  generalize hW:w'.putObj D.heap.size (.loop {rc with state:= .exhausted})=W at hin
  rw [hst.2]
  cases ex with
  |normal=>exact hq _ _ hin
  |ret=>exact wpIn_ret (hq _ _ hin)
  |exit id=>exact wpIn_exit (hq _ _ hin)
  |goto l=>exact wpIn_goto (hq _ _ hin)
structure EnvOKX (P:Program) (X:Gh->Prop) (E:Env):Prop where
 mix:P.follows .mixedOrders=true
 still: ∀G:Gh,Kn X G->Kn X G.still
 fns: ∀f fn,E.fns f=some fn-> ∃func c,P.funcs[f]? =some func/\(func.name== "runtime.NumGoroutine")=false/\func.body=some c/\okC P func.ntmps c fn.body=true/\okRs P func.results.toList fn.results=true
 prims: ∀f g,E.prims f=some g-> ∀vs H r,g vs H=some r-> ∀(G:Gh) (own:Own) (w:World) (args:Array Value),Kn (KP P X) G->args.size=vs.length->(∀j (hj:j<vs.length),VRep G (args.getD j undef) (vs[j]))->
  WOK G own H (fun _=>none) [] w->(∀b k,own b=some k-> ∃id,k= .obj id/\id<H.length)->(∀xs w1,(callFunc f xs).run P w1= .ok (.enter f xs) w1)/\CallR P w G own H r f args
abbrev EnvOK (P:Program) (E:Env):Prop:=EnvOKX P (fun _=>True) E
def FnOK (P:Program) (f:FuncId) (fn:IFn):Prop:= ∃func c,P.funcs[f]? =some func/\(func.name== "runtime.NumGoroutine")=false/\func.body=some c/\okC P func.ntmps c fn.body=true/\okRs P func.results.toList fn.results=true
def chk1 (P:Program) (p:Nat×IFn):Bool:=match P.funcs[p.1]? with
 |some func=>(func.name== "runtime.NumGoroutine")==false&&match func.body with
  |some c=>okC P func.ntmps c p.2.body&&okRs P func.results.toList p.2.results
  |none=>false
 |none=>false
theorem q16h {P:Program} {p:Nat×IFn} (h:chk1 P p=true):FnOK P p.1 p.2:=by
 unfold chk1 at h
 split at h
 ·rename_i func hf
  simp only [Zb] at h
  obtain ⟨h1,h2⟩:=h
  split at h2
  ·rename_i c hc
   simp only [Zb] at h2
   exact ⟨func,c,hf,by simpa using h1,hc,h2.1,h2.2⟩
  ·cases h2
 ·cases h
theorem q16f {P:Program} {l:List (Nat×IFn)} (h:l.all (chk1 P)=true): ∀p∈l,FnOK P p.1 p.2:=fun p hp=>q16h (Zn.1 h p hp)
theorem q16g {P:Program} {a b:List (Nat×IFn)} (h1: ∀p∈a,FnOK P p.1 p.2) (h2: ∀p∈b,FnOK P p.1 p.2): ∀p∈a++b,FnOK P p.1 p.2:=fun p hp=>(ZY.1 hp).elim (h1 p) (h2 p)
theorem q0hu {P:Program} {tab:List (Nat×IFn)} (h: ∀p∈tab,FnOK P p.1 p.2) {f:FuncId} {fn:IFn} (hf:(tab.find? fun p=>p.1==f).map (·.2)=some fn):FnOK P f fn:=by
 cases hx:tab.find? fun p=>p.1==f with
 |none=>rw [hx] at hf;cases hf
 |some p=>
  rw [hx] at hf
  cases hf
  have h1:=List.find?_some hx
  have h2:=List.mem_of_find?_eq_some hx
  have:=h p h2
  have e:p.1=f:=by simpa using h1
  rw [e] at this
  exact this
theorem q0ku: ∀(vs:List V) (k t:Nat),getE (q000 k vs) t=if h:k<=t/\t-k<vs.length then vs[t-k]'h.2 else .undef
 |[],k,t=>by simp [q000]
 |v::r,k,t=>by
  simp only [q000,q02c,beq_iff_eq]
  by_cases h:k=t
  ·subst h;simp
  ·rw [if_neg h,q0ku r (k+1) t]
   by_cases h1:k+1<=t/\t-(k+1)<r.length
   ·have h2:k<=t/\t-k<(v::r).length:=by simp;omega
    rw [dif_pos h1,dif_pos h2]
    have e:t-k=(t-(k+1))+1:=by omega
    simp only [e,List.getElem_cons_succ]
   ·have h2: ¬(k<=t/\t-k<(v::r).length):=by simp;omega
    rw [dif_neg h1,dif_neg h2]
theorem q0t2 {func:Func} {H:Heap} {th:Bool} {rs:List RV} {r:CR} (hrs:okRs P func.results.toList rs=true) (hf:q045 th rs S=some r) (hi:InF N w0 G0 own0 S a w) (hbase:S.base=H.length)
  (h0:WOK G0 own0 H (fun _=>none) [] w0) (ho0: ∀b k,own0 b=some k-> ∃id,k= .obj id/\id<H.length):
  ∃v,(results func a.tmps).run P w= .ok v w/\(∀b,b<w0.heap.size->(∀k,own0 b=some k-> ∃id,k= .obj id/\id∉wrote r.2)->w.heap[b]? =w0.heap[b]?)/\
   ∃G' own',Foot G0 own0 w0 G' own' w/\VRep G' v r.1/\WOK G' own' (q088 H r.2) (fun _=>none) [] w:=by
 obtain ⟨G,own,L,h1,h2,h3,h4⟩:=hi
 cases hx:resVs th S rs with
 |none=>simp [q045,hx] at hf
 |some xs=>
  obtain ⟨ids,hids0⟩: ∃ids,ids=if th=true then [] else q02e S rs:=⟨_,rfl⟩
  have hr:outR {S with hp:=bury S.hp ids} (oneOr xs)=r:=by rw [hids0];simpa [q045,hx,q0a6] using hf
  obtain ⟨us,u1,u2,u3⟩:=q080 (ids:=ids) h1 hrs hx (fun ht i hi=>by rw [hids0,ht];simpa using hi)
  refine ⟨_,q0nq u1,?_⟩
  have hids: ∀i∈ids,S.base<=i:=by
   have one: ∀(d:Nat) (v:V),∀i∈q00w S.base S.hp d v,S.base<=i:=by
    intro d
    induction d with
    |zero=>intro v i hi;cases v<;>simp [q00w] at hi
    |succ d ih=>
     intro v i hi
     cases v with
     |row id tot off len=>
      simp only [q00w] at hi
      split at hi
      ·rename_i hb
       rcases ZI.1 hi with rfl|hi
       ·exact hb
       ·obtain ⟨e,-,he⟩:=ZQ.1 hi
        obtain ⟨u,-,hu⟩:=ZQ.1 he
        exact ih u i hu
      ·cases hi
     |_=>simp [q00w] at hi
   have two: ∀(v:V),∀i∈q01d S v,S.base<=i:=fun v i hi=>by
    cases v with
    |agg cs=>obtain ⟨u,-,hu⟩:=ZQ.1 hi;exact one _ u i hu
    |_=>simp only [q01d] at hi;exact one _ _ i hi
   have all: ∀(rs:List RV),∀i∈q02e S rs,S.base<=i:=by
    intro rs
    induction rs with
    |nil=>intro i hi;simp [q02e] at hi
    |cons q rest ih=>
     intro i hi
     cases q with
     |tmp t=>
      simp only [q02e,ZY] at hi
      rcases hi with hi|hi
      ·exact two _ i hi
      ·exact ih i hi
     |cell a' m agg=>
      simp only [q02e,ZY] at hi
      rcases hi with hi|hi
      ·split at hi
       ·exact two _ i hi
       ·simp at hi
      ·exact ih i hi
   intro i hi
   rw [hids0] at hi
   split at hi
   ·cases hi
   ·exact all rs i hi
  have hval:VRep (G.bury own w ids) (q0ks us) (oneOr xs):=by
   match us,xs,u2,u3 with
   |[],[],_,_=>exact .tup _ _ rfl fun j hj=>absurd hj (Zz _)
   |[u],[x],_,u3=>exact u3 0 (by simp)
   |u::v::r,x::y::s,u2,u3=>
    refine .tup _ _ (by simpa using u2) fun j hj=> ?_
    have:=u3 j hj
    simpa [Zc,ZB] using this
   |[],_::_,u2,_=>simp at u2
   |_::_,[],u2,_=>simp at u2
   |[_],_::_::_,u2,_=>simp at u2
   |_::_::_,[_],u2,_=>simp at u2
  have hwok:=h1.wok.bury ids
  have himms: ∀b o v,(G.bury own w ids).I b o v->G0.I b o v\/w0.heap.size<=b:=by
   intro b o v hb
   rcases hb with hb|⟨⟨id,hid,ho⟩,_⟩
   ·exact h2.imms b o v hb
   ·by_cases hlt:b<w0.heap.size
    ·obtain ⟨id',e1,e2⟩:=h3.own b _ ho hlt
     cases e1
     have:=hids id hid
     omega
    ·exact .inr (by omega)
  have hle:G0.Le (G.bury own w ids):=h2.le.trans (G.le_bury own w _)
  by_cases hc:(oneOr xs).plainR=true/\S.dirty=[]
  ·have hr':r=(oneOr xs,none):=by rw [<-hr];simp [outR,hc]
   subst hr'
   have same: ∀b,b<w0.heap.size->w.heap[b]? =w0.heap[b]? :=fun b hb=>h3.same b hb fun k hk=>let ⟨id,h5,_⟩:=ho0 b k hk;⟨id,h5,by rw [hc.2];simp⟩
   refine ⟨fun b hb _=>same b hb,{G0 with I:=(G.bury own w ids).I},own0,⟨⟨hle.I,fun _ _ h=>h,fun _ _ _ h=>h,rfl⟩,h3.sz,fun b hb _=>same b hb,fun _ _ h=> .inl h,himms,h2.os,h2.tape,h2.output⟩,q0t0 hval hc.1 (fun _ _ _ h=>h),?_⟩
   exact (h0.frame h3.sz same).moreI hle.I hwok.imm (fun b o v hb=>by
    rcases himms b o v hb with h5|h5
    ·exact h0.noI b o v h5
    ·cases ho:own0 b with
     |none=>rfl
     |some k=>have:=h0.lt b k ho;omega) hwok.ilt
  ·have hr':r=(oneOr xs,some (bury S.hp ids,S.dirty)):=by
    rw [<-hr]
    unfold outR
    rw [if_neg hc]
   subst hr'
   exact ⟨h3.same,G.bury own w ids,q03g own ids,⟨hle,h2.size,h2.same,fun b k hk=>h2.news b k (q075 hk),himms,h2.os,h2.tape,h2.output⟩,hval,hwok⟩
end
section
variable {n:Nat} {P:Program} {N:Nat} {S:St} {w0:World} {G0:Gh} {own0:Own}
theorem q0kv {F:Fence} {func:Func} {H:Heap} {th:Bool} {rs:List RV} {r:CR} (hrs:okRs P func.results.toList rs=true) (hf:q045 th rs S=some r) (hbase:S.base=H.length)
  (h0:WOK G0 own0 H (fun _=>none) [] w0) (ho0: ∀b k,own0 b=some k-> ∃id,k= .obj id/\id<H.length): ∀(ds:List Deferred) (a:Act) (w:World),a.defers=ds->InF N w0 G0 own0 S a w->
  LeavesInM F n P func a.tmps (CallP w0 G0 own0 H r) ds .returning w
 |[],a,w,hd,hi=>by
  obtain ⟨v,f2,f3,f4⟩:=q0t2 hrs hf hi hbase h0 ho0
  simp only [LeavesInM,LeavesIn]
  exact ⟨v,f2,v,rfl,f3,f4⟩
 |d::ds,a,w,hd,hi=>by
  obtain ⟨b,h1,h2,h3⟩:=hi.unmark hd
  refine ⟨by simp,.inl ⟨b,_,h1,run_takeDeferred h2,?_⟩⟩
  exact q0kv hrs hf hbase h0 ho0 ds {a with defers:=ds} _ rfl h3
end
theorem q07n {P:Program} {f:FuncId} {fn:Func} {c:Code} (hf:P.funcs[f]? =some fn) (hname:(fn.name== "runtime.NumGoroutine")=false) (hb:fn.body=some c) (args:Array Value) (w:World):
  (callFunc f args).run P w= .ok (.enter f args) w:=by
 have hn: ¬fn.name= "runtime.NumGoroutine" :=by simpa using hname
 simp [callFunc,hf,hn,hb]
theorem q0kw {cl:ClT}: ∀ {gs:List GIns} {S S':St},evOps cl gs S=some S'->Up S S'
 |[],S,S',h=>by cases h;exact .refl S
 |g::r,S,S',h=>by
  simp only [evOps] at h
  cases h1:evG cl g S with
  |none=>rw [h1] at h;cases h
  |some S1=>rw [h1] at h;exact (q0Dk h1).trans (q0kw h)
theorem q0ev {E:Env}: ∀(k:Nat) (ic:IC) (S:St) (ex:Ex) (S':St),(sys E k).1 ic S=some (ex,S')->Up S S'
 |0,ic,S,ex,S',h=>by simp [sys] at h
 |k+1,ic,S,ex,S',h=>by
  have ih:=q0ev (E:=E) k
  change q00m (sys E k).1 (sys E k).2 ic S=some (ex,S') at h
  cases ic with
  |skip=>cases h;exact .refl S
  |label=>cases h;exact .refl S
  |goto=>cases h;exact .refl S
  |scope x=>exact ih (.scopeR x x) _ _ _ h
  |scopeR x y=>
   simp only [q00m] at h
   cases he:(sys E k).1 x S with
   |none=>rw [he] at h;cases h
   |some p=>
    obtain ⟨e1,S1⟩:=p
    rw [he] at h
    simp only [Ze] at h
    have h1:=ih _ _ _ _ he
    cases e1 with
    |goto l=>
     simp only at h
     split at h
     ·exact h1.trans (ih _ _ _ _ h)
     ·cases h;exact h1
    |_=>cases h;exact h1
  |exit=>cases h;exact .refl S
  |ret=>cases h;exact .refl S
  |rangeFunc x ps a b=>exact q0ht h
  |esc ts x=>
   simp only [q00m] at h
   cases he:escS S ts with
   |none=>rw [he] at h;cases h
   |some T=>rw [he] at h;exact (q0ov ts he).trans (ih _ _ _ _ h)
  |rsv ss x=>
   have h':(sys E k).1 x {S with hp:=S.hp++ss.map fun s=>DObj.row s []}=some (ex,S'):=h
   exact (show Up S {S with hp:=S.hp++ss.map fun s=>DObj.row s []} from ⟨rfl,fun _ h=>h⟩).trans (ih _ _ _ _ h')
  |prep ts x=>
   have h':(sys E k).1 x {S with loc:=prepL S.loc ts}=some (ex,S'):=h
   exact (show Up S {S with loc:=prepL S.loc ts} from ⟨rfl,fun _ h=>h⟩).trans (ih _ _ _ _ h')
  |reg d gs ks kl=>
   simp only [q00m] at h
   cases he:evOps (sys E k).2 gs S with
   |none=>rw [he] at h;cases h
   |some S1=>
    rw [he] at h
    cases h
    exact (q0kw he).trans ⟨rfl,fun _ h=>h⟩
  |seq x y=>
   simp only [q00m] at h
   cases he:(sys E k).1 x S with
   |none=>rw [he] at h;cases h
   |some p=>
    obtain ⟨e1,S1⟩:=p
    rw [he] at h
    simp only [Ze] at h
    cases e1 with
    |normal=>exact (ih _ _ _ _ he).trans (ih _ _ _ _ h)
    |_=>cases h;exact ih _ _ _ _ he
  |cond b x y=>
   simp only [q00m] at h
   split at h
   ·split at h
    ·exact ih _ _ _ _ h
    ·exact ih _ _ _ _ h
   ·cases h
  |block id x=>
   simp only [q00m] at h
   cases he:(sys E k).1 x S with
   |none=>rw [he] at h;cases h
   |some p=>
    obtain ⟨e1,S1⟩:=p
    rw [he] at h
    simp only [ZH,Option.some.injEq] at h
    have:=ih _ _ _ _ he
    split at h<;>cases h<;>exact this
  |loop ks kl x=>
   simp only [q00m] at h
   cases he:(sys E k).1 x (S.keep ks kl) with
   |none=>rw [he] at h;cases h
   |some p=>
    obtain ⟨e1,S1⟩:=p
    rw [he] at h
    simp only [Ze] at h
    have h1:Up S S1:=by
     have hk:Up S (S.keep ks kl):=⟨rfl,fun _ h=>h⟩
     exact hk.trans (ih _ _ _ _ he)
    cases e1 with
    |normal=>exact h1.trans (ih _ _ _ _ h)
    |_=>cases h;exact h1
theorem q0ew {vs:List V} (h:q05c vs=true):vs.length=1:=by
 unfold q05c at h;split at h
 ·rfl
 ·rfl
 ·rfl
 ·rfl
 ·cases h
theorem q052 {G:Gh} (a:Option Addr) (cap:Nat): ∃b,VRep G (.slice a 0 cap) (.mt b):=by
 cases a with
 |none=>exact ⟨true,.mtn cap⟩
 |some ad=>exact ⟨false,.mts ad cap⟩
theorem q0qi {G:Gh} {vs:List V} {args:Array Value} (h:q05c vs=true) (ha1:args.size=vs.length) (ha2: ∀j (hj:j<vs.length),VRep G (args.getD j undef) (vs[j])): ∃b,VRep G (args.getD 0 undef) (.mt b):=by
 unfold q05c at h;split at h
 ·have:=ha2 0 (by simp)
  generalize args.getD 0 undef=v at this⊢
  cases this with|nils a=>exact q052 a 0
 ·have:=ha2 0 (by simp)
  generalize args.getD 0 undef=v at this⊢
  cases this with
  |p hp=>cases hp with
   |sl0 a cap=>exact q052 a cap
   |sl b off cap s _ c hn hc hs' hI hR=>simp at hn
 ·have:=ha2 0 (by simp)
  generalize args.getD 0 undef=v at this⊢
  cases this with
  |rown=>exact q052 none 0
  |row=>exact q052 _ _
  |rowz _ _ _ _ a cap=>exact q052 a cap
 ·have:=ha2 0 (by simp)
  generalize args.getD 0 undef=v at this⊢
  cases this with
  |vsl0 a cap=>exact q052 a cap
  |vsl b off cap s _ c hn=>simp at hn
 ·cases h
theorem q0kx {G:Gh}: ∀(ps:List Nat) (vs:List V) (us:List Value) (tmps:Array Value) (env:List (Nat×V)),vs.length=ps.length->us.length=ps.length->(∀p∈ps,p<tmps.size)->(∀t,VRep G (tmps.getD t undef) (getE env t))->
  (∀j (h1:j<us.length) (h2:j<vs.length),VRep G (us[j]) (vs[j]))->((ps.zip us).foldl (fun tmps (t,a)=>tmps.setIfInBounds t a) tmps).size=tmps.size/\
  ∀t,VRep G (((ps.zip us).foldl (fun tmps (t,a)=>tmps.setIfInBounds t a) tmps).getD t undef) (getE (bindE env ps vs) t)
 |[],[],[],tmps,env,_,_,_,h,_=>⟨rfl,h⟩
 |p::ps,v::vs,u::us,tmps,env,h1,h2,h3,h4,h5=>by
  have hp:=h3 p ZE
  obtain ⟨q1,q2⟩:=q0kx ps vs us (tmps.setIfInBounds p u) ((p,v)::env) (by simpa using h1) (by simpa using h2) (fun p' hp'=>by simpa using h3 p' (Zv _ hp')) (fun t=>by
   simp only [q02c]
   by_cases e:p=t
   ·subst e
    have:=h5 0 (by simp) (by simp)
    simp [Zc,hp]
    simpa using this
   ·have e':(p==t)=false:=by simpa using e
    simp only [e',Zh,if_false]
    have:=h4 t
    simpa [Zc,Array.getElem?_setIfInBounds,e] using this) (fun j h1 h2=>by
   have:=h5 (j+1) (by simpa using h1) (by simpa using h2)
   simpa using this)
  exact ⟨by simpa using q1,q2⟩
 |[],_::_,_,_,_,h,_,_,_,_=>by simp at h
 |[],[],_::_,_,_,_,h,_,_,_=>by simp at h
 |_::_,[],_,_,_,h,_,_,_,_=>by simp at h
 |_::_,_::_,[],_,_,_,h,_,_,_=>by simp at h
theorem WOK.dropLoc {G:Gh} {own:Own} {H:Heap} {L:Nat->Option Nat} {loc:List (Nat×List V)} {w:World} (h:WOK G own H L loc w):WOK G own H (fun _=>none) [] w:=
 ⟨h.imm,h.dom,h.domr,h.top,h.obj,fun s cs hs=>by simp at hs,h.noI,h.lt,h.ilt⟩
theorem q0t3 {ro:Option Nat} {x y:Bool} (h:ro=none\/(x&&y)=true):ro=none\/x=true:=h.imp id fun h=>by simp only [Zb] at h;exact h.1
theorem q0t4 {ro:Option Nat} {x y:Bool} (h:ro=none\/(x&&y)=true):ro=none\/y=true:=h.imp id fun h=>by simp only [Zb] at h;exact h.2
theorem q0ky {P:Program} {X:Gh->Prop} (h: ∀G:Gh,Kn X G->Kn X G.still) (G:Gh) (hK:Kn (KP P X) G):Kn (KP P X) G.still:=fun G' hG'=>
 ⟨by rw [hG'.C];exact (hK G (.refl G)).1,h G (fun G'' h''=>(hK G'' h'').2) G' hG'⟩
theorem sound {P:Program} {X:Gh->Prop} {E:Env} (hE:EnvOKX P X E): ∀k,(∀M c ic,okC P M c ic=true->q0Dl P (KP P X) M (sys E k).1 c ic)/\ClOK P (KP P X) (sys E k).2:=by
 intro k
 induction k using Nat.strongRecOn with
 |_ k ih=>
 cases k with
 |zero=>exact ⟨fun M c ic _ N _ S ex S' h=>by simp [sys] at h,⟨fun _ _ _ _=>rfl,q0ky hE.still⟩,fun fv vs H r h=>by simp [sys] at h⟩
 |succ k=>
  obtain ⟨ihc,ihl⟩:=ih k (Nat.lt_succ_self k)
  refine ⟨?_,?_,?_⟩
  ·intro M c ic hok N hM S ex S' hev n ro w0 G0 own0 a w hK hro hi Q hq
   change q00m (sys E k).1 (sys E k).2 ic S=some (ex,S') at hev
   cases ic with
   |esc ts x=>
    have hok':okC P M c x=true:=by simpa only [okC] using hok
    simp only [q00m] at hev
    cases he:escS S ts with
    |none=>rw [he] at hev;cases hev
    |some T=>rw [he] at hev;exact ihc M c x hok' N hM _ ex S' hev n ro w0 G0 own0 a w hK hro (InF.esc ts hi he) Q hq
   |rsv ss x=>
    have hok':okC P M c x=true:=by simpa only [okC] using hok
    exact ihc M c x hok' N hM _ ex S' hev n ro w0 G0 own0 a w hK hro (InF.rsv ss hi) Q hq
   |prep ts x=>
    have hok':okC P M c x=true:=by simpa only [okC] using hok
    exact ihc M c x hok' N hM _ ex S' hev n ro w0 G0 own0 a w hK hro (hi.prep ts) Q hq
   |skip=>cases c<;>simp only [okC,Zh] at hok;cases hev;exact wpIn_skip (hq _ _ hi)
   |label l=>cases c<;>simp only [okC,Zh] at hok;cases hev;exact wpIn_label (hq _ _ hi)
   |goto l=>
    cases c<;>simp only [okC,Zh,beq_iff_eq] at hok
    subst hok
    cases hev
    exact wpIn_goto (hq _ _ hi)
   |scopeR x y=>cases c<;>simp only [okC,Zh] at hok
   |scope x=>
    cases c with
    |scope body=>
     have hok':okC P M body x=true:=by simpa only [okC] using hok
     refine q0fy (fun j c a w=>j<=k/\ ∃r S,okC P M c r=true/\(ro=none\/r.flat=true)/\InF N w0 G0 own0 S a w/\(sys E j).1 (.scopeR r x) S=some (ex,S')) (j:=k) ⟨Zm _,x,S,hok',hro,hi,hev⟩ fun j c a w hj=> ?_
     obtain ⟨hjk,r,S,hr,hrr,hi,hev⟩:=hj
     cases j with
     |zero=>simp [sys] at hev
     |succ j=>
      change q00m (sys E j).1 (sys E j).2 (.scopeR r x) S=some (ex,S') at hev
      simp only [q00m] at hev
      cases he:(sys E j).1 r S with
      |none=>rw [he] at hev;cases hev
      |some p=>
       obtain ⟨e1,S1⟩:=p
       rw [he] at hev
       simp only [Ze] at hev
       refine (ih j (by omega)).1 M _ _ hr N hM _ e1 S1 he n ro w0 G0 own0 a w hK hrr hi _ fun a1 w1 hi1=> ?_
       cases e1 with
       |goto l=>
        simp only [exOf]
        simp only at hev
        split at hev
        ·rename_i r' hr'
         obtain ⟨rest,k1,k2⟩:=okC_label hok' hr'
         rw [k1]
         exact ⟨j,Nat.lt_succ_self j,by omega,r',S1,k2,hro.imp id (fun hf=>q042 hf hr'),hi1,hev⟩
        ·rename_i hr'
         have hn:findLabel body l=none:=by
          cases hfa:findLabel body l with
          |none=>rfl
          |some z=>obtain ⟨r',hr2⟩:=okC_label.okC_nolabel hok' hfa;rw [hr'] at hr2;cases hr2
         rw [hn]
         cases hev
         exact hq _ _ hi1
       |_=>cases hev;exact hq _ _ hi1
    |_=>simp only [okC,Zh] at hok
   |reg d gs ks kl=>
    cases c<;>simp only [okC,Zh] at hok
    simp only [Zb,beq_iff_eq] at hok
    obtain ⟨⟨rfl,h2⟩,h3⟩:=hok
    simp only [q00m] at hev
    cases he:evOps (sys E k).2 gs S with
    |none=>rw [he] at hev;cases hev
    |some S1=>
     rw [he] at hev
     cases hev
     exact q0t1 hE.mix ihl hK hM h2 h3 hi he fun a' w' hi'=>hq a' w' (hi'.keep ks kl)
   |seq x y=>
    cases c<;>simp only [okC,Zh] at hok
    simp only [Zb] at hok
    simp only [q00m] at hev
    cases he:(sys E k).1 x S with
    |none=>rw [he] at hev;cases hev
    |some p=>
     obtain ⟨e1,S1⟩:=p
     rw [he] at hev
     simp only [Ze] at hev
     refine wpIn_seq (ihc M _ _ hok.1 N hM S e1 S1 he n ro w0 G0 own0 a w hK (q0t3 hro) hi _ fun a1 w1 hi1=> ?_)
     cases e1 with
     |normal=>exact ihc M _ _ hok.2 N hM S1 ex S' hev n ro w0 G0 own0 a1 w1 hK (q0t4 hro) hi1 Q hq
     |_=>cases hev;exact hq _ _ hi1
   |cond b x y=>
    cases c<;>simp only [okC,Zh] at hok
    simp only [Zb] at hok
    obtain ⟨⟨h1,h2⟩,h3⟩:=hok
    simp only [q00m] at hev
    split at hev
    ·rename_i t ht
     obtain ⟨G,own,L,k1,-⟩:=id hi
     have hb:=q008 k1 h1
     rw [ht] at hb
     refine wpIn_cond (q038 hb) ?_
     cases t with
     |true=>exact ihc M _ _ h2 N hM S ex S' (by simpa using hev) n ro w0 G0 own0 a w hK (q0t3 hro) hi Q hq
     |false=>exact ihc M _ _ h3 N hM S ex S' (by simpa using hev) n ro w0 G0 own0 a w hK (q0t4 hro) hi Q hq
    ·cases hev
   |block id x=>
    cases c<;>simp only [okC,Zh] at hok
    simp only [Zb,beq_iff_eq] at hok
    obtain ⟨rfl,h2⟩:=hok
    simp only [q00m] at hev
    cases he:(sys E k).1 x S with
    |none=>rw [he] at hev;cases hev
    |some p=>
     obtain ⟨e1,S1⟩:=p
     rw [he] at hev
     simp only [ZH,Option.some.injEq] at hev
     refine wpIn_block (ihc M _ _ h2 N hM S e1 S1 he n ro w0 G0 own0 a w hK hro hi _ fun a1 w1 hi1=> ?_)
     cases e1 with
     |exit i=>
      simp only [exOf,Exit.inBlock]
      split at hev
      ·rename_i hh;cases hev;cases hh;simp only [if_true];exact hq _ _ hi1
      ·rename_i hh
       cases hev
       have: ¬i=_:=fun e=>hh (by rw [e])
       rw [if_neg this];exact hq _ _ hi1
     |_=>cases hev;exact hq _ _ hi1
   |loop ks kl x=>
    cases c with
    |loop c=>
     simp only [okC] at hok
     refine q0jj (fun j a w=>j<=k+1/\ ∃S,InF N w0 G0 own0 S a w/\(sys E j).1 (.loop ks kl x) S=some (ex,S')) (j:=k+1) ⟨Zm _,S,hi,hev⟩ fun j a w hj=> ?_
     obtain ⟨hjk,S,hi,hev⟩:=hj
     cases j with
     |zero=>simp [sys] at hev
     |succ j=>
      change q00m (sys E j).1 (sys E j).2 (.loop ks kl x) S=some (ex,S') at hev
      simp only [q00m] at hev
      cases he:(sys E j).1 x (S.keep ks kl) with
      |none=>rw [he] at hev;cases hev
      |some p=>
       obtain ⟨e1,S1⟩:=p
       rw [he] at hev
       simp only [Ze] at hev
       refine (ih j (by omega)).1 M _ _ hok N hM _ e1 S1 he n ro w0 G0 own0 a w hK hro (hi.keep ks kl) _ fun a1 w1 hi1=> ?_
       cases e1 with
       |normal=>exact ⟨j,Nat.lt_succ_self j,by omega,S1,hi1,hev⟩
       |_=>cases hev;exact hq _ _ hi1
    |_=>simp only [okC,Zh] at hok
   |exit id=>
    cases c<;>simp only [okC,Zh,beq_iff_eq] at hok
    subst hok
    cases hev
    exact wpIn_exit (hq _ _ hi)
   |ret=>cases c<;>simp only [okC,Zh] at hok;cases hev;exact wpIn_ret (hq _ _ hi)
   |rangeFunc x ps y z=>
    cases c<;>simp only [okC,Zh] at hok
    simp only [Zb,beq_iff_eq] at hok
    obtain ⟨⟨⟨⟨⟨⟨q1,q2⟩,q3⟩,q4⟩,q5⟩,q6⟩,q7⟩:=hok
    rcases hro with rfl|hro
    ·exact q0wo ihl hK hM q1 q2 q3 q4 q5 q6 q7 hi hev hq
    ·simp [IC.flat] at hro
  ·exact ⟨fun s o vs H=>rfl,q0ky hE.still⟩
  ·intro fv vs H r hev G own w fval args hK hfv ha1 ha2 hw ho
   change clStep E (sys E k).1 fv vs H=some r at hev
   have runs: ∀f fn (vs:List V) (args:Array Value) (r:CR),E.fns f=some fn->args.size=vs.length->(∀j (hj:j<vs.length),VRep G (args.getD j undef) (vs[j]))->runF (sys E k).1 fn vs H=some r->
     (∀xs w1,(callFunc f xs).run P w1= .ok (.enter f xs) w1)/\CallR P w G own H r f args:=by
    intro f fn vs args r hfn ha1 ha2 hgo
    unfold runF at hgo
    obtain ⟨func,c,p1,p2,p3,p4,p5⟩:=hE.fns f fn hfn
    refine ⟨fun xs w1=>q07n p1 p2 p3 xs w1,fun m=>callsIn_of_wp_marks p1 p3 trivial ?_⟩
    cases he:(sys E k).1 fn.body (St.enter vs H) with
    |none=>rw [he] at hgo;cases hgo
    |some p=>
     obtain ⟨e1,S1⟩:=p
     rw [he] at hgo
     simp only [Ze] at hgo
     have hin:InF (args++Array.replicate (func.ntmps-args.size) undef).size w G own (St.enter vs H) {tmps:=args++Array.replicate (func.ntmps-args.size) undef,defers:=[]} w:=by
      refine ⟨G,own,fun _=>none,⟨rfl,fun t=> ?_,hw⟩,.refl ..,⟨Zm _,fun b k hk _=>ho b k hk,fun _ _ h _=>h,fun _ _ _=>rfl⟩,.nil ..⟩
      show SRep G _ _ (getE (q000 0 vs) t)
      rw [q0ku]
      split
      ·rename_i h
       simp only [Nat.sub_zero] at h⊢
       have hlt:t<args.size:=by omega
       have:=ha2 t h.2
       refine .of ?_
       simpa [Zc,Array.getElem?_append_left hlt] using this
      ·exact VRep.undef _
     refine ihc func.ntmps c fn.body p4 _ (by simp;omega) _ e1 S1 he m none w G own _ w hK (.inl rfl) hin _ fun a' w' hi'=> ?_
     have hb:S1.base=H.length:=(q0ev _ _ _ _ _ he).1
     have fin: ∀ {r'},q045 fn.thaw fn.results S1=some r'->r'=r->bodyPostM Fence.wide m P func (CallP w G own H r) .normal a' w':=by
      rintro r' hfin rfl
      exact q0kv p5 hfin hb hw ho a'.defers a' w' rfl hi'
     cases e1 with
     |normal=>exact fin hgo rfl
     |ret=>exact fin hgo rfl
     |exit=>cases hgo
     |goto=>cases hgo
   have main: ∀f (vs:List V) (args:Array Value),args.size=vs.length->(∀j (hj:j<vs.length),VRep G (args.getD j undef) (vs[j]))->clStep.go E (sys E k).1 f vs H=some r->
     (∀xs w1,(callFunc f xs).run P w1= .ok (.enter f xs) w1)/\CallR P w G own H r f args:=by
    intro f vs args ha1 ha2 hgo
    unfold clStep.go at hgo
    split at hgo
    ·rename_i g hg;exact hE.prims f g hg vs H r hgo G own w args hK ha1 ha2 hw ho
    ·split at hgo
     ·rename_i fn hfn
      split at hgo
      ·rename_i hc
       simp only [Zb] at hc
       obtain ⟨h1,h2,rfl⟩:=q08y hgo
       obtain ⟨b,hb⟩:=q0qi hc.2 ha1 ha2
       cases b with
       |true=>exact runs f fn [.mt true] args _ hfn (by rw [ha1,q0ew hc.2];rfl) (fun j hj=>by
         have:j=0:=by simp at hj;exact hj
         subst this;exact hb) h1
       |false=>exact runs f fn [.mt false] args _ hfn (by rw [ha1,q0ew hc.2];rfl) (fun j hj=>by
         have:j=0:=by simp at hj;exact hj
         subst this;exact hb) h2
      ·exact runs f fn vs args r hfn ha1 ha2 hgo
     ·cases hgo
   unfold clStep at hev
   split at hev
   ·rename_i f
    obtain ⟨h1,h2⟩:=main f vs args ha1 ha2 hev
    cases hfv with
    |p hp=>cases hp;exact .inl ⟨f,#[],#[],rfl,h1,by simpa using h2⟩
   ·rename_i f first cap
    cases hfv with
    |fn _ fa ca _ _ q1 q2 q3 q4=>
     obtain ⟨h1,h2⟩:=main f (first++vs++cap) (fa++args++ca) (by simp [q1,q2,ha1]) (fun j hj=>by
      simp only [Zt] at hj
      rcases Z2 j (first.length+vs.length) with hlt|hge
      ·have e1:(first++vs++cap)[j]=(first++vs)[j]'(by simpa using hlt):=ZP (by simpa using hlt)
       rcases Z2 j first.length with hlt2|hge2
       ·have e2:(first++vs)[j]'(by simpa using hlt)=first[j]:=ZP hlt2
        rw [e1,e2]
        have:=q3 j hlt2
        have h5:j<fa.size:=by omega
        simpa [Zc,Array.getElem?_append,h5,show j<fa.size+args.size by omega] using this
       ·have e2:(first++vs)[j]'(by simpa using hlt)=vs[j-first.length]:=ZR hge2
        rw [e1,e2]
        have:=ha2 (j-first.length) (by omega)
        have h5: ¬j<fa.size:=by omega
        simpa [Zc,Array.getElem?_append,q1,show¬j<first.length by omega,show j-first.length<args.size by omega] using this
      ·have e1:(first++vs++cap)[j]=cap[j-(first.length+vs.length)]:=by
        rw [ZR (by simpa using hge)];simp
       rw [e1]
       have:=q4 (j-(first.length+vs.length)) (by omega)
       simpa [Zc,Array.getElem?_append,q1,ha1,show¬j<first.length by omega,show¬j-first.length<vs.length by omega,Nat.sub_sub] using this) hev
     exact .inl ⟨f,fa,ca,rfl,h1,h2⟩
   ·rename_i id
    obtain ⟨env,ps,ia,ib,S1,e1,e2,e3,e4⟩:=q07v hev
    cases hfv with
    |yld _ l hl=>
     obtain ⟨l',rc,k1,k2,k3,k4⟩:=hw.obj id _ e1
     rw [hl] at k1
     obtain rfl:=Option.some.inj k1
     obtain ⟨c1,c2,c3,c4,c5,c6⟩:=k4
     have hC:=hK.here.1
     rw [hC] at c5 c6
     obtain ⟨M1,m1,m2,m3⟩:=c5
     obtain ⟨M2,n1,n2,n3⟩:=c6
     have hsz:args.size=rc.params.size:=by rw [ha1,e2,<-c2];simp
     have hy:=run_yield (P:=P) k3 hsz
     refine .inr ⟨id,l,rc.fn,_,rc.assign,rc.body,rfl,rfl,hy,fun m=>roundIn_of_wpIn trivial ?_⟩
     have hb:=q0kx ps vs args.toList rc.tmps env e2 (by simp [ha1,e2]) c3 c4 (fun j h1 h2=>by
      have:=ha2 j h2
      have h3:j<args.size:=by omega
      simpa [Zc,h3] using this)
     have hfold:(rc.params.zip args).foldl (fun tmps (t,a)=>tmps.setIfInBounds t a) rc.tmps=(ps.zip args.toList).foldl (fun tmps (t,a)=>tmps.setIfInBounds t a) rc.tmps:=by
      rw [<-Array.foldl_toList,Array.toList_zip,c2]
     rw [hfold]
     generalize (ps.zip args.toList).foldl (fun tmps (t,a)=>tmps.setIfInBounds t a) rc.tmps=T at hb
     have hin:InF T.size w G own {env:=bindE env ps vs,loc:=[],hp:=H,base:=H.length,dirty:=[]} {tmps:=T,defers:=[]} w:=
      ⟨G,own,fun _=>none,⟨rfl,fun t=> .of (hb.2 t),hw⟩,.refl ..,⟨Zm _,fun b k hk _=>ho b k hk,fun _ _ h _=>h,fun _ _ _=>rfl⟩,.nil ..⟩
     refine ihc M1 _ _ m2 T.size (by rw [hb.1];exact m1) _ .normal S1 e3 m (some l) w G own _ w hK (.inr m3) hin _ fun a1 w1 hi1=> ?_
     have hbase1:S1.base=H.length:=(q0ev _ _ _ _ _ e3).1
     unfold q03c at e4
     split at e4
     ·rename_i env' ps' ia' ib' hid1
      obtain ⟨l1,r1,z1,z2,z3,z4⟩:=hi1.loop hid1
      obtain rfl:=z1 l hl
      have hi2:=z4 .busy .busy r1.pending rfl
      refine ⟨_,run_beginRound z2 z3.1,?_⟩
      unfold q0a8 at e4
      split at e4
      ·rename_i ex S3 he3
       have hup:=q0ev _ _ _ _ _ he3
       have hid:id<H.length:=(Za.1 e1).1
       have hd3:id∈S3.dirty:=hup.2 _ (q02w.2 (.inl ⟨rfl,by rw [hbase1];exact hid⟩))
       refine ihc M2 _ _ n2 T.size (by rw [hb.1];exact n1) _ ex S3 he3 m (some l) w G own _ _ hK (.inr n3) hi2 _ fun a3 w3 hi3=> ?_
       unfold q0e7 at e4
       split at e4
       ·rename_i env3 ps3 ia3 ib3 hid3
        cases e4
        obtain ⟨l3,r3,y1,y2,y3,y4⟩:=hi3.loop hid3
        obtain rfl:=y1 l hl
        have out: ∀(st':LSt) (s':LoopState) (pd:Option Code) (b:Bool),LStOK {r3 with state:=s',pending:=pd} st'->(b=decide (ex= .normal))->st'=(if ex= .normal then .ready else .done ex)->
          CallP w G own H (.p (.bool (decide (ex= .normal))),some (S3.hp.set id (.loop (if ex= .normal then .ready else .done ex) env3 ps3 ia3 ib3),S3.dirty)) (.returned (.bool b)) (w3.putObj l (.loop {r3 with state:=s',pending:=pd})):=by
         rintro st' s' pd b hst rfl rfl
         obtain ⟨G4,own4,L4,j1,j2,j3,-⟩:=y4 _ s' pd hst
         refine ⟨_,rfl,fun b hb hbo=>j3.same b hb fun k hk=> ?_,G4,own4,j2,.p (.bool _),j1.wok.dropLoc⟩
         obtain ⟨i,i1,i2⟩:=hbo k hk
         refine ⟨i,i1,fun hm=> ?_⟩
         rcases q02w.1 hm with ⟨rfl,-⟩|hm
         ·exact i2 hd3
         ·exact i2 hm
        cases ex with
        |normal=>exact ⟨_,_,run_endRound none y2,out .ready .ready none true ⟨rfl,rfl⟩ (by simp) (by simp)⟩
        |ret=>exact ⟨_,_,run_endRound (some .ret) y2,out (.done .ret) .done (some .ret) false ⟨rfl,rfl,by simp⟩ (by simp) (by simp)⟩
        |exit i=>exact ⟨_,_,run_endRound (some (.exit i)) y2,out (.done (.exit i)) .done (some (.exit i)) false ⟨rfl,rfl,by simp⟩ (by simp) (by simp)⟩
        |goto i=>exact ⟨_,_,run_endRound (some (.goto i)) y2,out (.done (.goto i)) .done (some (.goto i)) false ⟨rfl,rfl,by simp⟩ (by simp) (by simp)⟩
       ·cases e4
      ·cases e4
     ·cases e4
   ·cases hev
end Go.Eng
