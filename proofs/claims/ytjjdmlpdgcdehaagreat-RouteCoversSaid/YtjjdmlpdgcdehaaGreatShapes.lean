/- Arguments of whatever plain type, as the laws take them. -/
import Derived.Test.YtjjdmlpdgcdehaaGreatChecked
import Derived.Test.YtjjdmlpdgcdehaaGreatEngAll9
import Derived.Test.YtjjdmlpdgcdehaaGreatChk
import Derived.Test.YtjjdmlpdgcdehaaGreatText2
namespace Go.EnvOf
open Go Go.Eng
set_option maxRecDepth 100000
theorem I64.of {n:Int} (h:(Lit.int .i64 n).wf=true):I64 n:=by
 simp [Lit.wf,IntKind.min,IntKind.max,IntKind.signed,IntKind.bits] at h
 unfold I64;omega
theorem q0p2 {α:Type} {enc:α→List PV} {good:α→Prop}: ∀ {es:List (List PV)},(∀x∈es,∃a,x=enc a∧good a)→ ∃L:List α,es=L.map enc∧ ∀a∈L,good a
 |[],_=>⟨[],rfl,fun a h=>by cases h⟩
 |x::r,h=>by
  obtain ⟨a,rfl,ha⟩:=h x List.mem_cons_self
  obtain ⟨L,rfl,hL⟩:=q0p2 (es:=r) fun y hy=>h y (List.mem_cons_of_mem _ hy)
  exact ⟨a::L,rfl,fun b hb=>by
   rcases List.mem_cons.1 hb with rfl|hb
   ·exact ha
   ·exact hL b hb⟩
section
variable {P:Program} {d:Nat} {t e:TypeId} {k:IntKind} {xs:List PV}
theorem q0p3 (ht:P.underlying t=some (.int k)) (h:Shp P (d+1) t xs): ∃n,xs=[.int k n]∧(Lit.int k n).wf=true:=by
 simp only [Shp,ht] at h;exact h
theorem q00q (ht:P.underlying t=some (.int .i64)) (h:Shp P (d+1) t xs): ∃n,xs=[.int .i64 n]∧I64 n:=by
 obtain ⟨n,h1,h2⟩:=q0p3 ht h;exact ⟨n,h1,.of h2⟩
theorem q0lc (ht:P.underlying t=some .bool) (h:Shp P (d+1) t xs): ∃b,xs=[.bool b]:=by
 simp only [Shp,ht] at h;exact h
theorem q0Dm (ht:P.underlying t=some (.slice e)) (h:Shp P (d+1) t xs): ∃es,xs=[.sl es]∧es.length≤maxLen∧ ∀x∈es,Shp P d e x:=by
 simp only [Shp,ht] at h;exact h
theorem q035 {α:Type} {enc:α→List PV} {good:α→Prop} (ht:P.underlying t=some (.slice e)) (he: ∀x,Shp P d e x→ ∃a,x=enc a∧good a) (h:Shp P (d+1) t xs):
  ∃L:List α,xs=[.sl (L.map enc)]∧L.length≤maxLen∧ ∀a∈L,good a:=by
 obtain ⟨es,rfl,h1,h2⟩:=q0Dm ht h
 obtain ⟨L,rfl,hL⟩:=q0p2 (enc:=enc) (good:=good) fun x hx=>he x (h2 x hx)
 exact ⟨L,rfl,by simpa using h1,hL⟩
def q04m (P:Program) (t:TypeId):Bool:=match P.underlying t with|some (.struct _)=>true|some (.array _ _)=>true|_=>false
theorem q049 (ht:q04m P t=true) (h:Shp P (d+1) t xs):xs.length=P.cellsOf t∧ ∀c∈comps P t,Shp P d c.2 ((xs.drop c.1).take (P.cellsOf c.2)):=by
 unfold q04m at ht
 split at ht
 ·rename_i fs hu;simp only [Shp,hu] at h;exact h
 ·rename_i n e hu;simp only [Shp,hu] at h;exact h
 ·cases ht
theorem q09a (ht:q04m P t=true):argV P t xs= .agg (xs.map .p):=by
 unfold q04m at ht
 split at ht
 ·rename_i fs hu;simp only [argV,hu]
 ·rename_i n e hu;simp only [argV,hu]
 ·cases ht
theorem q0ld (ht:q04m P t=false) {x:PV}:argV P t [x]= .p x:=by
 unfold q04m at ht
 unfold argV
 split<;>simp_all
end
inductive PK where
 |i (k:IntKind)
 |b
 deriving DecidableEq
def kOK:PK→PV→Prop
 | .i k,x=> ∃n,x= .int k n∧(Lit.int k n).wf=true
 | .b,x=> ∃b,x= .bool b
def q02p:List PK→List PV→Prop
 |[],[]=>True
 |k::ks,x::xs=>kOK k x∧q02p ks xs
 |_,_=>False
def flatC (P:Program) (rec:TypeId→Option (List PK)):Nat→List (Nat×TypeId)→Option (List PK)
 |_,[]=>some []
 |off,(o,t)::r=>if o=off then (match rec t,flatC P rec (off+P.cellsOf t) r with|some a,some b=>if a.length=P.cellsOf t then some (a++b) else none|_,_=>none) else none
def flatK (P:Program):Nat→TypeId→Option (List PK)
 |0,_=>none
 |d+1,t=>match P.underlying t with
  |some (.int k)=>some [.i k]
  |some .bool=>some [.b]
  |some (.struct _)|some (.array _ _)=>match flatC P (flatK P d) 0 (comps P t) with|some ks=>if ks.length=P.cellsOf t then some ks else none|none=>none
  |_=>none
theorem q0Dn {k:IntKind} {ks:List PK} {xs:List PV} (h:q02p (.i k::ks) xs): ∃n r,xs= .int k n::r∧(Lit.int k n).wf=true∧q02p ks r:=by
 cases xs with
 |nil=>exact h.elim
 |cons x r=>obtain ⟨⟨n,rfl,hn⟩,h2⟩:=h;exact ⟨n,r,rfl,hn,h2⟩
theorem q04q {ks:List PK} {xs:List PV} (h:q02p (.i .i64::ks) xs): ∃n r,xs= .int .i64 n::r∧I64 n∧q02p ks r:=by
 obtain ⟨n,r,h1,h2,h3⟩:=q0Dn h;exact ⟨n,r,h1,.of h2,h3⟩
theorem q0Tg {ks:List PK} {xs:List PV} (h:q02p (.b::ks) xs): ∃n r,xs= .bool n::r∧q02p ks r:=by
 cases xs with
 |nil=>exact h.elim
 |cons x r=>obtain ⟨⟨n,rfl⟩,h2⟩:=h;exact ⟨n,r,rfl,h2⟩
theorem q0t8 {xs:List PV} (h:q02p [] xs):xs=[]:=by
 cases xs with
 |nil=>rfl
 |cons x r=>exact h.elim
theorem q0ez: ∀ {a b:List PK} {xs ys:List PV},q02p a xs→q02p b ys→q02p (a++b) (xs++ys)
 |[],_,[],_,_,h=>h
 |_::_,_,_::_,_,h,h'=>⟨h.1,q0ez h.2 h'⟩
 |[],_,_::_,_,h,_=>h.elim
 |_::_,_,[],_,h,_=>h.elim
theorem q0ql: ∀ {a:List PK} {xs:List PV},q02p a xs→xs.length=a.length
 |[],[],_=>rfl
 |_::_,_::_,h=>by simp [q0ql h.2]
 |[],_::_,h=>h.elim
 |_::_,[],h=>h.elim
section
variable {P:Program}
theorem q0le {d:Nat} (IH: ∀t ks xs,flatK P d t=some ks→Shp P d t xs→q02p ks xs): ∀(cs:List (Nat×TypeId)) (off:Nat) (ks:List PK) (xs:List PV),flatC P (flatK P d) off cs=some ks→
  xs.length=off+ks.length→(∀c∈cs,Shp P d c.2 ((xs.drop c.1).take (P.cellsOf c.2)))→q02p ks (xs.drop off)
 |[],off,ks,xs,h,hl,_=>by
  cases h
  have:xs.drop off=[]:=by rw [List.drop_eq_nil_iff];simp at hl;omega
  rw [this];trivial
 |(o,t)::r,off,ks,xs,h,hl,hc=>by
  simp only [flatC] at h
  split at h
  ·rename_i ho
   subst ho
   split at h
   ·rename_i a b ha hb
    split at h
    ·rename_i hla
     cases h
     have h0:=hc (o,t) List.mem_cons_self
     have h1:=IH t a _ ha h0
     have h2:=q0le IH r (o+P.cellsOf t) b xs hb (by simp at hl;omega) (fun c hc'=>hc c (List.mem_cons_of_mem _ hc'))
     have e:xs.drop o=(xs.drop o).take (P.cellsOf t)++xs.drop (o+P.cellsOf t):=by rw [←List.drop_drop];exact (List.take_append_drop _ _).symm
     rw [e]
     exact q0ez h1 h2
    ·cases h
   ·cases h
  ·cases h
theorem q0gv: ∀(d:Nat) (t:TypeId) (ks:List PK) (xs:List PV),flatK P d t=some ks→Shp P d t xs→q02p ks xs
 |0,_,_,_,h,_=>by simp [flatK] at h
 |d+1,t,ks,xs,h,hs=>by
  have parts:q04m P t=true→(match flatC P (flatK P d) 0 (comps P t) with|some ks=>if ks.length=P.cellsOf t then some ks else none|none=>none)=some ks→q02p ks xs:=by
   intro hb h
   obtain ⟨h1,h2⟩:=q049 hb hs
   split at h
   ·rename_i ks' hk
    split at h
    ·rename_i hl
     cases h
     have:=q0le (fun t ks xs=>q0gv d t ks xs) (comps P t) 0 ks xs hk (by omega) h2
     simpa using this
    ·cases h
   ·cases h
  unfold flatK at h
  split at h
  ·rename_i k hu
   cases h
   obtain ⟨n,rfl,hw⟩:=q0p3 hu hs
   exact ⟨⟨n,rfl,hw⟩,trivial⟩
  ·rename_i hu
   cases h
   obtain ⟨b,rfl⟩:=q0lc hu hs
   exact ⟨⟨b,rfl⟩,trivial⟩
  ·rename_i hu;exact parts (by unfold q04m;rw [hu]) h
  ·rename_i hu;exact parts (by unfold q04m;rw [hu]) h
  ·cases h
end
open Go.Proofs in
theorem q0lf {d:Nat} {xs:List PV} (h:Shp Tryz.prog (d+3) 146 xs): ∃n:Note,xs=q00e n∧(n.lines.length≤maxLen∧n.pens.length≤maxLen∧(∀x∈n.lines,I64 x)∧ ∀x∈n.pens,I64 x):=by
 obtain ⟨h1,h2⟩:=q049 (by kernel_rfl) h
 have hc:comps Tryz.prog 146=[(0,144),(1,38)]:=by kernel_rfl
 have hn:Tryz.prog.cellsOf 146=2:=by kernel_rfl
 have c1:Tryz.prog.cellsOf 144=1:=by kernel_rfl
 have c2:Tryz.prog.cellsOf 38=1:=by kernel_rfl
 rw [hn] at h1
 rw [hc] at h2
 obtain ⟨a,b,rfl⟩: ∃a b,xs=[a,b]:=by
  match xs,h1 with
  |[a,b],_=>exact ⟨a,b,rfl⟩
 have ha:=h2 (0,144) (by simp)
 have hb:=h2 (1,38) (by simp)
 simp only [c1,c2,List.drop_zero,List.take_succ_cons,List.take_zero,List.drop_succ_cons] at ha hb
 obtain ⟨L,hL,l1,l2⟩:=q035 (e:=22) (enc:=encI) (good:=I64) (by kernel_rfl) (fun x hx=>q00q (by kernel_rfl) hx) ha
 obtain ⟨M,hM,m1,m2⟩:=q035 (e:=3) (enc:=encI) (good:=I64) (by kernel_rfl) (fun x hx=>q00q (by kernel_rfl) hx) hb
 cases hL;cases hM
 exact ⟨⟨L,M⟩,rfl,l1,m1,l2,m2⟩
open Go.Proofs in
theorem q0lg {d:Nat} {xs:List PV} (h:Shp Tryz.prog (d+2) 42 xs): ∃x:Item,xs=q004 x∧(I64 x.k∧I64 x.h∧I64 x.f∧I64 x.str∧I64 x.ord∧I64 x.shr∧I64 x.n):=by
 obtain ⟨h1,h2⟩:=q049 (by kernel_rfl) h
 have hc:comps Tryz.prog 42=[(0,3),(1,22),(2,3),(3,22),(4,3),(5,22),(6,3)]:=by kernel_rfl
 have hn:Tryz.prog.cellsOf 42=7:=by kernel_rfl
 have c1:Tryz.prog.cellsOf 22=1:=by kernel_rfl
 have c2:Tryz.prog.cellsOf 3=1:=by kernel_rfl
 rw [hn] at h1
 rw [hc] at h2
 obtain ⟨a,b,c,d,e,f,g,rfl⟩: ∃a b c d e f g,xs=[a,b,c,d,e,f,g]:=by
  match xs,h1 with
  |[a,b,c,d,e,f,g],_=>exact ⟨a,b,c,d,e,f,g,rfl⟩
 have q0:=h2 (0,3) (by simp)
 have q1:=h2 (1,22) (by simp)
 have q2:=h2 (2,3) (by simp)
 have q3:=h2 (3,22) (by simp)
 have q4:=h2 (4,3) (by simp)
 have q5:=h2 (5,22) (by simp)
 have q6:=h2 (6,3) (by simp)
 simp only [c1,c2,List.drop_zero,List.take_succ_cons,List.take_zero,List.drop_succ_cons] at q0 q1 q2 q3 q4 q5 q6
 obtain ⟨n0,e0,w0⟩:=q00q (by kernel_rfl) q0
 obtain ⟨n1,e1,w1⟩:=q00q (by kernel_rfl) q1
 obtain ⟨n2,e2,w2⟩:=q00q (by kernel_rfl) q2
 obtain ⟨n3,e3,w3⟩:=q00q (by kernel_rfl) q3
 obtain ⟨n4,e4,w4⟩:=q00q (by kernel_rfl) q4
 obtain ⟨n5,e5,w5⟩:=q00q (by kernel_rfl) q5
 obtain ⟨n6,e6,w6⟩:=q00q (by kernel_rfl) q6
 cases e0;cases e1;cases e2;cases e3;cases e4;cases e5;cases e6
 exact ⟨⟨n0,n1,n2,n3,n4,n5,n6⟩,rfl,w0,w1,w2,w3,w4,w5,w6⟩
open Go.Proofs in
theorem q0t9 {d:Nat} {xs:List PV} (h:Shp Tryz.prog (d+2) 203 xs): ∃x:Float,xs=q009 x∧(I64 x.c∧I64 x.h∧I64 x.w):=by
 obtain ⟨h1,h2⟩:=q049 (by kernel_rfl) h
 have hc:comps Tryz.prog 203=[(0,3),(1,22),(2,3)]:=by kernel_rfl
 have hn:Tryz.prog.cellsOf 203=3:=by kernel_rfl
 have c0:Tryz.prog.cellsOf 22=1:=by kernel_rfl
 have c1:Tryz.prog.cellsOf 3=1:=by kernel_rfl
 rw [hn] at h1
 rw [hc] at h2
 obtain ⟨a0,a1,a2,rfl⟩: ∃a0 a1 a2,xs=[a0,a1,a2]:=by
  match xs,h1 with
  |[a0,a1,a2],_=>exact ⟨a0,a1,a2,rfl⟩
 have q0:=h2 (0,3) (by simp)
 have q1:=h2 (1,22) (by simp)
 have q2:=h2 (2,3) (by simp)
 simp only [c0,c1,List.drop_zero,List.take_succ_cons,List.take_zero,List.drop_succ_cons] at q0 q1 q2
 obtain ⟨n0,e0,w0⟩:=q00q (by kernel_rfl) q0
 obtain ⟨n1,e1,w1⟩:=q00q (by kernel_rfl) q1
 obtain ⟨n2,e2,w2⟩:=q00q (by kernel_rfl) q2
 cases e0;cases e1;cases e2
 exact ⟨⟨n0,n1,n2⟩,rfl,w0,w1,w2⟩
def q0p4 (g:Geom):List PV:=[.int .i64 g.cols,.int .i64 g.wide,.int .i64 g.gap,.int .i64 g.high,.int .i64 g.first,.int .i64 g.grid,.int .i64 g.rule,.int .i64 g.sep,.int .i64 g.noteMost,.int .i64 g.topMost,.int .i64 g.botMost,.int .i64 g.topMany,.int .i64 g.botMany,.int .i64 g.club,.int .i64 g.widow,.int .i64 g.split,.int .i64 g.defer,.int .i64 g.spare,.bool g.balance]
open Go.Proofs in
theorem q0wq {d:Nat} {xs:List PV} (h:Shp Tryz.prog (d+2) 24 xs): ∃x:Geom,xs=q0p4 x∧(I64 x.cols∧I64 x.wide∧I64 x.gap∧I64 x.high∧I64 x.first∧I64 x.grid∧I64 x.rule∧I64 x.sep∧I64 x.noteMost∧I64 x.topMost∧I64 x.botMost∧I64 x.topMany∧I64 x.botMany∧I64 x.club∧I64 x.widow∧I64 x.split∧I64 x.defer∧I64 x.spare):=by
 obtain ⟨h1,h2⟩:=q049 (by kernel_rfl) h
 have hc:comps Tryz.prog 24=[(0,3),(1,22),(2,22),(3,22),(4,22),(5,22),(6,22),(7,22),(8,22),(9,22),(10,22),(11,3),(12,3),(13,3),(14,3),(15,3),(16,3),(17,3),(18,4)]:=by kernel_rfl
 have hn:Tryz.prog.cellsOf 24=19:=by kernel_rfl
 have c0:Tryz.prog.cellsOf 22=1:=by kernel_rfl
 have c1:Tryz.prog.cellsOf 4=1:=by kernel_rfl
 have c2:Tryz.prog.cellsOf 3=1:=by kernel_rfl
 rw [hn] at h1
 rw [hc] at h2
 obtain ⟨a0,a1,a2,a3,a4,a5,a6,a7,a8,a9,a10,a11,a12,a13,a14,a15,a16,a17,a18,rfl⟩: ∃a0 a1 a2 a3 a4 a5 a6 a7 a8 a9 a10 a11 a12 a13 a14 a15 a16 a17 a18,xs=[a0,a1,a2,a3,a4,a5,a6,a7,a8,a9,a10,a11,a12,a13,a14,a15,a16,a17,a18]:=by
  match xs,h1 with
  |[a0,a1,a2,a3,a4,a5,a6,a7,a8,a9,a10,a11,a12,a13,a14,a15,a16,a17,a18],_=>exact ⟨a0,a1,a2,a3,a4,a5,a6,a7,a8,a9,a10,a11,a12,a13,a14,a15,a16,a17,a18,rfl⟩
 have q0:=h2 (0,3) (by simp)
 have q1:=h2 (1,22) (by simp)
 have q2:=h2 (2,22) (by simp)
 have q3:=h2 (3,22) (by simp)
 have q4:=h2 (4,22) (by simp)
 have q5:=h2 (5,22) (by simp)
 have q6:=h2 (6,22) (by simp)
 have q7:=h2 (7,22) (by simp)
 have q8:=h2 (8,22) (by simp)
 have q9:=h2 (9,22) (by simp)
 have q10:=h2 (10,22) (by simp)
 have q11:=h2 (11,3) (by simp)
 have q12:=h2 (12,3) (by simp)
 have q13:=h2 (13,3) (by simp)
 have q14:=h2 (14,3) (by simp)
 have q15:=h2 (15,3) (by simp)
 have q16:=h2 (16,3) (by simp)
 have q17:=h2 (17,3) (by simp)
 have q18:=h2 (18,4) (by simp)
 simp only [c0,c1,c2,List.drop_zero,List.take_succ_cons,List.take_zero,List.drop_succ_cons] at q0 q1 q2 q3 q4 q5 q6 q7 q8 q9 q10 q11 q12 q13 q14 q15 q16 q17 q18
 obtain ⟨n0,e0,w0⟩:=q00q (by kernel_rfl) q0
 obtain ⟨n1,e1,w1⟩:=q00q (by kernel_rfl) q1
 obtain ⟨n2,e2,w2⟩:=q00q (by kernel_rfl) q2
 obtain ⟨n3,e3,w3⟩:=q00q (by kernel_rfl) q3
 obtain ⟨n4,e4,w4⟩:=q00q (by kernel_rfl) q4
 obtain ⟨n5,e5,w5⟩:=q00q (by kernel_rfl) q5
 obtain ⟨n6,e6,w6⟩:=q00q (by kernel_rfl) q6
 obtain ⟨n7,e7,w7⟩:=q00q (by kernel_rfl) q7
 obtain ⟨n8,e8,w8⟩:=q00q (by kernel_rfl) q8
 obtain ⟨n9,e9,w9⟩:=q00q (by kernel_rfl) q9
 obtain ⟨n10,e10,w10⟩:=q00q (by kernel_rfl) q10
 obtain ⟨n11,e11,w11⟩:=q00q (by kernel_rfl) q11
 obtain ⟨n12,e12,w12⟩:=q00q (by kernel_rfl) q12
 obtain ⟨n13,e13,w13⟩:=q00q (by kernel_rfl) q13
 obtain ⟨n14,e14,w14⟩:=q00q (by kernel_rfl) q14
 obtain ⟨n15,e15,w15⟩:=q00q (by kernel_rfl) q15
 obtain ⟨n16,e16,w16⟩:=q00q (by kernel_rfl) q16
 obtain ⟨n17,e17,w17⟩:=q00q (by kernel_rfl) q17
 obtain ⟨n18,e18⟩:=q0lc (by kernel_rfl) q18
 cases e0;cases e1;cases e2;cases e3;cases e4;cases e5;cases e6;cases e7;cases e8;cases e9;cases e10;cases e11;cases e12;cases e13;cases e14;cases e15;cases e16;cases e17;cases e18
 exact ⟨⟨n0,n1,n2,n3,n4,n5,n6,n7,n8,n9,n10,n11,n12,n13,n14,n15,n16,n17,n18⟩,rfl,w0,w1,w2,w3,w4,w5,w6,w7,w8,w9,w10,w11,w12,w13,w14,w15,w16,w17⟩
structure jobOK (j:Job):Prop where
 g:I64 j.g.cols∧I64 j.g.wide∧I64 j.g.gap∧I64 j.g.high∧I64 j.g.first∧I64 j.g.grid∧I64 j.g.rule∧I64 j.g.sep∧I64 j.g.noteMost∧I64 j.g.topMost∧I64 j.g.botMost∧I64 j.g.topMany∧I64 j.g.botMany∧I64 j.g.club∧I64 j.g.widow∧I64 j.g.split∧I64 j.g.defer∧I64 j.g.spare
 items: ∀x∈j.items,(I64 x.k∧I64 x.h∧I64 x.f∧I64 x.str∧I64 x.ord∧I64 x.shr∧I64 x.n)
 notes: ∀n∈j.notes,(n.lines.length≤maxLen∧n.pens.length≤maxLen∧(∀x∈n.lines,I64 x)∧ ∀x∈n.pens,I64 x)
 floats: ∀x∈j.floats,(I64 x.c∧I64 x.h∧I64 x.w)
 n1:j.items.length≤maxLen
 n2:j.notes.length≤maxLen
 n3:j.floats.length≤maxLen
open Go.Proofs in
theorem arg_job {xs:List PV} (h:Shp Tryz.prog 5 29 xs): ∃j:Job,argV Tryz.prog 29 xs=vJob j∧jobOK j:=by
 obtain ⟨h1,h2⟩:=q049 (by kernel_rfl) h
 have hc:comps Tryz.prog 29=[(0,24),(19,25),(20,26),(21,27)]:=by kernel_rfl
 have hn:Tryz.prog.cellsOf 29=22:=by kernel_rfl
 have c0:Tryz.prog.cellsOf 24=19:=by kernel_rfl
 have c1:Tryz.prog.cellsOf 25=1:=by kernel_rfl
 have c2:Tryz.prog.cellsOf 26=1:=by kernel_rfl
 have c3:Tryz.prog.cellsOf 27=1:=by kernel_rfl
 rw [hn] at h1
 rw [hc] at h2
 have q0:=h2 (0,24) (by simp)
 have q1:=h2 (19,25) (by simp)
 have q2:=h2 (20,26) (by simp)
 have q3:=h2 (21,27) (by simp)
 simp only [c0,c1,c2,c3,List.drop_zero] at q0 q1 q2 q3
 obtain ⟨g,e0,w0⟩:=q0wq q0
 obtain ⟨l1,e1,w1,v1⟩:=q035 (e:=42) (enc:=q004) (good:=fun x=>I64 x.k∧I64 x.h∧I64 x.f∧I64 x.str∧I64 x.ord∧I64 x.shr∧I64 x.n) (by kernel_rfl) (fun x hx=>q0lg hx) q1
 obtain ⟨l2,e2,w2,v2⟩:=q035 (e:=146) (enc:=q00e) (good:=fun n=>n.lines.length≤maxLen∧n.pens.length≤maxLen∧(∀x∈n.lines,I64 x)∧ ∀x∈n.pens,I64 x) (by kernel_rfl) (fun x hx=>q0lf hx) q2
 obtain ⟨l3,e3,w3,v3⟩:=q035 (e:=203) (enc:=q009) (good:=fun x=>I64 x.c∧I64 x.h∧I64 x.w) (by kernel_rfl) (fun x hx=>q0t9 hx) q3
 refine ⟨⟨g,l1,l2,l3⟩,?_,w0,v1,v2,v3,w1,w2,w3⟩
 have hx:xs=q0p4 g++[.sl (l1.map q004),.sl (l2.map q00e),.sl (l3.map q009)]:=by
  have t1:xs=xs.take 19++((xs.drop 19).take 1++((xs.drop 20).take 1++(xs.drop 21).take 1)):=by
   have a1:xs.drop 21=(xs.drop 21).take 1:=(List.take_of_length_le (by simp [h1])).symm
   have a2:xs.drop 20=(xs.drop 20).take 1++xs.drop 21:=by rw [←List.drop_drop (i:=1) (j:=20)];exact (List.take_append_drop 1 _).symm
   have a3:xs.drop 19=(xs.drop 19).take 1++xs.drop 20:=by rw [←List.drop_drop (i:=1) (j:=19)];exact (List.take_append_drop 1 _).symm
   rw [←a1,←a2,←a3,List.take_append_drop]
  rw [t1,e0,e1,e2,e3];rfl
 rw [q09a (by kernel_rfl),hx]
 rfl
open Go.Proofs in
theorem arg_int {xs:List PV} (h:Shp Tryz.prog 5 3 xs): ∃n:Int,argV Tryz.prog 3 xs= .p (.int .i64 n)∧I64 n:=by
 obtain ⟨n,rfl,hn⟩:=q00q (by kernel_rfl) h
 exact ⟨n,q0ld (by kernel_rfl),hn⟩
open Go.Proofs in
theorem q0N4 {xs:List PV} (h:Shp Tryz.prog 5 25 xs): ∃l:List Item,argV Tryz.prog 25 xs=q006 l∧l.length≤maxLen∧ ∀x∈l,(I64 x.k∧I64 x.h∧I64 x.f∧I64 x.str∧I64 x.ord∧I64 x.shr∧I64 x.n):=by
 obtain ⟨l,rfl,h1,h2⟩:=q035 (e:=42) (by kernel_rfl) (fun x hx=>q0lg hx) h
 exact ⟨l,q0ld (by kernel_rfl),h1,h2⟩
open Go.Proofs in
theorem q0Qh {xs:List PV} (h:Shp Tryz.prog 5 146 xs): ∃n:Note,argV Tryz.prog 146 xs=vNote n∧(n.lines.length≤maxLen∧n.pens.length≤maxLen∧(∀x∈n.lines,I64 x)∧ ∀x∈n.pens,I64 x):=by
 obtain ⟨n,rfl,hn⟩:=q0lf h
 exact ⟨n,q09a (by kernel_rfl),hn⟩
end Go.EnvOf
