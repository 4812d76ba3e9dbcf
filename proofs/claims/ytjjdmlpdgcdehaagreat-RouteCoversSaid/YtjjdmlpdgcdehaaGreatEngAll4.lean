/- The engine: values, instructions, their evaluation, and that it holds of the program. -/
import Derived.Laws.StructEq
import Derived.ChangeKeysEq
import Derived.Test.YtjjdmlpdgcdehaaGreatEngAll3
namespace Go.Eng
open Go
section
variable {F:Fence} {n:Nat} {P:Program} {o:Oper} {a:Act} {w:World} {Q:Exit->Act->World->Prop}
variable {N:Nat} {G:Gh} {own:Own} {L:Nat->Option Nat} {S S':St} {next:Act->World->Prop}
theorem q074 (d:Nat) {t:TypeId} (ht:P.underlying t=some .bool) (x y:Bool):(Op.equalIn (d+1) t (.bool x) (.bool y)).run P w= .ok (x==y) w:=by
 simp only [Op.equalIn,Sem.run_bind,run_underlying ht,Result.andThen_ok];rfl
theorem q086 {t:TypeId} (ht:P.underlying t=some .bool) (x y:Bool):(Op.equal t (.bool x) (.bool y)).run P w= .ok (x==y) w:=q074 9999 ht x y
theorem ng_op {ng:Bool} {b:BinOp} (h:(if ng=true then b== .neq else b== .eql)=true):(ng=true/\b= .neq)\/(ng=false/\b= .eql):=by
 cases ng<;>simp at h<;>simp [h]
theorem q0zw (hF: ∀f,F.fn f) (h:Sim N G own L S a w) (hd: ∀t,o.dst=some t->t<N) {ng:Bool} {x y:Arg} (hok:okIns P o.op (.eqb ng x y)=true)
  {cl:ClT} (hev:evIns cl o.dst (.eqb ng x y) S=some S') (hn: ∀a' w',Res N G own w a.defers S' a' w'->next a' w'):o.wpIn F n P a w next Q:=by
 obtain ⟨r,hr,hS⟩:=q00y hev
 simp only [okIns] at hok
 split at hok
 ·rename_i b' t u v ty hop
  simp only [Zb] at hok
  obtain ⟨⟨⟨h0,h1⟩,h2⟩,h3⟩:=hok
  split at h3
  ·rename_i hu
   have r1:=q008 h h1
   have r2:=q008 h h2
   unfold eqbV at hr
   split at hr
   ·rename_i p q hx hy
    rw [hx] at r1;rw [hy] at r2
    have e1:=q038 r1;have e2:=q038 r2
    cases hr
    refine q00f hF h hd (by rw [hop];intro c hc;cases hc) (v:= .bool ((p==q) !=ng)) ?_ (.of (.p (.bool _))) hS hn
    have hg: ∀bo,(eqGuard bo t u v (.bool p) (.bool q)).run P w= .ok () w:=by intro bo;unfold eqGuard;split<;>simp
    rcases ng_op h0 with ⟨rfl,rfl⟩|⟨rfl,rfl⟩
    ·simp [execOp,hop,e1,e2,hg,binOp,q086 hu]
    ·simp [execOp,hop,e1,e2,hg,binOp,q086 hu]
   ·cases hr
  ·cases h3
 ·cases hok
theorem q0ab (d:Nat) {t e:TypeId} (ht:P.underlying t=some (.pointer e)) (x:Option Addr):(Op.equalIn (d+1) t (.pointer x) (.pointer none)).run P w= .ok x.isNone w:=by
 simp only [Op.equalIn,Sem.run_bind,run_underlying ht,Result.andThen_ok];cases x<;>rfl
theorem q0ka (d:Nat) {t:TypeId} {ps rs:Array TypeId} {vd:Bool} (ht:P.underlying t=some (.func ps rs vd)):(Op.equalIn (d+1) t .nilFunc .nilFunc).run P w= .ok true w:=by
 simp only [Op.equalIn,Sem.run_bind,run_underlying ht,Result.andThen_ok];rfl
theorem q0kb (d:Nat) {t:TypeId} {ps rs:Array TypeId} {vd:Bool} (ht:P.underlying t=some (.func ps rs vd)) (f:Fn) (x y:Array Value):(Op.equalIn (d+1) t (.func f x y) .nilFunc).run P w= .ok false w:=by
 simp only [Op.equalIn,Sem.run_bind,run_underlying ht,Result.andThen_ok];rfl
theorem q0kc (d:Nat) {t e:TypeId} (ht:P.underlying t=some (.slice e)) (x:Addr) (m c:Nat):(Op.equalIn (d+1) t (.slice (some x) m c) (.slice none 0 0)).run P w= .ok false w:=by
 simp only [Op.equalIn,Sem.run_bind,run_underlying ht,Result.andThen_ok];rfl
theorem q0jf (d:Nat) {t e:TypeId} (ht:P.underlying t=some (.slice e)) (m c:Nat):(Op.equalIn (d+1) t (.slice none m c) (.slice none 0 0)).run P w= .ok true w:=by
 simp only [Op.equalIn,Sem.run_bind,run_underlying ht,Result.andThen_ok];rfl
theorem q0q9 {ng:Bool} {bo:BinOp} {t:TypeId} {v u:Value} {b:Bool} (h0:(if ng=true then bo== .neq else bo== .eql)=true) (x y:Operand)
  (he:(Op.equal t v u).run P w= .ok b w) (hne:(∃ad,v= .pointer ad/\u= .pointer none)\/(∃f p q,v= .func f p q/\u= .nilFunc)\/(v= .nilFunc/\u= .nilFunc)\/(∃ad m c,v= .slice ad m c/\u= .slice none 0 0)):
  (do eqGuard bo t x y v u;binOp bo t v u).run P w= .ok (.bool (b !=ng)) w:=by
 have hg:(eqGuard bo t x y v u).run P w= .ok () w:=by
  rcases hne with ⟨ad,rfl,rfl⟩|⟨f,p,q,rfl,rfl⟩|⟨rfl,rfl⟩|⟨ad,m,c,rfl,rfl⟩<;>(unfold eqGuard;split<;>simp)
 have hb:(binOp bo t v u).run P w= .ok (.bool (b !=ng)) w:=by
  rcases ng_op h0 with ⟨rfl,rfl⟩|⟨rfl,rfl⟩<;>
   rcases hne with ⟨ad,rfl,rfl⟩|⟨f,p,q,rfl,rfl⟩|⟨rfl,rfl⟩|⟨ad,m,c,rfl,rfl⟩<;>simp [binOp,he]
 simp only [Sem.run_bind,hg,Result.andThen_ok,hb]
theorem q0zx (hF: ∀f,F.fn f) (h:Sim N G own L S a w) (hd: ∀t,o.dst=some t->t<N) {k:NK} {ng:Bool} {x:Arg} (hok:okIns P o.op (.eqn k ng x)=true)
  {cl:ClT} (hev:evIns cl o.dst (.eqn k ng x) S=some S') (hn: ∀a' w',Res N G own w a.defers S' a' w'->next a' w'):o.wpIn F n P a w next Q:=by
 obtain ⟨r,hr,hS⟩:=q00y hev
 simp only [okIns] at hok
 split at hok
 ·rename_i b' t u v ty hop
  simp only [Zb] at hok
  obtain ⟨⟨h0,h1⟩,h3⟩:=hok
  have r1:=q008 h h1
  unfold eqnV at hr
  split at hr
  ·rename_i b hb
   cases hr
   have hv:a.eval (.const v)=v:=rfl
   suffices hs: ∃hh:(Op.equal t (a.eval u) v).run P w= .ok b w,(∃ad,a.eval u= .pointer ad/\v= .pointer none)\/(∃f p q,a.eval u= .func f p q/\v= .nilFunc)\/(a.eval u= .nilFunc/\v= .nilFunc)\/(∃ad m c,a.eval u= .slice ad m c/\v= .slice none 0 0) by
    obtain ⟨h5,h6⟩:=hs
    refine q00f hF h hd (by rw [hop];intro c hc;cases hc) (v:= .bool (b !=ng)) ?_ (.of (.p (.bool _))) hS hn
    have:=q0q9 (P:=P) (w:=w) h0 u (.const v) h5 h6
    simp only [execOp,hop,hv,Sem.run_bind] at this⊢
    rw [this];rfl
   split at h3
   ·rename_i e hu
    rcases q0hh r1 hb with ⟨rfl,h5⟩|⟨rfl,ad,h5⟩<;>rw [h5]
    ·exact ⟨q0ab 9999 hu none,.inl ⟨_,rfl,rfl⟩⟩
    ·exact ⟨q0ab 9999 hu _,.inl ⟨_,rfl,rfl⟩⟩
   ·rename_i hu
    rcases q0w4 r1 hb with ⟨rfl,h5⟩|⟨rfl,f,p,q,h5⟩<;>rw [h5]
    ·exact ⟨q0ka 9999 hu,.inr (.inr (.inl ⟨rfl,rfl⟩))⟩
    ·exact ⟨q0kb 9999 hu f p q,.inr (.inl ⟨_,_,_,rfl,rfl⟩)⟩
   ·rename_i e hu
    rcases q0w5 r1 hb with ⟨rfl,c,h5⟩|⟨rfl,ad,m,c,h5⟩<;>rw [h5]
    ·exact ⟨q0jf 9999 hu 0 c,.inr (.inr (.inr ⟨_,_,_,rfl,rfl⟩))⟩
    ·exact ⟨q0kc 9999 hu ad m c,.inr (.inr (.inr ⟨_,_,_,rfl,rfl⟩))⟩
   ·cases h3
  ·cases hr
 ·cases hok
theorem q041: ∀ {sh:List Bool} {xs ys:List V} {b:Bool},q00h sh xs ys=some b->xs.length=sh.length/\ys.length=sh.length
 |[],[],[],_,_=>⟨rfl,rfl⟩
 |s::sh,x::xs,y::ys,b,h=>by
  simp only [q00h] at h
  split at h
  ·rename_i h1 h2
   obtain ⟨q1,q2⟩:=q041 h2
   exact ⟨by simp [q1],by simp [q2]⟩
  ·cases h
 |[],_::_,_,_,h=>by simp [q00h] at h
 |[],[],_::_,_,h=>by simp [q00h] at h
 |_::_,[],_,_,h=>by simp [q00h] at h
 |_::_,_::_,[],_,h=>by simp [q00h] at h
theorem q05t: ∀ {s1 s2:List Bool} {xs ys:List V} {b:Bool},q00h (s1++s2) xs ys=some b->
  ∃b1 b2,q00h s1 (xs.take s1.length) (ys.take s1.length)=some b1/\q00h s2 (xs.drop s1.length) (ys.drop s1.length)=some b2/\b=(b1&&b2)
 |[],s2,xs,ys,b,h=>⟨true,b,by simp,by simpa using h,by simp⟩
 |s::s1,s2,x::xs,y::ys,b,h=>by
  simp only [Zd,q00h] at h
  split at h
  ·rename_i p q h1 h2
   obtain ⟨b1,b2,k1,k2,k3⟩:=q05t h2
   cases h
   refine ⟨p&&b1,b2,?_,by simpa using k2,by rw [k3,Bool.and_assoc]⟩
   simp only [Zg,ZZ,q00h,h1,k1]
  ·cases h
 |_::_,_,[],_,_,h=>by simp [q00h] at h
 |_::_,_,_::_,[],_,h=>by simp [q00h] at h
def EqP (P:Program) (G:Gh) (w:World) (dd:Nat) (t:TypeId) (sh:List Bool):Prop:=
 sh.length=P.cellsOf t-> ∀(c c':Array Value) (off:Nat) (xs ys:List V) (b:Bool),off+sh.length<=c.size->off+sh.length<=c'.size->CRep G (fun j=>c.getD (off+j) undef) xs->CRep G (fun j=>c'.getD (off+j) undef) ys->
  q00h sh xs ys=some b-> ∃v v',(part t c off).run P w= .ok v w/\(part t c' off).run P w= .ok v' w/\(Op.equalIn dd t v v').run P w= .ok b w
theorem CRep.takeN {f:Nat->Value} {xs:List V} (h:CRep G f xs) (n:Nat):CRep G f (xs.take n):=fun j hj=>by
 have:=h j (by simp at hj;omega)
 simpa using this
theorem CRep.dropN {c:Array Value} {off:Nat} {xs:List V} (h:CRep G (fun j=>c.getD (off+j) undef) xs) (n:Nat):CRep G (fun j=>c.getD (off+n+j) undef) (xs.drop n):=fun j hj=>by
 have:=h (n+j) (by simp at hj;omega)
 simp only [Z7]
 rw [Z3];exact this
theorem q0ac {dd d:Nat} (IH: ∀t sh,q023 P d t=some sh->EqP P G w dd t sh): ∀(fs:List Field) (e:Nat) (sh:List Bool),q05e P (q023 P d) e fs=some sh->
  ∀(c c':Array Value) (xs ys:List V) (b:Bool),e+sh.length<=c.size->e+sh.length<=c'.size->CRep G (fun j=>c.getD (e+j) undef) xs->CRep G (fun j=>c'.getD (e+j) undef) ys->
  q00h sh xs ys=some b->(Op.eqFields dd c c' fs).run P w= .ok b w
 |[],e,sh,h,c,c',xs,ys,b,_,_,_,_,hb=>by
  simp only [q05e] at h;cases h
  match xs,ys,hb with
  |[],[],hb=>simp only [q00h] at hb;cases hb;simp [Op.eqFields]
 |f::r,e,sh,h,c,c',xs,ys,b,hc,hc',hx,hy,hb=>by
  simp only [q05e] at h
  split at h
  ·rename_i hcond
   simp only [Zb,bne_iff_ne,beq_iff_eq] at hcond
   obtain ⟨⟨hn,ho⟩,hi⟩:=hcond
   split at h
   ·rename_i s1 hs1
    split at h
    ·rename_i hl
     cases hr:q05e P (q023 P d) (e+P.cellsOf f.type) r with
     |none=>rw [hr] at h;cases h
     |some s2=>
      rw [hr] at h
      cases h
      obtain ⟨b1,b2,k1,k2,rfl⟩:=q05t hb
      simp only [Zt] at hc hc'
      obtain ⟨v,v',p1,p2,p3⟩:=IH f.type s1 hs1 hl c c' e _ _ b1 (by omega) (by omega) (hx.takeN _) (hy.takeN _) k1
      have rest:=q0ac IH r (e+P.cellsOf f.type) s2 hr c c' (xs.drop s1.length) (ys.drop s1.length) b2 (by omega) (by omega) (hl▸hx.dropN _) (hl▸hy.dropN _) k2
      simp only [Op.eqFields,hn,ne_eq,not_false_eq_true,if_true,Sem.run_bind,ho,p1,p2,p3,Result.andThen_ok]
      cases b1
      ·simp
      ·simpa using rest
    ·cases h
   ·cases h
  ·cases h
theorem q0cq {dd d:Nat} {t:TypeId} {sh:List Bool} (IH:EqP P G w dd t sh) (hl:sh.length=P.cellsOf t): ∀(n i:Nat) (c c':Array Value) (off:Nat) (xs ys:List V) (b:Bool),
  off+i*sh.length+(List.replicate n sh).flatten.length<=c.size->off+i*sh.length+(List.replicate n sh).flatten.length<=c'.size->CRep G (fun j=>c.getD (off+i*sh.length+j) undef) xs->CRep G (fun j=>c'.getD (off+i*sh.length+j) undef) ys->
  q00h (List.replicate n sh).flatten xs ys=some b->off=0->(Op.eqItems dd t (P.cellsOf t) c c' (List.range' i n)).run P w= .ok b w
 |0,i,c,c',off,xs,ys,b,_,_,_,_,hb,_=>by
  simp only [List.replicate_zero,List.flatten_nil] at hb
  match xs,ys,hb with
  |[],[],hb=>simp only [q00h] at hb;cases hb;simp [Op.eqItems]
 |n+1,i,c,c',off,xs,ys,b,hc,hc',hx,hy,hb,h0=>by
  subst h0
  simp only [Z9,List.flatten_cons] at hb hc hc'
  obtain ⟨b1,b2,k1,k2,rfl⟩:=q05t hb
  simp only [Zt] at hc hc'
  obtain ⟨v,v',p1,p2,p3⟩:=IH hl c c' (0+i*sh.length) _ _ b1 (by omega) (by omega) (hx.takeN _) (hy.takeN _) k1
  have e1:0+i*sh.length+sh.length=0+(i+1)*sh.length:=by rw [ZO];omega
  have rest:=q0cq (d:=d) IH hl n (i+1) c c' 0 (xs.drop sh.length) (ys.drop sh.length) b2 (by rw [<-e1];omega) (by rw [<-e1];omega) (by rw [<-e1];exact hx.dropN _) (by rw [<-e1];exact hy.dropN _) k2 rfl
  simp only [Zs,hl] at p1 p2
  simp only [List.range'_succ,Op.eqItems,Sem.run_bind,p1,p2,p3,Result.andThen_ok]
  cases b1
  ·simp
  ·simpa using rest
theorem q04i {x y:V} {b:Bool} (h:q02l true x y=some b): ∃k a a',x= .p (.int k a)/\y= .p (.int k a')/\b=decide (a=a'):=by
 unfold q02l at h
 split at h
 ·split at h
  ·rename_i hk;subst hk;cases h;exact ⟨_,_,_,rfl,rfl,rfl⟩
  ·cases h
 ·rename_i hh;cases hh
 ·cases h
theorem q05g {x y:V} {b:Bool} (h:q02l false x y=some b): ∃a a',x= .p (.bool a)/\y= .p (.bool a')/\b=(a==a'):=by
 unfold q02l at h
 split at h
 ·rename_i hh;cases hh
 ·cases h;exact ⟨_,_,rfl,rfl,rfl⟩
 ·cases h
theorem q0s8 {dd:Nat} {t:TypeId} {s:Bool} (hs:sizeB P t 1=true) (ha:aggB P t false=true)
  (hq: ∀v v' x y b,VRep G v x->VRep G v' y->q02l s x y=some b->(Op.equalIn dd t v v').run P w= .ok b w):EqP P G w dd t [s]:=by
 intro hcl c c' off xs ys b hc hc' hx hy hb
 obtain ⟨i,hi,hsz⟩:=q017 hs
 obtain ⟨l1,l2⟩:=q041 hb
 obtain ⟨x,rfl⟩:=List.length_eq_one_iff.1 l1
 obtain ⟨y,rfl⟩:=List.length_eq_one_iff.1 l2
 have hx0:=hx 0 (by simp)
 have hy0:=hy 0 (by simp)
 simp only [Nat.add_zero,Z8] at hx0 hy0
 simp only [List.length_singleton] at hc hc'
 have p1:=q02i (w:=w) ha hi hsz (.inr rfl) hc
 have p2:=q02i (w:=w) ha hi hsz (.inr rfl) hc'
 simp only [Zh,if_false] at p1 p2
 simp only [q00h] at hb
 split at hb
 ·rename_i b1 b2 h1 h2
  cases h2;cases hb
  exact ⟨_,_,p1,p2,by rw [hq _ _ _ _ _ hx0 hy0 h1,Bool.and_true]⟩
 ·cases hb
theorem q08z: ∀(d:Nat) (t:TypeId) (sh:List Bool),q023 P d t=some sh-> ∀k,EqP P G w (k+d) t sh
 |0,t,sh,h,k=>by simp [q023] at h
 |d+1,t,sh,h,k=>by
  simp only [q023] at h
  have agg: ∀(hcl:sh.length=P.cellsOf t) (ha:aggB P t true=true) {i:TypeInfo} (hi:P.info? t=some i)
    (hq: ∀(c c':Array Value) (xs ys:List V) (b:Bool),0+sh.length<=c.size->0+sh.length<=c'.size->CRep G (fun j=>c.getD (0+j) undef) xs->CRep G (fun j=>c'.getD (0+j) undef) ys->
     q00h sh xs ys=some b->(Op.equalIn (k+(d+1)) t (.agg c) (.agg c')).run P w= .ok b w),EqP P G w (k+(d+1)) t sh:=by
   intro hcl ha i hi hq _ c c' off xs ys b hc hc' hx hy hb
   have hsz:i.size=sh.length:=by rw [hcl];simp [Program.cellsOf,hi]
   have p1:=q02i (w:=w) ha hi hsz (.inl rfl) hc
   have p2:=q02i (w:=w) ha hi hsz (.inl rfl) hc'
   simp only [if_true] at p1 p2
   obtain ⟨l1,l2⟩:=q041 hb
   refine ⟨_,_,p1,p2,hq _ _ xs ys b (by simp) (by simp) (fun j hj=> ?_) (fun j hj=> ?_) hb⟩
   ·have:=hx j hj
    have hlt:j<sh.length:=by omega
    simpa [Zc,hlt] using this
   ·have:=hy j hj
    have hlt:j<sh.length:=by omega
    simpa [Zc,hlt] using this
  split at h
  ·rename_i q hu
   split at h
   ·rename_i hs
    cases h
    refine q0s8 hs (by simp [aggB,hu]) fun v v' x y b hx hy hb=> ?_
    obtain ⟨k',a,a',rfl,rfl,rfl⟩:=q04i hb
    rw [q00t (L:=fun _=>none) (.of hx),q00t (L:=fun _=>none) (.of hy),show k+(d+1)=(k+d)+1 from rfl,run_equalIn_int _ _ _ _ _ _ _ hu]
    rfl
   ·cases h
  ·rename_i hu
   split at h
   ·rename_i hs
    cases h
    refine q0s8 hs (by simp [aggB,hu]) fun v v' x y b hx hy hb=> ?_
    obtain ⟨a,a',rfl,rfl,rfl⟩:=q05g hb
    rw [q038 (L:=fun _=>none) (.of hx),q038 (L:=fun _=>none) (.of hy),show k+(d+1)=(k+d)+1 from rfl,q074 _ hu]
   ·cases h
  ·rename_i fs hu
   split at h
   ·rename_i hst
    have hfo:P.fieldsOf t=fs:=by simp [Program.fieldsOf,hu]
    obtain ⟨i,hi⟩:=info_of_underlying hu
    intro hcl
    refine agg hcl (by simp [aggB,hu]) hi (fun c c' xs ys b hc hc' hx hy hb=> ?_) hcl
    rw [show k+(d+1)=(k+d)+1 from rfl,run_equalIn_struct _ _ _ _ _ (by rw [hfo];exact hu) hst,hfo]
    exact q0ac (fun t sh h=>q08z d t sh h k) fs.toList 0 sh h c c' xs ys b hc hc' hx hy hb
   ·cases h
  ·rename_i m e hu
   split at h
   ·rename_i s1 hs1
    split at h
    ·rename_i hl
     cases h
     obtain ⟨i,hi⟩:=info_of_underlying hu
     intro hcl
     refine agg hcl (by simp [aggB,hu]) hi (fun c c' xs ys b hc hc' hx hy hb=> ?_) hcl
     by_cases hm:m=0
     ·subst hm
      simp only [List.replicate_zero,List.flatten_nil] at hb
      match xs,ys,hb with
      |[],[],hb=>
       simp only [q00h] at hb;cases hb
       rw [show k+(d+1)=(k+d)+1 from rfl]
       have hie: ∃ie,P.info? e=some ie:=by
        unfold q023 at hs1
        split at hs1
        ·cases hs1
        ·cases hue:P.underlying e with
         |none=>rw [hue] at hs1;cases hs1
         |some z=>exact info_of_underlying hue
       obtain ⟨ie,hie⟩:=hie
       rw [run_equalIn_array _ _ _ _ hu hie]
       simp [Op.eqItems]
     ·have hie: ∃ie,P.info? e=some ie:=by
       unfold q023 at hs1
       split at hs1
       ·cases hs1
       ·cases hue:P.underlying e with
        |none=>rw [hue] at hs1;cases hs1
        |some z=>exact info_of_underlying hue
      obtain ⟨ie,hie⟩:=hie
      rw [show k+(d+1)=(k+d)+1 from rfl,run_equalIn_array _ _ _ _ hu hie,List.range_eq_range']
      exact q0cq (d:=d) (q08z d e s1 hs1 k) hl m 0 c c' 0 xs ys b (by simpa using hc) (by simpa using hc') (by simpa using hx) (by simpa using hy) hb rfl
    ·cases h
   ·cases h
  ·cases h
theorem q0zy (hF: ∀f,F.fn f) (h:Sim N G own L S a w) (hd: ∀t,o.dst=some t->t<N) {ng:Bool} {sh:List Bool} {x y:Arg} (hok:okIns P o.op (.eqa ng sh x y)=true)
  {cl:ClT} (hev:evIns cl o.dst (.eqa ng sh x y) S=some S') (hn: ∀a' w',Res N G own w a.defers S' a' w'->next a' w'):o.wpIn F n P a w next Q:=by
 obtain ⟨r,hr,hS⟩:=q00y hev
 simp only [okIns] at hok
 split at hok
 ·rename_i b' t u v ty hop
  simp only [Zb] at hok
  obtain ⟨⟨⟨h0,h1⟩,h2⟩,h3⟩:=hok
  simp only [flatT,Zb,beq_iff_eq,Bool.not_eq_true'] at h3
  obtain ⟨⟨⟨q1,q2⟩,q3⟩,q4⟩:=h3
  have r1:=q008 h h1
  have r2:=q008 h h2
  unfold eqaV at hr
  split at hr
  ·rename_i xs ys hx hy
   rw [hx] at r1;rw [hy] at r2
   split at hr
   ·rename_i b hb
    cases hr
    obtain ⟨c,e1,s1,c1⟩:=q06p r1
    obtain ⟨c',e2,s2,c2⟩:=q06p r2
    obtain ⟨l1,l2⟩:=q041 hb
    obtain ⟨i,hi⟩: ∃i,P.info? t=some i:=by
     unfold aggB at q3
     split at q3
     ·exact info_of_underlying ‹_›
     ·exact info_of_underlying ‹_›
     ·exact info_of_underlying ‹_›
     ·cases q3
    have hsz:i.size=sh.length:=by rw [q2];simp [Program.cellsOf,hi]
    obtain ⟨v1,v2,p1,p2,p3⟩:=q08z (w:=w) 50 t sh q1 9950 q2 c c' 0 xs ys b (by omega) (by omega) (by simpa using c1) (by simpa using c2) hb
    have g1:=q02i (P:=P) (w:=w) q3 hi hsz (.inl rfl) (c:=c) (off:=0) (by omega)
    have g2:=q02i (P:=P) (w:=w) q3 hi hsz (.inl rfl) (c:=c') (off:=0) (by omega)
    have same: ∀(d:Array Value),d.size=sh.length->Value.agg ((List.range sh.length).map fun j=>d.getD (0+j) undef).toArray= .agg d:=by
     intro d hds
     congr 1
     apply Array.ext'
     apply List.ext_getElem?
     intro j
     by_cases hj:j<sh.length
     ·have:j<d.size:=by omega
      simp [hj,Zc,this]
     ·have: ¬j<d.size:=by omega
      simp [hj,this]
    simp only [if_true] at g1 g2
    rw [same c (by omega)] at g1
    rw [same c' (by omega)] at g2
    rw [p1] at g1;rw [p2] at g2
    cases g1;cases g2
    refine q00f hF h hd (by rw [hop];intro c hc;cases hc) (v:= .bool (b !=ng)) ?_ (.of (.p (.bool _))) hS hn
    have hg: ∀bo,(eqGuard bo t u v (.agg c) (.agg c')).run P w= .ok () w:=fun bo=>run_eqGuard_agg _ bo t u v c c' q4
    rcases ng_op h0 with ⟨rfl,rfl⟩|⟨rfl,rfl⟩
    ·simp [execOp,hop,e1,e2,hg,run_neq_struct,p3,Result.andThen]
    ·simp [execOp,hop,e1,e2,hg,run_eql_struct,p3,Result.andThen]
   ·cases hr
  ·cases hr
 ·cases hok
theorem q0nl (d:Nat) {t:TypeId} (ht:P.underlying t=some .string) (x y:ByteArray):(Op.equalIn (d+1) t (.string x) (.string y)).run P w= .ok (x==y) w:=by
 simp only [Op.equalIn,Sem.run_bind,run_underlying ht,Result.andThen_ok];rfl
theorem q0fv {v:Value} {s:ByteArray} (h:SRep G L v (.p (.str s))):v= .string s:=by cases h with|p h=>cases h;rfl
theorem q0zz (hF: ∀f,F.fn f) (h:Sim N G own L S a w) (hd: ∀t,o.dst=some t->t<N) {ng:Bool} {x y:Arg} (hok:okIns P o.op (.eqs ng x y)=true)
  {cl:ClT} (hev:evIns cl o.dst (.eqs ng x y) S=some S') (hn: ∀a' w',Res N G own w a.defers S' a' w'->next a' w'):o.wpIn F n P a w next Q:=by
 obtain ⟨r,hr,hS⟩:=q00y hev
 simp only [okIns] at hok
 split at hok
 ·rename_i b' t u v ty hop
  simp only [Zb] at hok
  obtain ⟨⟨⟨h0,h1⟩,h2⟩,h3⟩:=hok
  split at h3
  ·rename_i hu
   have r1:=q008 h h1
   have r2:=q008 h h2
   unfold eqsV at hr
   split at hr
   ·rename_i p q hx hy
    rw [hx] at r1;rw [hy] at r2
    have e1:=q0fv r1;have e2:=q0fv r2
    cases hr
    refine q00f hF h hd (by rw [hop];intro c hc;cases hc) (v:= .bool ((p==q) !=ng)) ?_ (.of (.p (.bool _))) hS hn
    have hg: ∀bo,(eqGuard bo t u v (.string p) (.string q)).run P w= .ok () w:=by intro bo;unfold eqGuard;split<;>simp
    rcases ng_op h0 with ⟨rfl,rfl⟩|⟨rfl,rfl⟩
    ·simp [execOp,hop,e1,e2,hg,binOp,Op.stringOp,(beq_toListBytes p q).symm]
    ·simp [execOp,hop,e1,e2,hg,binOp,Op.stringOp,(beq_toListBytes p q).symm]
   ·cases hr
  ·cases h3
 ·cases hok
theorem q0A0 (hF: ∀f,F.fn f) (h:Sim N G own L S a w) (hd: ∀t,o.dst=some t->t<N) {x y:Arg} (hok:okIns P o.op (.ixc x y)=true)
  {cl:ClT} (hev:evIns cl o.dst (.ixc x y) S=some S') (hn: ∀a' w',Res N G own w a.defers S' a' w'->next a' w'):o.wpIn F n P a w next Q:=by
 obtain ⟨r,hr,hS⟩:=q00y hev
 simp only [okIns] at hok
 split at hok
 ·rename_i t u v hop
  simp only [Zb] at hok
  obtain ⟨⟨h1,h2⟩,h3⟩:=hok
  split at h3
  ·rename_i hu
   have r1:=q008 h h1
   have r2:=q008 h h2
   unfold ixcV at hr
   split at hr
   ·rename_i s k i hx hy
    rw [hx] at r1;rw [hy] at r2
    have e1:=q0fv r1;have e2:=q00t r2
    split at hr
    ·rename_i h0
     split at hr
     ·rename_i b hb
      cases hr
      refine q00f hF h hd (by rw [hop];intro c hc;cases hc) (v:= .int .u8 b.toNat) ?_ (.of (.p (.int _ _))) hS hn
      simp [execOp,hop,e1,e2,Instr.index,asIntOf,run_underlying hu,h0,hb]
     ·cases hr
    ·cases hr
   ·cases hr
  ·cases h3
 ·cases hok
theorem q03f {k:IntKind} {i:Int} {y:Nat} {code:BoundsCode} (h0:0<=i) (h1:i<=y):(Instr.sliceBound (.int k i) y code).run P w= .ok i.toNat w:=by
 simp [Instr.sliceBound,asIntOf,h0,h1]
theorem q0w6 (hF: ∀f,F.fn f) (h:Sim N G own L S a w) (hd: ∀t,o.dst=some t->t<N) {x:Arg} {lo:Option Arg} {s m:Nat} (hok:okIns P o.op (.slca x lo s m)=true)
  {cl:ClT} (hev:evIns cl o.dst (.slca x lo s m) S=some S') (hn: ∀a' w',Res N G own w a.defers S' a' w'->next a' w'):o.wpIn F n P a w next Q:=by
 obtain ⟨r,hr,hS⟩:=q00y hev
 simp only [okIns] at hok
 split at hok
 ·rename_i t u l hh mx hop
  simp only [Zb] at hok
  obtain ⟨⟨⟨⟨h1,h2⟩,h3⟩,h4⟩,h5⟩:=hok
  have e2:hh=none:=by cases hh<;>simp at h2⊢
  have e3:mx=none:=by cases mx<;>simp at h3⊢
  subst e2 e3
  split at h4
  ·rename_i m' e hu
   simp only [Zb,beq_iff_eq] at h4
   obtain ⟨rfl,hsz⟩:=h4
   obtain ⟨ie,hie,hsz⟩:=q017 hsz
   have r1:=q008 h h1
   unfold slcaV at hr
   split at hr
   ·rename_i hl
    have e1:lo=none:=by cases lo<;>simp at hl⊢
    subst e1
    have e4:l=none:=by cases l<;>simp at h5⊢
    subst e4
    split at hr
    ·rename_i id off hx
     rw [hx] at r1
     generalize hva:a.eval u=va at r1
     cases r1 with
     |ptr _ _ b hb=>
      have run:(execOp a.eval o).run P w= .ok (.value (.slice (some (if m=0 then ⟨b,off,none⟩ else (⟨b,off,none⟩:Addr).add (0*s))) m m)) w:=by
       simp [execOp,hop,hva,Instr.sliceAt,Instr.sureAddr,run_underlying hu,Instr.sliceBounds,q01m hie,hsz]
      split at hr
      ·rename_i hm
       cases hr
       subst hm
       exact q00f hF h hd (by rw [hop];intro c hc;cases hc) run (.of (VRep.nils _)) hS hn
      ·rename_i hm
       cases hr
       rw [if_neg hm] at run
       refine q00f hF h hd (by rw [hop];intro c hc;cases hc) run (.of ?_) hS hn
       rw [Addr.add_lit,Nat.zero_mul,Nat.add_zero]
       exact VRep.bvs _ _ _ _ _ _ hb (Zm _) (by omega)
    ·cases hr
   ·rename_i k z hl
    cases lo with
    |none=>cases hl
    |some lo=>
    cases l with
    |none=>simp at h5
    |some y=>
     have ry:=q008 h h5
     simp only [ZH,Option.some.injEq] at hl
     rw [hl] at ry;have ey:=q00t ry
     split at hr
     ·rename_i id off hx
      rw [hx] at r1
      generalize hva:a.eval u=va at r1
      cases r1 with
      |ptr _ _ b hb=>
       split at hr
       ·rename_i hz
        have run:(execOp a.eval o).run P w= .ok (.value (.slice (some (if m=z.toNat then ⟨b,off,none⟩ else (⟨b,off,none⟩:Addr).add (z.toNat*s))) (m-z.toNat) (m-z.toNat))) w:=by
         simp [execOp,hop,hva,ey,Instr.sliceAt,Instr.sureAddr,run_underlying hu,Instr.sliceBounds,q01m hie,hsz,q03f hz.1 hz.2]
        split at hr
        ·rename_i hm
         cases hr
         rw [hm,Nat.sub_self] at run
         exact q00f hF h hd (by rw [hop];intro c hc;cases hc) run (.of (VRep.nils _)) hS hn
        ·rename_i hm
         cases hr
         rw [if_neg (fun e=>hm e.symm)] at run
         refine q00f hF h hd (by rw [hop];intro c hc;cases hc) run (.of ?_) hS hn
         rw [Addr.add_lit]
         exact VRep.bvs _ _ _ _ _ _ hb (Zm _) (by omega)
       ·cases hr
     ·cases hr
   ·cases hr
  ·cases h4
 ·cases hok
theorem q0A1 (hF: ∀f,F.fn f) (h:Sim N G own L S a w) (hd: ∀t,o.dst=some t->t<N) {x:Arg} (hok:okIns P o.op (.nck x)=true)
  {cl:ClT} (hev:evIns cl o.dst (.nck x) S=some S') (hn: ∀a' w',Res N G own w a.defers S' a' w'->next a' w'):o.wpIn F n P a w next Q:=by
 obtain ⟨r,hr,hS⟩:=q00y hev
 simp only [okIns] at hok
 split at hok
 ·rename_i u hop
  have r1:=q008 h hok
  unfold nckV at hr
  split at hr
  ·rename_i hb
   cases hr
   rcases q0hh r1 hb with ⟨hh,_⟩|⟨_,ad,hv⟩
   ·cases hh
   ·rw [hv] at r1
    exact q00f hF h hd (by rw [hop];intro c hc;cases hc) (v:= .pointer (some ad)) (by simp [execOp,hop,hv]) r1 hS hn
  ·cases hr
 ·cases hok
theorem q0s9 {v:Value} {x:V} (h:VRep G v x):VRep G v (normC x):=by
 cases x with
 |nils=>
  cases h with|nils ad=>exact .p (.sl0 ad 0)
 |_=>exact h
theorem q0sa {v:Value} {x:V} (h:SRep G L v x) (ho:(normA x).outB=true):VRep G v (normA x):=by
 cases x with
 |nils=>
  cases h with|nils ad=>exact .p (.sl0 ad 0)
 |lptr s o=>simp [normA,V.outB] at ho
 |agg xs=>
  cases h with
  |agg cs _ hs hc=>
   exact .agg cs (xs.map normC) (by simpa using hs) fun j hj=>by
    simp only [Z1]
    exact q0s9 (hc j (by simpa using hj))
 |_=>exact h
theorem q048 (h:Sim N G own L S a w) {xs:List Operand} {bs:List Arg} (hx:q01u xs bs=true) (ho:(bs.map fun b=>normA (S.arg b)).all V.outB=true):
  (xs.toArray.map a.eval).size=(bs.map fun b=>normA (S.arg b)).length/\
  ∀j (hj:j<(bs.map fun b=>normA (S.arg b)).length),VRep G ((xs.toArray.map a.eval).getD j undef) ((bs.map fun b=>normA (S.arg b))[j]):=by
 obtain ⟨h1,h2⟩:=q0ed h hx
 refine ⟨by simp [h1],fun j hj=> ?_⟩
 have hj2:j<bs.length:=by simpa using hj
 have hj1:j<xs.length:=by omega
 have:=h2 j hj1 hj2
 have ho':=(Zn.1 ho) ((bs.map fun b=>normA (S.arg b))[j]) (ZK _)
 simp only [Z1] at ho'⊢
 have e:(xs.toArray.map a.eval).getD j undef=a.eval xs[j]:=by simp [Zc,hj1]
 rw [e]
 exact q0sa this ho'
theorem q0A2 (hF: ∀f,F.fn f) (h:Sim N G own L S a w) (hd: ∀t,o.dst=some t->t<N) {f:Fn} {as bs:List Arg} (hok:okIns P o.op (.mkf f as bs)=true)
  {cl:ClT} (hev:evIns cl o.dst (.mkf f as bs) S=some S') (hn: ∀a' w',Res N G own w a.defers S' a' w'->next a' w'):o.wpIn F n P a w next Q:=by
 obtain ⟨r,hr,hS⟩:=q00y hev
 simp only [okIns] at hok
 split at hok
 ·rename_i g xs ys hop
  simp only [Zb,decide_eq_true_eq] at hok
  obtain ⟨⟨rfl,h1⟩,h2⟩:=hok
  unfold mkfV at hr
  split at hr
  ·rename_i ho
   cases hr
   obtain ⟨a1,a2⟩:=q048 h h1 ho.1
   obtain ⟨b1,b2⟩:=q048 h h2 ho.2
   simp only [Z5] at a1 a2 b1 b2
   exact q00f hF h hd (by rw [hop];intro c hc;cases hc) (v:= .func f (xs.map a.eval) (ys.map a.eval)) (by simp [execOp,hop,Instr.makeFunc]) (.of (.fn _ _ _ _ _ a1 b1 a2 b2)) hS hn
  ·cases hr
 ·cases hok
theorem q0kd {α:Type} {es:List (List α)} {s s':Nat} (h:q066 s es=true) (hn:0<es.length) (hs: ∀i (h:i<es.length),(es[i]).length=s'):s'=s:=by
 cases es with
 |nil=>simp at hn
 |cons e r=>rw [<-hs 0 (by simp)];simpa [q066] using h
theorem q0c0 {H:Heap} {loc:List (Nat×List V)} (hw:WOK G own H L loc w) {s:Nat} {v:Value} {x r:V} {lo hi:Option Int} (h:SRep G L v x) (hr:slcV H s x lo hi=some r):
  ∃ad len cap,v= .slice ad len cap/\0<=lo.getD 0/\lo.getD 0<=hi.getD len/\hi.getD len<=(len:Int)/\len<=cap/\
   VRep G (.slice (if cap=(lo.getD 0).toNat then ad else ad.map (·.add ((lo.getD 0).toNat*s))) ((hi.getD len).toNat-(lo.getD 0).toNat) (cap-(lo.getD 0).toNat)) r:=by
 unfold slcV at hr
 split at hr
 ·cases hr
 ·rename_i m hl
  split at hr
  ·rename_i hb
   obtain ⟨h0,h1,h2⟩:=hb
   split at hr
   ·rename_i es
    split at hr
    ·rename_i hh
     cases hr
     cases hl
     cases h with
     |p hp=>
      cases hp with
      |sl0 ad cap=>
       refine ⟨ad,0,cap,rfl,h0,h1,h2,Zj _,?_⟩
       simp only [Zq] at h1 h2
       have e:((hi.getD ((0:Nat):Int)).toNat-(lo.getD 0).toNat)=0:=by omega
       rw [e]
       simp only [List.drop_nil,List.take_nil]
       exact .p (.sl0 _ _)
      |sl b off cap s' _ c hn hc hs hI hR=>
       have:=q0kd hh hn hs
       subst this
       refine ⟨_,_,cap,rfl,h0,h1,h2,hc,?_⟩
       by_cases hz:(hi.getD (es.length:Int)).toNat-(lo.getD 0).toNat=0
       ·rw [hz]
        have e:(hi.getD (es.length:Int)-lo.getD 0).toNat=0:=by omega
        rw [e,List.take_zero]
        exact .p (.sl0 _ _)
       ·have hne:cap≠(lo.getD 0).toNat:=by omega
        rw [if_neg hne]
        simp only [ZH,Addr.add_lit]
        have hlen:((es.drop (lo.getD 0).toNat).take (hi.getD (es.length:Int)-lo.getD 0).toNat).length=(hi.getD (es.length:Int)).toNat-(lo.getD 0).toNat:=by simp;omega
        rw [<-hlen]
        refine .p (.sl b (off+(lo.getD 0).toNat*s') (cap-(lo.getD 0).toNat) s' _ (fun i j=>c ((lo.getD 0).toNat+i) j) (by omega) (by omega) ?_ ?_ ?_)
        ·intro i hi';simp only [List.getElem_take,Z7];exact hs _ _
        ·intro i j hi' hj
         have:=hI ((lo.getD 0).toNat+i) j (by omega) hj
         rwa [Nat.add_mul,<-Z3] at this
        ·intro i j hi' hj
         simp only [List.getElem_take,Z7]
         exact hR _ _ _ _
    ·cases hr
   ·rename_i es
    split at hr
    ·rename_i hh
     cases hr
     cases hl
     cases h with
     |vsl0 ad cap=>
      refine ⟨ad,0,cap,rfl,h0,h1,h2,Zj _,?_⟩
      simp only [Zq] at h1 h2
      have e:((hi.getD ((0:Nat):Int)).toNat-(lo.getD 0).toNat)=0:=by omega
      rw [e]
      simp only [List.drop_nil,List.take_nil]
      exact .vsl0 _ _
     |vsl b off cap s' _ c hn hc hs hI hR=>
      have:=q0kd hh hn hs
      subst this
      refine ⟨_,_,cap,rfl,h0,h1,h2,hc,?_⟩
      by_cases hz:(hi.getD (es.length:Int)).toNat-(lo.getD 0).toNat=0
      ·rw [hz]
       have e:(hi.getD (es.length:Int)-lo.getD 0).toNat=0:=by omega
       rw [e,List.take_zero]
       exact .vsl0 _ _
      ·have hne:cap≠(lo.getD 0).toNat:=by omega
       rw [if_neg hne]
       simp only [ZH,Addr.add_lit]
       have hlen:((es.drop (lo.getD 0).toNat).take (hi.getD (es.length:Int)-lo.getD 0).toNat).length=(hi.getD (es.length:Int)).toNat-(lo.getD 0).toNat:=by simp;omega
       rw [<-hlen]
       refine .vsl b (off+(lo.getD 0).toNat*s') (cap-(lo.getD 0).toNat) s' _ (fun i j=>c ((lo.getD 0).toNat+i) j) (by omega) (by omega) ?_ ?_ ?_
       ·intro i hi';simp only [List.getElem_take,Z7];exact hs _ _
       ·intro i j hi' hj
        have:=hI ((lo.getD 0).toNat+i) j (by omega) hj
        rwa [Nat.add_mul,<-Z3] at this
       ·intro i j hi' hj
        simp only [List.getElem_take,Z7]
        exact hR _ _ _ _
    ·cases hr
   ·cases hr
    cases hl
    cases h with
    |nils ad=>
     refine ⟨ad,0,0,rfl,h0,h1,h2,Zj _,?_⟩
     have e1:(lo.getD 0).toNat=0:=by omega
     have e2:((hi.getD ((0:Nat):Int)).toNat-(lo.getD 0).toNat)=0:=by omega
     rw [e2,e1]
     simp only [if_true]
     exact .nils ad
   ·rename_i id tot off m'
    split at hr
    ·rename_i s' es hro
     split at hr
     ·rename_i hc
      obtain ⟨hc1,rfl⟩:=hc
      cases hr
      cases hl
      cases h with
      |rown _ hg=>
       refine ⟨none,0,0,rfl,h0,h1,h2,Zj _,?_⟩
       have e1:(lo.getD 0).toNat=0:=by omega
       have e2:((hi.getD ((0:Nat):Int)).toNat-(lo.getD 0).toNat)=0:=by omega
       have e3:(hi.getD ((0:Nat):Int)-lo.getD 0).toNat=0:=by omega
       rw [e3,e2,e1]
       simp only [if_true]
       exact .rown _ hg
      |rowz _ _ _ ho ad cap=>
       refine ⟨ad,0,cap,rfl,h0,h1,h2,Zj _,?_⟩
       have e2:((hi.getD ((0:Nat):Int)).toNat-(lo.getD 0).toNat)=0:=by omega
       have e3:(hi.getD ((0:Nat):Int)-lo.getD 0).toNat=0:=by omega
       rw [e3,e2]
       exact .rowz _ _ _ (by omega) _ _
      |row _ _ _ _ b s'' cap hg h1' h2'=>
       obtain ⟨rfl,-⟩:=q04v hw hro (hc1▸hg)
       refine ⟨_,_,cap-off,rfl,h0,h1,h2,by omega,?_⟩
       by_cases hz:cap-off=(lo.getD 0).toNat
       ·rw [if_pos hz]
        have e2:((hi.getD (m:Int)).toNat-(lo.getD 0).toNat)=0:=by omega
        have e3:(hi.getD (m:Int)-lo.getD 0).toNat=0:=by omega
        rw [e3,e2]
        by_cases hoff:off+(lo.getD 0).toNat=0
        ·have e4:(lo.getD 0).toNat=0:=by omega
         have e5:off=0:=by omega
         rw [e4,e5]
         have:=VRep.row (G:=G) id tot 0 0 b s'' cap hg (by omega) h2'
         simpa using this
        ·exact .rowz _ _ _ (by omega) _ _
       ·rw [if_neg hz]
        simp only [ZH,Addr.add_lit]
        have e3:(hi.getD (m:Int)-lo.getD 0).toNat=(hi.getD (m:Int)).toNat-(lo.getD 0).toNat:=by omega
        rw [e3,<-Nat.add_mul,show cap-off-(lo.getD 0).toNat=cap-(off+(lo.getD 0).toNat) by omega]
        exact .row _ _ _ _ _ _ _ hg (by omega) h2'
     ·cases hr
    ·cases hr
   ·cases hr
  ·cases hr
theorem q0A3 (hF: ∀f,F.fn f) (h:Sim N G own L S a w) (hd: ∀t,o.dst=some t->t<N) {x:Arg} {lo hi:Option Arg} {s:Nat} (hok:okIns P o.op (.slc x lo hi s)=true)
  {cl:ClT} (hev:evIns cl o.dst (.slc x lo hi s) S=some S') (hn: ∀a' w',Res N G own w a.defers S' a' w'->next a' w'):o.wpIn F n P a w next Q:=by
 obtain ⟨r,hr,hS⟩:=q00y hev
 simp only [okIns] at hok
 split at hok
 ·rename_i t u l hh m hop
  simp only [Zb] at hok
  obtain ⟨⟨⟨⟨h1,h2⟩,h3⟩,h4⟩,h5⟩:=hok
  obtain ⟨e,ie,hu,hie,hsz,hs0⟩:=q0co h3
  have hm:m=none:=by cases m<;>simp at h2⊢
  subst hm
  have r1:=q008 h h1
  have low: ∃l':Option Int,(lo.map S.arg=none/\l=none/\l'=none\/ ∃y k z,l=some y/\a.eval y= .int k z/\l'=some z/\lo.map S.arg=some (.p (.int k z)))\/True:=⟨none,.inr trivial⟩
  clear low
  unfold slcI at hr
  split at hr
  ·rename_i hl hhi
   have e1:lo=none:=by cases lo<;>simp at hl⊢
   have e2:hi=none:=by cases hi<;>simp at hhi⊢
   subst e1 e2
   have e3:l=none:=by cases l<;>simp at h4⊢
   have e4:hh=none:=by cases hh<;>simp at h5⊢
   subst e3 e4
   obtain ⟨ad,len,cap,hv,b0,b1,b2,b3,hrep⟩:=q0c0 h.wok r1 hr
   simp only [Option.getD_none] at b0 b1 b2 hrep
   refine q00f hF h hd (by rw [hop];intro c hc;cases hc) ?_ (.of hrep) hS hn
   simp [execOp,hop,hv,Instr.sliceAt,Instr.slice,run_underlying hu,Instr.sliceBounds,q01m hie,hsz]
  ·rename_i k z hl hhi
   have e2:hi=none:=by cases hi<;>simp at hhi⊢
   subst e2
   have e4:hh=none:=by cases hh<;>simp at h5⊢
   subst e4
   cases lo with
   |none=>cases hl
   |some lo=>
    cases l with
    |none=>simp at h4
    |some y=>
     have ry:=q008 h h4
     simp only [ZH,Option.some.injEq] at hl
     rw [hl] at ry;have ey:=q00t ry
     obtain ⟨ad,len,cap,hv,b0,b1,b2,b3,hrep⟩:=q0c0 h.wok r1 hr
     simp only [Option.getD_none,Option.getD_some] at b0 b1 b2 hrep
     refine q00f hF h hd (by rw [hop];intro c hc;cases hc) ?_ (.of hrep) hS hn
     simp [execOp,hop,hv,Instr.sliceAt,Instr.slice,run_underlying hu,Instr.sliceBounds,q01m hie,hsz,ey,q03f b0 b1]
  ·rename_i k z hl hhi
   have e1:lo=none:=by cases lo<;>simp at hl⊢
   subst e1
   have e3:l=none:=by cases l<;>simp at h4⊢
   subst e3
   cases hi with
   |none=>cases hhi
   |some hi=>
    cases hh with
    |none=>simp at h5
    |some y=>
     have ry:=q008 h h5
     simp only [ZH,Option.some.injEq] at hhi
     rw [hhi] at ry;have ey:=q00t ry
     obtain ⟨ad,len,cap,hv,b0,b1,b2,b3,hrep⟩:=q0c0 h.wok r1 hr
     simp only [Option.getD_none,Option.getD_some] at b0 b1 b2 hrep
     have b4:z<=(cap:Int):=by omega
     refine q00f hF h hd (by rw [hop];intro c hc;cases hc) ?_ (.of hrep) hS hn
     simp [execOp,hop,hv,Instr.sliceAt,Instr.slice,run_underlying hu,Instr.sliceBounds,q01m hie,hsz,ey,q03f b1 b4]
  ·rename_i k z k' z' hl hhi
   cases lo with
   |none=>cases hl
   |some lo=>
   cases l with
   |none=>simp at h4
   |some y=>
   cases hi with
   |none=>cases hhi
   |some hi=>
   cases hh with
   |none=>simp at h5
   |some y'=>
    have ry:=q008 h h4
    simp only [ZH,Option.some.injEq] at hl
    rw [hl] at ry;have ey:=q00t ry
    have ry':=q008 h h5
    simp only [ZH,Option.some.injEq] at hhi
    rw [hhi] at ry';have ey':=q00t ry'
    obtain ⟨ad,len,cap,hv,b0,b1,b2,b3,hrep⟩:=q0c0 h.wok r1 hr
    simp only [Option.getD_some] at b0 b1 b2 hrep
    have b4:z'<=(cap:Int):=by omega
    have b5:z<=((z'.toNat:Nat):Int):=by omega
    refine q00f hF h hd (by rw [hop];intro c hc;cases hc) ?_ (.of hrep) hS hn
    simp [execOp,hop,hv,Instr.sliceAt,Instr.slice,run_underlying hu,Instr.sliceBounds,q01m hie,hsz,ey,ey',q03f (Int.le_trans b0 b1) b4,q03f b0 b5]
  ·cases hr
 ·cases hok
end
section
variable {F:Fence} {n:Nat} {P:Program} {o:Oper} {a:Act} {w:World} {Q:Exit->Act->World->Prop}
variable {N:Nat} {G:Gh} {own:Own} {L:Nat->Option Nat} {S S':St} {next:Act->World->Prop}
theorem q02x {α:Type} {cs r vs:List α} {off:Nat} (h:q001 cs off vs=some r):off+vs.length<=cs.length/\r=cs.take off++vs++cs.drop (off+vs.length):=by
 unfold q001 at h
 split at h
 ·exact ⟨by assumption,by injection h with h;exact h.symm⟩
 ·cases h
theorem q07x {α:Type} {cs r vs:List α} {off:Nat} (h:q001 cs off vs=some r):r.length=cs.length:=by
 obtain ⟨h1,rfl⟩:=q02x h;simp;omega
theorem q07y {α:Type} {cs r vs:List α} {off:Nat} (h:q001 cs off vs=some r) (j:Nat) (hj:j<r.length):
  (∃_h1:off<=j,∃h2:j-off<vs.length,r[j]=vs[j-off])\/((j<off\/off+vs.length<=j)/\ ∃h2:j<cs.length,r[j]=cs[j]):=by
 have hl:=q07x h
 obtain ⟨h1,rfl⟩:=q02x h
 by_cases c1:j<off
 ·refine .inr ⟨.inl c1,by omega,?_⟩
  rw [ZP (by simp;omega),ZP (by simp;omega)];simp
 ·by_cases c2:j<off+vs.length
  ·refine .inl ⟨by omega,by omega,?_⟩
   rw [ZP (by simp;omega),ZR (by simp;omega)]
   congr 1;simp;omega
  ·refine .inr ⟨.inr (by omega),by omega,?_⟩
   rw [ZR (by simp;omega)]
   simp only [Z7,Zt,ZC]
   congr 1;omega
theorem q07i {v:Value} {x:V} (h:SRep G L v x) (ho:x.cells.all V.oneB=true):v.cells.size=x.cells.length/\CRep G (fun j=>v.cells.getD j undef) x.cells/\ ∀u∈v.cells.toList,u.oneCell'=true:=by
 have one: ∀ {u:Value} {y:V},VRep G u y->y.oneB=true->u.oneCell'=true:=by
  intro u y hu hy
  cases hu with
  |p hp=>cases hp<;>rfl
  |agg=>cases hy
  |tup=>cases hy
  |undef=>cases hy
  |_=>rfl
 cases x with
 |agg xs=>
  obtain ⟨c,rfl,hs,hc⟩:=q06p h
  refine ⟨hs,hc,fun u hu=> ?_⟩
  simp only [Value.cells] at hu
  obtain ⟨j,hj,rfl⟩:=List.mem_iff_getElem.1 hu
  have hj':j<xs.length:=by simpa [hs] using hj
  have:=hc j hj'
  simp only [V.cells,Zn] at ho
  have e:c.getD j undef=c.toList[j]:=by
   have:j<c.size:=by simpa using hj
   simp [Zc,this]
  rw [<-e]
  exact one this (ho _ (ZK hj'))
 |tup xs=>simp [V.cells,V.oneB] at ho
 |undef=>simp [V.cells,V.oneB] at ho
 |lptr s o=>simp [V.cells,V.oneB] at ho
 |_=>
  have hv:VRep G v _:=h
  have h1:=one hv (by rfl)
  have hc:v.cells= #[v]:=by cases v<;>first|rfl|(simp [Value.oneCell'] at h1)
  rw [hc]
  refine ⟨rfl,fun j hj=> ?_,fun u hu=> ?_⟩
  ·have hj0:j=0:=by simpa [V.cells] using hj
   subst hj0
   exact hv
  ·simp at hu;subst hu;exact h1
theorem q01v {S':St} {d:Option Nat} {r:Option (V×St)} (h:retP d r=some S'): ∃x S1,r=some (x,S1)/\S'=S1.put d x:=by
 cases r with
 |none=>cases h
 |some p=>obtain ⟨x,S1⟩:=p;exact ⟨x,S1,rfl,by simpa using h.symm⟩
theorem Sim.change (h:Sim N G own L S a w) {G':Gh} {own':Own} {L':Nat->Option Nat} {S1:St} {w':World} (hle:G.Le G') (henv:S1.env=S.env)
  (hL: ∀t s off,getE S.env t= .lptr s off->L' s=L s) (hw:WOK G' own' S1.hp L' S1.loc w'):Sim N G' own' L' S1 a w' where
 size:=h.size
 slot t:=by
  rw [henv]
  have:=h.slot t
  cases hx:getE S.env t with
  |lptr s off=>
   rw [hx] at this
   obtain ⟨b,h1,h2⟩:=this
   exact ⟨b,(hL t s off hx).trans h1,h2⟩
  |_=>rw [hx] at this;exact VRep.mono hle this
 wok:=hw
theorem q07z: ∀ {e:List (Nat×V)} {s t s' off:Nat},q012 e s=true->getE e t= .lptr s' off->s'≠s
 |[],_,_,_,_,_,h=>by simp at h
 |(k,v)::r,s,t,s',off,hs,h=>by
  simp only [q01z,Zb] at hs
  simp only [q02c] at h
  split at h
  ·subst h;simpa using hs.1
  ·exact q07z hs.2 h
theorem q0og (h:Sim N G own L S a w) {d:Option Nat} {cs:List V} {l:Bool} {x:V} {S1:St} (hb:boxI S d cs l=some (x,S1)) (c:Array Value) (e:TypeId)
  (hc:c.size=cs.length) (hr:CRep G (fun j=>c.getD j undef) cs):
  ∃G' own' L',Sim N G' own' L' S1 a (w.alloc (.cells c e))/\Foot G own w G' own' (w.alloc (.cells c e))/\SRep G' L' (.pointer (some ⟨w.heap.size,0,none⟩)) x:=by
 unfold boxI at hb
 split at hb
 ·rename_i t
  split at hb
  ·rename_i hns
   cases hb
   refine ⟨G,upd own w.heap.size (.loc t),upd L t w.heap.size,h.change (.refl G) rfl (fun t' s off hx=> ?_) (h.wok.newLoc t cs c e hc hr),.newOwn _ G c e (.refl G) rfl,w.heap.size,q01n ..,rfl⟩
   exact q01t _ _ (q07z hns hx)
  ·cases hb
 ·cases hb
  have hn:=h.wok.blk_new
  refine ⟨G.withBox S.hp.length w.heap.size,upd own w.heap.size (.obj S.hp.length),L,h.change (Gh.le_withBox hn) rfl (fun _ _ _ _=>rfl) ?_,.newOwn _ _ c e (Gh.le_withBox hn) rfl,?_⟩
  ·refine h.wok.newObj (.box cs) _ c e (Gh.le_withBox hn) rfl ?_ ?_ ?_ ?_ ?_
   ·intro i b hi
    simp only [Gh.withBox] at hi
    by_cases e:i=S.hp.length
    ·omega
    ·rw [q01t _ _ e] at hi;have:=h.wok.dom _ _ hi;omega
   ·intro i t r hi;have:=h.wok.domr i t r hi;omega
   ·intro i t r _ hi;exact hi
   ·intro s es hh;cases hh
   ·exact ⟨w.heap.size,c,q01n ..,q01n ..,q03t w c e,hc,hr.mono (Gh.le_withBox hn)⟩
  ·exact VRep.ptr _ _ _ (q01n ..)
 ·cases hb
theorem q0sb (hF: ∀f,F.fn f) (h:Sim N G own L S a w) (hd: ∀t,o.dst=some t->t<N) {zero:List V} {l:Bool} (hok:okIns P o.op (.al zero l)=true)
  {cl:ClT} (hev:evIns cl o.dst (.al zero l) S=some S') (hn: ∀a' w',Res N G own w a.defers S' a' w'->next a' w'):o.wpIn F n P a w next Q:=by
 obtain ⟨x,S1,hr,hS⟩:=q01v hev
 simp only [okIns] at hok
 split at hok
 ·rename_i t hop
  unfold zeroB at hok
  split at hok
  ·rename_i i hi
   split at hok
   ·rename_i z hz
    obtain ⟨h1,h2⟩:=q02u (G:=G) hok
    obtain ⟨G',own',L',hs,hf,hv⟩:=q0og h hr z.cells t h1 h2
    refine q018 hF (by rw [hop];intro c hc;cases hc) (r:= .ok (.value (.pointer (some ⟨w.heap.size,0,none⟩))) (w.alloc (.cells z.cells t))) ?_ ?_
    ·simp [execOp,hop,Instr.alloc,zeroValue,typeInfo,hi,hz,newVar,newRow]
    ·subst hS
     exact hn _ _ ⟨G',own',L',hs.put hd hv,hf,q00x ..,.alloc rfl _⟩
   ·cases hok
  ·cases hok
 ·cases hok
theorem q0sc (hF: ∀f,F.fn f) (h:Sim N G own L S a w) (hd: ∀t,o.dst=some t->t<N) {y:Arg} {m:Nat} {l:Bool} (hok:okIns P o.op (.bx y m l)=true)
  {cl:ClT} (hev:evIns cl o.dst (.bx y m l) S=some S') (hn: ∀a' w',Res N G own w a.defers S' a' w'->next a' w'):o.wpIn F n P a w next Q:=by
 obtain ⟨x,S1,hr,hS⟩:=q01v hev
 simp only [okIns] at hok
 split at hok
 ·rename_i t u hop
  unfold bxI at hr
  split at hr
  ·rename_i hc
   obtain ⟨h1,h2,-⟩:=q07i (q008 h hok) hc.2
   obtain ⟨G',own',L',hs,hf,hv⟩:=q0og h hr (a.eval u).cells t h1 h2
   refine q018 hF (by rw [hop];intro c hc;cases hc) (r:= .ok (.value (.pointer (some ⟨w.heap.size,0,none⟩))) (w.alloc (.cells (a.eval u).cells t))) ?_ ?_
   ·simp [execOp,hop,Instr.box,newVar,newRow]
   ·subst hS
    exact hn _ _ ⟨G',own',L',hs.put hd hv,hf,q00x ..,.alloc rfl _⟩
  ·cases hr
 ·cases hok
theorem q0df {d:Option Nat} {cs:List V} {x:V} {S1:St} (h:alpI S d cs=some (x,S1)):boxI S d cs true=some (x,S1):=by
 unfold alpI at h
 split at h
 ·split at h
  ·rename_i hc;simp only [boxI,if_pos hc.1];exact h
  ·cases h
 ·cases h
theorem q0A4 (hF: ∀f,F.fn f) (h:Sim N G own L S a w) (hd: ∀t,o.dst=some t->t<N) {zero:List V} (hok:okIns P o.op (.alp zero)=true)
  {cl:ClT} (hev:evIns cl o.dst (.alp zero) S=some S') (hn: ∀a' w',Res N G own w a.defers S' a' w'->next a' w'):o.wpIn F n P a w next Q:=by
 obtain ⟨x,S1,hr,hS⟩:=q01v hev
 refine q0sb (l:=true) (cl:=cl) hF h hd hok ?_ hn
 show retP o.dst (boxI S o.dst zero true)=some S'
 rw [q0df hr,hS];rfl
theorem q0A5 (hF: ∀f,F.fn f) (h:Sim N G own L S a w) (hd: ∀t,o.dst=some t->t<N) {y:Arg} {m:Nat} (hok:okIns P o.op (.bxp y m)=true)
  {cl:ClT} (hev:evIns cl o.dst (.bxp y m) S=some S') (hn: ∀a' w',Res N G own w a.defers S' a' w'->next a' w'):o.wpIn F n P a w next Q:=by
 obtain ⟨x,S1,hr,hS⟩:=q01v hev
 refine q0sc (l:=true) (m:=m) (cl:=cl) hF h hd hok ?_ hn
 show retP o.dst (bxI S o.dst (S.arg y) m true)=some S'
 unfold bxpI at hr
 unfold bxI
 split at hr
 ·rename_i hc
  rw [if_pos hc,q0df hr,hS];rfl
 ·cases hr
theorem q0w7 (hF: ∀f,F.fn f) (h:Sim N G own L S a w) (hd: ∀t,o.dst=some t->t<N) {s:Nat} (hok:okIns P o.op (.nrow s)=true)
  {cl:ClT} (hev:evIns cl o.dst (.nrow s) S=some S') (hn: ∀a' w',Res N G own w a.defers S' a' w'->next a' w'):o.wpIn F n P a w next Q:=by
 have hev':retP o.dst (some (V.row S.hp.length 0 0 0,{S with hp:=S.hp++[DObj.row s []]}))=some S':=hev
 obtain ⟨x,S1,hr,hS⟩:=q01v hev'
 cases hr
 simp only [okIns] at hok
 have hnew:=h.wok.row_new 0
 have hle:=Gh.le_withRow (r:= .nil) hnew
 have hsim:Sim N (G.withRow S.hp.length 0 .nil) own L {S with hp:=S.hp++[DObj.row s []]} a w:=by
  refine h.change hle rfl (fun _ _ _ _=>rfl) ⟨h.wok.imm,?_,?_,?_,?_,?_,h.wok.noI,h.wok.lt,h.wok.ilt⟩
  ·intro i b hi;have:=h.wok.dom i b hi;simp;omega
  ·intro i t r hi
   simp only [Gh.withRow] at hi
   split at hi
   ·rename_i hh;simp;omega
   ·have:=h.wok.domr i t r hi;simp;omega
  ·intro i s' es hi t r hr
   simp only [Gh.withRow] at hr
   split at hr
   ·rename_i hh;omega
   ·rcases q047 hi with hi|⟨rfl,-⟩
    ·exact h.wok.top i s' es hi t r hr
    ·rw [h.wok.row_new t] at hr;cases hr
  ·intro i o' hi
   rcases q047 hi with hi|⟨rfl,rfl⟩
   ·exact (h.wok.obj i o' hi).frame hle (fun _ x=>x) (fun _ _=>rfl)
   ·exact .inl ⟨rfl,by simp [Gh.withRow]⟩
  ·intro s' cs hs;exact (h.wok.locs s' cs hs).frame hle rfl (fun _ x=>x) (fun _ _=>rfl)
 have hfoot:Foot G own w (G.withRow S.hp.length 0 .nil) own w:=⟨hle,Zm _,fun _ _ _=>rfl,fun _ _ x=> .inl x,fun _ _ _ x=> .inl x,rfl,rfl,rfl⟩
 have hv:SRep (G.withRow S.hp.length 0 .nil) L (.slice none 0 0) (.row S.hp.length 0 0 0):=VRep.rown _ (by simp [Gh.withRow])
 subst hS
 split at hok
 ·rename_i hop
  exact q018 hF (by rw [hop];intro c hc;cases hc) (r:= .ok (.value (.slice none 0 0)) w) (by simp [execOp,hop,Act.eval]) (hn _ _ ⟨_,own,L,hsim.put hd hv,hfoot,q00x ..,Kp.refl _ _ _ _⟩)
 ·rename_i hop
  exact q018 hF (by rw [hop];intro c hc;cases hc) (r:= .ok (.value (.slice none 0 0)) w) (by simp [execOp,hop,Act.eval]) (hn _ _ ⟨_,own,L,hsim.put hd hv,hfoot,q00x ..,Kp.refl _ _ _ _⟩)
 ·cases hok
end
section
variable {F:Fence} {n:Nat} {P:Program} {o:Oper} {a:Act} {w:World} {Q:Exit->Act->World->Prop}
variable {N:Nat} {G:Gh} {own:Own} {L:Nat->Option Nat} {S S':St} {next:Act->World->Prop}
def putAt (c:Array Value) (off:Nat) (vs:List Value):Array Value:=(c.toList.take off++vs++c.toList.drop (off+vs.length)).toArray
theorem q06h {c:Array Value} {off:Nat} {vs:List Value} (h:off+vs.length<=c.size):(putAt c off vs).size=c.size:=by simp [putAt];omega
theorem q090 {c:Array Value} {off:Nat} {vs:List Value} (h:off+vs.length<=c.size) (j:Nat) (h1:off<=j) (h2:j-off<vs.length):(putAt c off vs).getD j undef=vs[j-off]:=by
 have:(c.toList.take off++vs++c.toList.drop (off+vs.length))[j]? =some vs[j-off]:=by
  rw [Zw (by simp;omega),ZD (by simp;omega)]
  have e:j-(c.toList.take off).length=j-off:=by simp;omega
  rw [e];simp [h2]
 show ((c.toList.take off++vs++c.toList.drop (off+vs.length)).toArray).getD j undef=_
 rw [Zc,List.getElem?_toArray,this];rfl
theorem q068 {c:Array Value} {off:Nat} {vs:List Value} (h:off+vs.length<=c.size) (j:Nat) (h1:j<off\/off+vs.length<=j):(putAt c off vs).getD j undef=c.getD j undef:=by
 have:(c.toList.take off++vs++c.toList.drop (off+vs.length))[j]? =c[j]? :=by
  rcases h1 with h1|h1
  ·rw [Zx,Zw (by simp;omega)]
   simp [h1]
  ·rw [ZD (by simp;omega)]
   have e:j-(c.toList.take off++vs).length+(off+vs.length)=j:=by simp;omega
   simp only [List.getElem?_drop]
   rw [Nat.add_comm,e];simp
 show ((c.toList.take off++vs++c.toList.drop (off+vs.length)).toArray).getD j undef=_
 rw [Zc,List.getElem?_toArray,this,Zc]
theorem q06i {b off:Nat} {c:Array Value} (hb:BlockIs w b c) {vs:List Value} (h:off+vs.length<=c.size) (h1: ∀u∈vs,u.oneCell'=true):
  (storeCells ⟨b,off,none⟩ vs).run P w= .ok () (w.setRow b (putAt c off vs)):=by
 obtain ⟨e,hb⟩:=hb
 exact run_storeCells_at P b off e vs 0 c w hb (by simpa using h) h1
theorem q0ad {c:Array Value} {cs cs' xs:List V} {off:Nat} {vs:Array Value} (hc:CRep G (fun j=>c.getD j undef) cs) (hsz:c.size=cs.length)
  (hv:CRep G (fun j=>vs.getD j undef) xs) (hvs:vs.size=xs.length) (hs:q001 cs off xs=some cs'):
  (putAt c off vs.toList).size=cs'.length/\CRep G (fun j=>(putAt c off vs.toList).getD j undef) cs':=by
 have hl:=q07x hs
 have hle:=(q02x hs).1
 have hle':off+vs.toList.length<=c.size:=by simp;omega
 refine ⟨by rw [q06h hle'];omega,fun j hj=> ?_⟩
 rcases q07y hs j hj with ⟨h1,h2,e⟩|⟨h1,h2,e⟩
 ·rw [e]
  show VRep G ((putAt c off vs.toList).getD j undef) _
  rw [q090 hle' j h1 (by simp;omega)]
  have:=hv (j-off) h2
  have hlt:j-off<vs.size:=by omega
  simpa [Zc,hlt] using this
 ·rw [e]
  show VRep G ((putAt c off vs.toList).getD j undef) _
  rw [q068 hle' j (by simp;omega)]
  exact hc j h2
theorem q0ee: ∀ {vs:List V} {xs:List PV},q03s vs=some xs->vs.length=xs.length/\ ∀f:Nat->Value,CRep G f vs-> ∀j (hj:j<xs.length),PRep G.I (f j) (xs[j])
 |[],xs,h=>by cases h;exact ⟨rfl,fun _ _ j hj=>absurd hj (Zz _)⟩
 |v::r,xs,h=>by
  simp only [q03s] at h
  split at h
  ·rename_i x ys hx hys
   cases h
   obtain ⟨h1,h2⟩:=q0ee hys
   refine ⟨by simp [h1],fun f hf j hj=> ?_⟩
   cases j with
   |zero=>
    have:=hf 0 (by simp)
    simp only [Z8] at this⊢
    generalize f 0=z at this⊢
    unfold PV.ofV at hx
    split at hx
    ·cases hx;cases this with|p hp=>exact hp
    ·cases hx
     cases this with|nils ad=>exact .sl0 ad 0
    ·cases hx
   |succ j=>exact h2 (fun k=>f (k+1)) (fun k hk=>hf (k+1) (by simpa using hk)) j (by simpa using hj)
  ·cases h
theorem q0A6 {H:Heap} (h: ∀i s es,H[i]? =some (DObj.row s es)-> ∀t r,G.rows i t=some r->t<=es.length) {id s:Nat} {es:List (List V)} (hi:H[id]? =some (.row s es))
  {s':Nat} {es':List (List V)} (hl:es'.length=es.length): ∀i s es,(H.set id (DObj.row s' es'))[i]? =some (DObj.row s es)-> ∀t r,G.rows i t=some r->t<=es.length:=by
 intro i s'' es'' hx t r hr
 by_cases e:i=id
 ·subst e
  have hlt:i<H.length:=(Za.1 hi).1
  simp [hlt] at hx
  rw [<-hx.2,hl];exact h i s es hi t r hr
 ·rw [Zr (Ne.symm e)] at hx;exact h i s'' es'' hx t r hr
theorem q0A7 {H:Heap} (h: ∀i s es,H[i]? =some (DObj.row s es)-> ∀t r,G.rows i t=some r->t<=es.length) {id:Nat} {cs:List V} (hi:H[id]? =some (.box cs))
  {cs':List V}: ∀i s es,(H.set id (DObj.box cs'))[i]? =some (DObj.row s es)-> ∀t r,G.rows i t=some r->t<=es.length:=by
 intro i s'' es'' hx t r hr
 by_cases e:i=id
 ·subst e
  have hlt:i<H.length:=(Za.1 hi).1
  simp [hlt] at hx
 ·rw [Zr (Ne.symm e)] at hx;exact h i s'' es'' hx t r hr
theorem q0sd (h:Sim N G own L S a w) {v:Value} {x:V} {vs:Array Value} {xs:List V} (hv:SRep G L v x) (hvs:vs.size=xs.length) (hr:CRep G (fun j=>vs.getD j undef) xs)
  (h1: ∀u∈vs.toList,u.oneCell'=true) (hone:xs.all V.oneB=true) {S1:St} (hs:q00l S x xs=some S1):
  ∃b off w',v= .pointer (some ⟨b,off,none⟩)/\(storeCells ⟨b,off,none⟩ vs.toList).run P w= .ok () w'/\Sim N G own L S1 a w'/\Foot G own w G own w'/\Kp S1.base S1.dirty own w w':=by
 unfold q00l at hs
 split at hs
 ·rename_i s off
  cases hg:getL S.loc s with
  |none=>rw [hg] at hs;cases hs
  |some ds=>
   rw [hg] at hs
   simp only [Ze] at hs
   split at hs
   ·cases hs
   rename_i hemp
   cases hss:q001 ds off xs with
   |none=>rw [hss] at hs;cases hs
   |some ds'=>
    rw [hss] at hs
    cases hs
    obtain ⟨b,hb,rfl⟩:=hv
    rcases h.wok.locs s ds hg with rfl|⟨b',c,e1,e2,e3,e4,e5⟩
    ·simp at hemp
    rw [hb] at e1;cases e1
    have hle:=(q02x hss).1
    obtain ⟨p1,p2⟩:=q0ad e5 e4 hr hvs hss
    refine ⟨b,off,_,rfl,q06i e3 (by simp;omega) h1,h.change (.refl G) rfl (fun _ _ _ _=>rfl) ?_,Foot.write e2 _ G (.refl G) rfl,.write e2 (fun id hh=>by cases hh) _⟩
    refine h.wok.write e2 _ G (.refl G) rfl _ _ rfl h.wok.dom h.wok.domr h.wok.top (fun i o hi=> .inl ⟨hi,by simp⟩) (fun s' cs hc=> ?_)
    by_cases e:s'=s
    ·subst e
     rw [q05r] at hc;cases hc
     exact .inr (.inr ⟨b,_,hb,e2,q03e e3 _,p1,p2⟩)
    ·rw [q070 _ e] at hc
     exact .inl ⟨hc,by intro hh;injection hh with hh;exact e hh.symm⟩
 ·rename_i id off
  cases hg:boxAt S.hp id with
  |none=>rw [hg] at hs;cases hs
  |some ds=>
   rw [hg] at hs
   simp only [Ze] at hs
   cases hss:q001 ds off xs with
   |none=>rw [hss] at hs;cases hs
   |some ds'=>
    rw [hss] at hs
    cases hs
    cases hv with
    |ptr _ _ b hb=>
     obtain ⟨b',c,e1,e2,e3,e4,e5⟩:=h.wok.obj id _ (q05f hg)
     rw [hb] at e1;cases e1
     have hle:=(q02x hss).1
     obtain ⟨p1,p2⟩:=q0ad e5 e4 hr hvs hss
     refine ⟨b,off,_,rfl,q06i e3 (by simp;omega) h1,h.change (.refl G) rfl (fun _ _ _ _=>rfl) ?_,Foot.write e2 _ G (.refl G) rfl,.write e2 (fun id' hh hlt=>by cases hh;exact q02w.2 (.inl ⟨rfl,hlt⟩)) _⟩
     refine h.wok.write e2 _ G (.refl G) rfl _ _ (by simp) h.wok.dom h.wok.domr (q0A7 h.wok.top (q05f hg)) (fun i o hi=> ?_) (fun s' cs hc=> .inl ⟨hc,by simp⟩)
     by_cases e:i=id
     ·subst e
      have hlt:i<S.hp.length:=(Za.1 (q05f hg)).1
      simp [hlt] at hi
      subst hi
      exact .inr ⟨b,_,hb,e2,q03e e3 _,p1,p2⟩
     ·simp only [Zr (Ne.symm e)] at hi
      exact .inl ⟨hi,by intro hh;injection hh with hh;exact e hh.symm⟩
 ·rename_i id tot i j0
  cases hro:rowAt S.hp id with
  |none=>rw [hro] at hs;cases hs
  |some p=>
   obtain ⟨s',es⟩:=p
   rw [hro] at hs
   simp only [Ze] at hs
   split at hs
   ·rename_i hc1
    cases he:es[i]? with
    |none=>rw [he] at hs;cases hs
    |some el=>
     rw [he] at hs
     simp only [Ze] at hs
     cases hss:q001 el j0 xs with
     |none=>rw [hss] at hs;cases hs
     |some el'=>
      rw [hss] at hs
      cases hs
      cases hv with
      |rptr _ _ _ _ b s cap hgr=>
       obtain ⟨rfl,c,e2,e3,e4,e5,e6,e7,e8⟩:=q04v h.wok hro (hc1▸hgr)
       have hlt:i<es.length:=(Za.1 he).1
       have hget:es[i]=el:=(Za.1 he).2
       have hel:el.length=s:=by rw [<-hget];exact e6 i hlt
       have hle:=(q02x hss).1
       have hel':=q07x hss
       have hcap:i*s+s<=c.size:=by
        rw [e4,<-ZO];exact Zu _ (by omega)
       have hfit:(i*s+j0)+vs.toList.length<=c.size:=by simp;omega
       refine ⟨b,i*s+j0,_,rfl,q06i e3 hfit h1,h.change (.refl G) rfl (fun _ _ _ _=>rfl) ?_,Foot.write e2 _ G (.refl G) rfl,.write e2 (fun id' hh hlt=>by cases hh;exact q02w.2 (.inl ⟨rfl,hlt⟩)) _⟩
       refine h.wok.write e2 _ G (.refl G) rfl _ _ (by simp) h.wok.dom h.wok.domr (q0A6 h.wok.top (q01r hro) (by simp)) (fun i' o hi=> ?_) (fun s' cs hc=> .inl ⟨hc,by simp⟩)
       by_cases e:i'=id
       ·subst e
        have hlt':i'<S.hp.length:=(Za.1 (q01r hro)).1
        simp [hlt'] at hi
        subst hi
        refine .inr (.inr ⟨b,cap,_,by simpa [hc1] using hgr,e2,q03e e3 _,by rw [q06h hfit];exact e4,by simpa using e5,?_,?_,?_⟩)
        ·intro k hk
         simp only [List.length_set] at hk
         rw [List.getElem_set]
         split
         ·omega
         ·exact e6 k hk
        ·intro k j hk hj
         simp only [List.length_set] at hk
         by_cases ek:i=k
         ·subst ek
          simp only [List.getElem_set_self] at hj⊢
          rcases q07y hss j hj with ⟨q1,q2,q3⟩|⟨q1,q2,q3⟩
          ·rw [q3,q090 hfit _ (by omega) (by simp;omega)]
           have e9:i*s+j-(i*s+j0)=j-j0:=by omega
           have:=hr (j-j0) q2
           have hlt2:j-j0<vs.size:=by omega
           simpa [e9,Zc,hlt2] using this
          ·rw [q3,q068 hfit _ (by simp;omega)]
           have hj2:j<(es[i]).length:=by rw [hget];exact q2
           have:=e7 i j hlt hj2
           simpa only [hget] using this
         ·have hek:(es.set i el')[k]'(by simpa using hk)=es[k]:=List.getElem_set_ne ek _
          simp only [hek] at hj⊢
          have hjs:j<s:=by rw [e6 k hk] at hj;exact hj
          rw [q068 hfit _ ?_]
          ·exact e7 k j hk hj
          ·have hvl:vs.toList.length=xs.length:=by simp;omega
           rw [hvl]
           rcases Nat.lt_or_gt_of_ne ek with hik|hik
           ·right
            have:i*s+s<=k*s:=by rw [<-ZO];exact Zu _ hik
            omega
           ·left
            have:k*s+s<=i*s:=by rw [<-ZO];exact Zu _ hik
            omega
        ·intro e he'
         rcases List.mem_or_eq_of_mem_set he' with h9|rfl
         ·exact e8 e h9
         ·rw [Zn]
          intro u hu
          obtain ⟨j,hj,rfl⟩:=List.mem_iff_getElem.1 hu
          rcases q07y hss j hj with ⟨q1,q2,q3⟩|⟨q1,q2,q3⟩
          ·rw [q3];exact Zn.1 hone _ (ZK q2)
          ·rw [q3]
           have:=e8 _ (ZK hlt)
           rw [hget] at this
           exact Zn.1 this _ (ZK q2)
       ·simp only [Zr (Ne.symm e)] at hi
        exact .inl ⟨hi,by intro hh;injection hh with hh;exact e hh.symm⟩
   ·cases hs
 ·cases hs
theorem q0se (hF: ∀f,F.fn f) (h:Sim N G own L S a w) (hd: ∀t,o.dst=some t->t<N) {x y:Arg} {m:Nat} (hok:okIns P o.op (.st x y m)=true)
  {cl:ClT} (hev:evIns cl o.dst (.st x y m) S=some S') (hn: ∀a' w',Res N G own w a.defers S' a' w'->next a' w'):o.wpIn F n P a w next Q:=by
 obtain ⟨r,S1,hr,hS⟩:=q01v hev
 simp only [okIns] at hok
 split at hok
 ·rename_i t u v hop
  simp only [Zb] at hok
  obtain ⟨⟨h1,h2⟩,h3⟩:=hok
  obtain ⟨i,hi,hsz⟩:=q017 h3
  unfold stI at hr
  split at hr
  ·rename_i hc
   cases hs:q00l S (S.arg x) (S.arg y).cells with
   |none=>rw [hs] at hr;cases hr
   |some S2=>
    rw [hs] at hr
    cases hr
    obtain ⟨c1,c2,c3⟩:=q07i (q008 h h2) hc.2
    obtain ⟨b,off,w',hv,hrun,hsim,hfoot,hkp⟩:=q0sd (P:=P) h (q008 h h1) c1 c2 c3 hc.2 hs
    refine q018 hF (by rw [hop];intro c hc;cases hc) (r:= .ok .skip w') ?_ ?_
    ·have hne: ¬(a.eval v).cells.size≠i.size:=by rw [c1,hsz];simp [hc.1]
     simp [execOp,hop,hv,Instr.storeAt,Instr.sureAddr,storeVar,q01m hi,hne,hrun]
    ·subst hS
     exact hn _ _ ⟨G,own,L,hsim.put hd (.of (.tup #[] [] rfl (fun j hj=>absurd hj (Zz _)))),hfoot,q00x ..,by cases o.dst<;>exact hkp⟩
  ·cases hr
 ·cases hok
theorem q0A8 (hF: ∀f,F.fn f) (h:Sim N G own L S a w) (hd: ∀t,o.dst=some t->t<N) {k:Nat} {x y:Arg} {m:Nat} (hok:okIns P o.op (.stl k x y m)=true)
  {cl:ClT} (hev:evIns cl o.dst (.stl k x y m) S=some S') (hn: ∀a' w',Res N G own w a.defers S' a' w'->next a' w'):o.wpIn F n P a w next Q:=by
 refine q0se (cl:=cl) hF h hd (x:=x) (y:=y) (m:=m) hok ?_ hn
 have hev':retP o.dst (stlI S k (S.arg y) m (S.arg x))=some S':=hev
 show retP o.dst (stI S (S.arg x) (S.arg y) m)=some S'
 cases hx:S.arg x with
 |lptr s off=>
  rw [hx] at hev'
  simp only [stlI] at hev'
  split at hev'
  ·exact hev'
  ·cases hev'
 |_=>rw [hx] at hev';cases hev'
theorem q0w8 {z:Array Value} {zero:List V} {s:Nat} (h1:z.size=zero.length) (h2:CRep G (fun j=>z.getD j undef) zero) (hl:zero.length=s) (hs:0<s) (len:Nat):
  (Builtin.zeroCells z len).size=(List.replicate len zero).flatten.length/\CRep G (fun j=>(Builtin.zeroCells z len).getD j undef) (List.replicate len zero).flatten:=by
 have hz:(Builtin.zeroCells z len).size=len*s:=by simp [Builtin.zeroCells,h1,hl]
 have hf:(List.replicate len zero).flatten.length=len*s:=by simp [hl]
 refine ⟨by rw [hz,hf],fun j hj=> ?_⟩
 rw [hf] at hj
 have e1: ∀(n:Nat) (j:Nat) (hj:j<(List.replicate n zero).flatten.length),(List.replicate n zero).flatten[j]=zero[j%s]'(by rw [hl];exact Nat.mod_lt _ hs):=by
  intro n
  induction n with
  |zero=>intro j hj;simp at hj
  |succ n ih=>
   intro j hj
   simp only [Z9,List.flatten_cons]
   by_cases hlt:j<zero.length
   ·rw [ZP hlt]
    congr 1
    rw [Nat.mod_eq_of_lt (by omega)]
   ·rw [ZR (by omega),ih]
    congr 1
    rw [hl];exact (Nat.mod_eq_sub_mod (by omega)).symm
 have e2:(Builtin.zeroCells z len).getD j undef=z.getD (j%s) undef:=by
  have hzs:z.size=s:=by omega
  have h5:j%z.size<z.size:=by rw [hzs];exact Nat.mod_lt _ hs
  have h6:j<len*z.size:=by rw [hzs];exact hj
  rw [<-hzs]
  simp [Builtin.zeroCells,Zc,h5,h6]
 show VRep G ((Builtin.zeroCells z len).getD j undef) _
 rw [e1 len j (by rw [hf];exact hj),e2]
 exact h2 (j%s) _
theorem q0A9 (hF: ∀f,F.fn f) (h:Sim N G own L S a w) (hd: ∀t,o.dst=some t->t<N) {x:Arg} {s:Nat} {zero:List V} (hok:okIns P o.op (.clr x s zero)=true)
  {cl:ClT} (hev:evIns cl o.dst (.clr x s zero) S=some S') (hn: ∀a' w',Res N G own w a.defers S' a' w'->next a' w'):o.wpIn F n P a w next Q:=by
 obtain ⟨r,S1,hr,hS⟩:=q01v hev
 simp only [okIns] at hok
 split at hok
 ·rename_i c hop
  split at hok
  ·rename_i u t hcal hargs htys
   simp only [Zb] at hok
   obtain ⟨h1,h2⟩:=hok
   have r1:=q008 h h1
   have ha:c.args= #[u]:=by apply Array.ext';simpa using hargs
   have ht:c.argTypes= #[t]:=by apply Array.ext';simpa using htys
   split at h2
   ·rename_i e hu
    simp only [Zb,bne_iff_ne,beq_iff_eq] at h2
    obtain ⟨⟨⟨⟨k1,k2⟩,k3⟩,k4⟩,k5⟩:=h2
    obtain ⟨ie,hie,rfl⟩:=q017 k1
    have hpos:0<ie.size:=Nat.pos_of_ne_zero k2
    unfold zeroB at k3
    rw [hie] at k3
    simp only at k3
    split at k3
    ·rename_i z hzz
     obtain ⟨z1,z2⟩:=q02u (G:=G) k3
     unfold clrI at hr
     split at hr
     ·rename_i id off len s' hx
      rw [hx] at r1
      split at hr
      ·rename_i hss
       subst hss
       cases hst:q00l S (.ptr id off) (List.replicate len zero).flatten with
       |none=>rw [hst] at hr;cases hr
       |some S2=>
        rw [hst] at hr
        cases hr
        generalize hva:a.eval u=va at r1
        cases r1 with
        |bvs _ _ _ _ b cap hb hcc hl=>
         obtain ⟨f1,f2⟩:=q0w8 z1 z2 k4 hpos len
         have hone:(List.replicate len zero).flatten.all V.oneB=true:=by
          rw [Zn]
          intro y hy
          obtain ⟨l,hl1,hl2⟩:=List.mem_flatten.1 hy
          rw [(List.mem_replicate.1 hl1).2] at hl2
          exact Zn.1 k5 y hl2
         have hone2: ∀y∈(Builtin.zeroCells z.cells len).toList,y.oneCell'=true:=by
          intro y hy
          obtain ⟨j,hj,rfl⟩:=List.mem_iff_getElem.1 hy
          have hj':j<(List.replicate len zero).flatten.length:=by rw [<-f1];simpa using hj
          have hr:VRep G ((Builtin.zeroCells z.cells len).getD j undef) _:=f2 j hj'
          have e:(Builtin.zeroCells z.cells len).getD j undef=(Builtin.zeroCells z.cells len).toList[j]:=by
           have:j<(Builtin.zeroCells z.cells len).size:=by simpa using hj
           simp [Zc,this]
          rw [e] at hr
          have ho:=Zn.1 hone _ (ZK hj')
          revert hr ho
          generalize (Builtin.zeroCells z.cells len).toList[j]=q
          generalize (List.replicate len zero).flatten[j]=y
          intro hr ho
          cases hr with
          |p hp=>cases hp<;>rfl
          |agg=>cases ho
          |tup=>cases ho
          |undef=>cases ho
          |_=>rfl
         obtain ⟨b',off',w',hv,hrun,hsim,hfoot,hkp⟩:=q0sd (P:=P) h (v:= .pointer (some ⟨b,off,none⟩)) (x:= .ptr id off) (VRep.ptr _ _ _ hb) f1 f2 hone2 hone hst
         cases hv
         refine q018 hF (by rw [hop];intro c hc;cases hc) (r:= .ok (.value (.tuple #[])) w') ?_ ?_
         ·obtain ⟨len,rfl⟩: ∃k,len=k+1:=⟨len-1,by omega⟩
          simp [execOp,hop,resolve,hcal,ha,ht,hva,invoke,builtin,Builtin.clear_,run_underlying hu,zeroValue,typeInfo,hie,hzz,hrun]
         ·subst hS
          exact hn _ _ ⟨G,own,L,hsim.put hd (.of (.tup #[] [] rfl (fun j hj=>absurd hj (Zz _)))),hfoot,q00x ..,by cases o.dst<;>exact hkp⟩
      ·cases hr
     ·rename_i hx
      rw [hx] at r1
      cases hr
      generalize hva:a.eval u=va at r1
      cases r1 with
      |nils ad=>
       refine q018 hF (by rw [hop];intro c hc;cases hc) (r:= .ok (.value (.tuple #[])) w) ?_ ?_
       ·cases ad<;>simp [execOp,hop,resolve,hcal,ha,ht,hva,invoke,builtin,Builtin.clear_,run_underlying hu]
       ·subst hS
        exact hn _ _ ⟨G,own,L,h.put hd (.of (.tup #[] [] rfl (fun j hj=>absurd hj (Zz _)))),.refl ..,q00x ..,by cases o.dst<;>exact Kp.refl _ _ _ _⟩
     ·cases hr
    ·cases k3
   ·cases h2
  ·cases hok
 ·cases hok
end
end Go.Eng
