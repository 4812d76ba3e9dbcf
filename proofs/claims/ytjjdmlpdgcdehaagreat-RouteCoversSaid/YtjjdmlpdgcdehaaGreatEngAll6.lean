/- The engine: values, instructions, their evaluation, and that it holds of the program. -/
import Derived.WideKeyRuns
import Derived.Test.YtjjdmlpdgcdehaaGreatEngAll5
namespace Go.Eng
open Go
section
variable {P:Program} {w:World} {G:Gh}
def ChkP (P:Program) (w:World) (em:Bool) (dd:Nat) (t:TypeId) (sh:List Bool):Prop:=
 sh.length=P.cellsOf t-> ∀(c:Array Value) (off:Nat),off+sh.length<=c.size-> ∃v,(part t c off).run P w= .ok v w/\(Instr.checkKey em dd t v).run P w= .ok () w
theorem q0af {d:Nat} {t:TypeId} {sh:List Bool} (h:q023 P d t=some sh): ∃i,P.info? t=some i:=by
 unfold q023 at h
 split at h
 ·cases h
 ·cases hu:P.underlying t with
  |none=>rw [hu] at h;cases h
  |some z=>exact info_of_underlying hu
theorem q0hk {em:Bool} {dd d:Nat} (IH: ∀t sh,q023 P d t=some sh->ChkP P w em dd t sh): ∀(fs:List Field) (e:Nat) (sh:List Bool),q05e P (q023 P d) e fs=some sh-> ∀(c:Array Value),e+sh.length<=c.size->
  ∀f∈fs,f.name≠ "_" /\ ∃v,(part f.type c f.offset).run P w= .ok v w/\(Instr.checkKey em dd f.type v).run P w= .ok () w
 |[],e,sh,h,c,hc,f,hf=>by cases hf
 |g::r,e,sh,h,c,hc,f,hf=>by
  simp only [q05e] at h
  split at h
  ·rename_i hcond
   simp only [Zb,bne_iff_ne,beq_iff_eq] at hcond
   obtain ⟨⟨hn,ho⟩,hi⟩:=hcond
   split at h
   ·rename_i s1 hs1
    split at h
    ·rename_i hl
     cases hr:q05e P (q023 P d) (e+P.cellsOf g.type) r with
     |none=>rw [hr] at h;cases h
     |some s2=>
      rw [hr] at h
      cases h
      simp only [Zt] at hc
      rcases ZI.1 hf with rfl|hf
      ·exact ⟨hn,by rw [ho];exact IH f.type s1 hs1 hl c e (by omega)⟩
      ·exact q0hk IH r (e+P.cellsOf g.type) s2 hr c (by omega) f hf
    ·cases h
   ·cases h
  ·cases h
theorem q0dj (em:Bool): ∀(d:Nat) (t:TypeId) (sh:List Bool),q023 P d t=some sh-> ∀k,ChkP P w em (k+d) t sh
 |0,t,sh,h,k=>by simp [q023] at h
 |d+1,t,sh,h,k=>by
  intro hcl c off hc
  simp only [q023] at h
  split at h
  ·rename_i q hu
   split at h
   ·rename_i hs
    cases h
    obtain ⟨i,hi,hsz⟩:=q017 hs
    refine ⟨_,q02i (w:=w) (agg:=false) (by simp [aggB,hu]) hi hsz (.inr rfl) hc,?_⟩
    rw [show k+(d+1)=(k+d)+1 from rfl]
    simp [Instr.checkKey,run_underlying hu]
   ·cases h
  ·rename_i hu
   split at h
   ·rename_i hs
    cases h
    obtain ⟨i,hi,hsz⟩:=q017 hs
    refine ⟨_,q02i (w:=w) (agg:=false) (by simp [aggB,hu]) hi hsz (.inr rfl) hc,?_⟩
    rw [show k+(d+1)=(k+d)+1 from rfl]
    simp [Instr.checkKey,run_underlying hu]
   ·cases h
  ·rename_i fs hu
   split at h
   ·obtain ⟨i,hi⟩:=info_of_underlying hu
    have hsz:i.size=sh.length:=by rw [hcl];simp [Program.cellsOf,hi]
    refine ⟨_,q02i (w:=w) (agg:=true) (by simp [aggB,hu]) hi hsz (.inl rfl) hc,?_⟩
    simp only [if_true]
    have key:=q0hk (c:=((List.range sh.length).map fun j=>c.getD (off+j) undef).toArray) (fun t sh h=>q0dj em d t sh h k) fs.toList 0 sh h (by simp)
    rw [show k+(d+1)=(k+d)+1 from rfl,Instr.checkKey]
    simp only [Sem.run_bind,run_underlying hu,Result.andThen_ok]
    rw [<-Array.forIn_toList]
    generalize fs.toList=L at key
    clear h
    induction L with
    |nil=>simp
    |cons f L ih=>
     obtain ⟨hn,v,p1,p2⟩:=key f (by simp)
     simp only [List.forIn_cons,Sem.run_bind,hn,ne_eq,not_false_eq_true,if_true,Result.andThen_ok,p1,p2,Sem.run_pure]
     exact ih (fun y hy=>key y (by simp [hy]))
   ·cases h
  ·rename_i m e hu
   split at h
   ·rename_i s1 hs1
    split at h
    ·rename_i hl
     cases h
     obtain ⟨i,hi⟩:=info_of_underlying hu
     obtain ⟨ie,hie⟩:=q0af hs1
     have hsz:i.size=(List.replicate m s1).flatten.length:=by rw [hcl];simp [Program.cellsOf,hi]
     refine ⟨_,q02i (w:=w) (agg:=true) (by simp [aggB,hu]) hi hsz (.inl rfl) hc,?_⟩
     simp only [if_true]
     have hse:ie.size=s1.length:=by rw [hl];simp [Program.cellsOf,hie]
     have IH:=q0dj em d e s1 hs1 k
     rw [show k+(d+1)=(k+d)+1 from rfl,Instr.checkKey]
     simp only [Sem.run_bind,run_underlying hu,Result.andThen_ok]
     simp only [Std.Legacy.Range.forIn_eq_forIn_range',Std.Legacy.Range.size,Nat.sub_zero,Nat.add_one_sub_one,Nat.div_one]
     have hin: ∀j∈List.range' 0 m,j<m:=fun j hj=>by simp at hj;omega
     generalize List.range' 0 m=is at hin
     induction is with
     |nil=>simp
     |cons j is ih=>
      have hj:=hin j (by simp)
      have hb:j*ie.size+s1.length<=((List.range (List.replicate m s1).flatten.length).map fun j=>c.getD (off+j) undef).toArray.size:=by
       simp only [List.size_toArray,Z0,List.length_range]
       simp only [List.length_flatten,List.map_replicate,List.sum_replicate_nat]
       rw [hse,<-ZO]
       exact Zu _ hj
      obtain ⟨v,p1,p2⟩:=IH hl _ (j*ie.size) hb
      simp only [List.forIn_cons,Sem.run_bind,q01m hie,Result.andThen_ok,p1,p2,Sem.run_pure]
      exact ih (fun y hy=>hin y (by simp [hy]))
    ·cases h
   ·cases h
  ·cases h
theorem q0ag {t:TypeId} {sh:List Bool} (h:keyT P t (some sh)=true):q023 P 50 t=some sh/\sh.length=P.cellsOf t/\aggB P t true=true:=by
 simp only [keyT,flatT,Zb,beq_iff_eq] at h
 exact ⟨h.1.1.1,h.1.1.2,h.1.2⟩
theorem q0ah {t:TypeId} (h:keyT P t none=true): ∃q,P.underlying t=some (.int q):=by
 cases hu:P.underlying t with
 |none=>simp [keyT,hu] at h
 |some d=>cases d<;>simp [keyT,hu] at h;exact ⟨_,rfl⟩
theorem q094 {t:TypeId} (ha:aggB P t true=true) {i:TypeInfo} (hi:P.info? t=some i) {c:Array Value} (hs:i.size=c.size):(part t c 0).run P w= .ok (.agg c) w:=by
 rw [q02i (w:=w) (agg:=true) ha hi hs (.inl rfl) (by omega)]
 simp only [if_true,Zs]
 congr 2
 apply Array.ext'
 apply List.ext_getElem
 ·simp
 ·intro n h1 h2
  simp at h1 h2
  simp [Zc,h1]
theorem q0Ai (em:Bool) (m:Nat) {t:TypeId} {q:IntKind} (hu:P.underlying t=some (.int q)) (v:Value):(Instr.checkKey em (m+1) t v).run P w= .ok () w:=by
 simp [Instr.checkKey,run_underlying hu]
theorem q0ai {t:TypeId} {ag:Option (List Bool)} (ht:keyT P t ag=true) {k:V} {v:Value} (hv:VRep G v k) (hk:keyB ag k=true) (em:Bool):(Instr.checkKey em 10000 t v).run P w= .ok () w:=by
 cases ag with
 |none=>
  cases k with
  |p x=>
   cases x with
   |int q n=>
    obtain ⟨k',hu⟩:=q0ah ht
    cases hv with|p hp=>cases hp;exact q0Ai em 9999 hu _
   |_=>simp [keyB] at hk
  |_=>simp [keyB] at hk
 |some sh=>
  obtain ⟨h1,h2,h3⟩:=q0ag ht
  cases k with
  |agg cs=>
   simp only [keyB,Zb,beq_iff_eq] at hk
   cases hv with
   |agg c xs hs hh=>
    obtain ⟨i,hi⟩:=q0af h1
    have hsz:i.size=c.size:=by rw [hs,hk.1,h2];simp [Program.cellsOf,hi]
    obtain ⟨v,p1,p2⟩:=q0dj (w:=w) em 50 t sh h1 9950 h2 c 0 (by omega)
    rw [q094 h3 hi hsz] at p1
    cases p1
    exact p2
  |_=>simp [keyB] at hk
theorem q0sh {t:TypeId} {ag:Option (List Bool)} (ht:keyT P t ag=true) {k k':V} {v v':Value} (hv:VRep G v k) (hv':VRep G v' k') {b:Bool} (he:eqKey ag k k'=some b):(Op.equal t v v').run P w= .ok b w:=by
 cases ag with
 |none=>
  obtain ⟨q,a,a',rfl,rfl,rfl⟩:=q04i he
  obtain ⟨k',hu⟩:=q0ah ht
  rw [q00t (L:=fun _=>none) (.of hv),q00t (L:=fun _=>none) (.of hv')]
  show (Op.equalIn 10000 t _ _).run P w=_
  rw [show (10000:Nat)=9999+1 from rfl,run_equalIn_int _ _ _ _ _ _ _ hu]
  rfl
 |some sh=>
  obtain ⟨h1,h2,h3⟩:=q0ag ht
  cases k with
  |agg xs=>
   cases k' with
   |agg ys=>
    have he':q00h sh xs ys=some b:=he
    obtain ⟨l1,l2⟩:=q041 he'
    cases hv with
    |agg c _ hs hh=>
     cases hv' with
     |agg c' _ hs' hh'=>
      obtain ⟨i,hi⟩:=q0af h1
      have e1:i.size=c.size:=by rw [hs,l1,h2];simp [Program.cellsOf,hi]
      have e2:i.size=c'.size:=by rw [hs',l2,h2];simp [Program.cellsOf,hi]
      obtain ⟨v,v',p1,p2,p3⟩:=q08z (w:=w) (G:=G) 50 t sh h1 9950 h2 c c' 0 xs ys b (by omega) (by omega) (by simpa [CRep] using hh) (by simpa [CRep] using hh') he'
      rw [q094 h3 hi e1] at p1
      rw [q094 h3 hi e2] at p2
      cases p1;cases p2
      exact p3
   |_=>simp [eqKey] at he
  |_=>simp [eqKey] at he
theorem q0dk {t:TypeId} {ag:Option (List Bool)} (ht:keyT P t ag=true) {k:V} {v:Value} (hv:VRep G v k): ∀(es:List MapEntry) (xs:List (V×V)) (i:Nat) (r:Option (Nat×V)),es.length=xs.length->
  (∀j (h1:j<es.length) (h2:j<xs.length),VRep G (es[j]).key (xs[j]).1/\VRep G (es[j]).val (xs[j]).2)->findM ag k xs i=some r->
  ∃q,(Instr.findAsking t v es i).run P w= .ok q w/\(match r,q with|some (n,x),some (m,u)=>n=m/\VRep G u x/\i<=n/\n-i<xs.length/\ ∃x',xs[n-i]? =some x'/\eqKey ag k x'.1=some true|none,none=>True|_,_=>False)
 |[],[],i,r,_,_,h=>by simp only [findM] at h;cases h;exact ⟨none,by simp [Instr.findAsking],trivial⟩
 |e::es,x::xs,i,r,hl,hr,h=>by
  simp only [findM] at h
  have h0:=hr 0 (by simp) (by simp)
  simp only [Z8] at h0
  split at h
  ·rename_i he
   cases h
   exact ⟨some (i,e.val),by simp [Instr.findAsking,q0sh (w:=w) ht hv h0.1 he],rfl,h0.2,Zm _,by simp,x,by simp,he⟩
  ·rename_i he
   obtain ⟨q,q1,q2⟩:=q0dk ht hv es xs (i+1) r (by simpa using hl) (fun j h1 h2=>by
    have:=hr (j+1) (by simpa using h1) (by simpa using h2)
    simpa using this) h
   refine ⟨q,by simp [Instr.findAsking,q0sh (w:=w) ht hv h0.1 he,q1],?_⟩
   cases r with
   |none=>cases q with
    |none=>trivial
    |some p=>exact q2
   |some p=>
    obtain ⟨n,y⟩:=p
    cases q with
    |none=>exact q2
    |some p=>
     obtain ⟨m,u⟩:=p
     obtain ⟨rfl,r2,r3,r4,x',r5,r6⟩:=q2
     refine ⟨rfl,r2,by omega,by simp;omega,x',?_,r6⟩
     rw [show n-i=(n-(i+1))+1 by omega];simpa using r5
  ·cases h
 |[],_::_,_,_,hl,_,_=>by simp at hl
 |_::_,[],_,_,hl,_,_=>by simp at hl
theorem q089 {t:TypeId} {v:Value} {d:TypeDesc} (hu:P.underlying t=some d): ∀(es:List MapEntry) (i:Nat) (r:Option (Nat×Value)),Instr.findNow d v es i=some r->(Instr.findAsking t v es i).run P w= .ok r w
 |[],i,r,h=>by simp only [Instr.findNow] at h;cases h;simp [Instr.findAsking]
 |e::es,i,r,h=>by
  have eqn: ∀b,Instr.sameNow d v e.key=some b->(Op.equal t v e.key).run P w= .ok b w:=by
   intro b hb
   generalize e.key=u at hb⊢
   unfold Instr.sameNow at hb
   split at hb
   ·split at hb
    ·rename_i hk;subst hk;cases hb
     show (Op.equalIn 10000 t _ _).run P w=_
     rw [show (10000:Nat)=9999+1 from rfl,run_equalIn_int _ _ _ _ _ _ _ hu]
    ·cases hb
   ·cases hb;exact q0nl 9999 hu _ _
   ·cases hb;exact q074 9999 hu _ _
   ·cases hb
  simp only [Instr.findNow] at h
  split at h
  ·rename_i hs;cases h;simp [Instr.findAsking,eqn _ hs]
  ·rename_i hs;simp [Instr.findAsking,eqn _ hs,q089 hu es (i+1) r h]
  ·cases h
theorem q0cs {t:TypeId} {v:Value} {es:List MapEntry} {r:Option (Nat×Value)} (hu:(P.underlying t).isSome=true) (h:(Instr.findAsking t v es 0).run P w= .ok r w):(Instr.findKey t v es).run P w= .ok r w:=by
 cases hd:P.underlying t with
 |none=>rw [hd] at hu;cases hu
 |some d=>
  simp only [Instr.findKey,Sem.run_bind,run_underlying hd,Result.andThen_ok]
  cases hf:Instr.findNow d v es 0 with
  |none=>simp only [h]
  |some q=>
   have:=q089 (w:=w) hd es 0 q hf
   rw [h] at this
   simp only [Sem.run_pure]
   rw [<-this]
theorem q0ct {t:TypeId} {ag:Option (List Bool)} (h:keyT P t ag=true):(P.underlying t).isSome=true:=by
 cases ag with
 |none=>obtain ⟨q,hq⟩:=q0ah h;rw [hq];rfl
 |some sh=>
  obtain ⟨h1,-,h3⟩:=q0ag h
  unfold aggB at h3
  cases hu:P.underlying t with
  |none=>rw [hu] at h3;cases h3
  |some d=>rfl
theorem q0si {ag:Option (List Bool)} {k k':V} {v v':Value} (hv:VRep G v k) (hv':VRep G v' k') (he:eqKey ag k k'=some true):Instr.sameBits 10000 v v'=true:=by
 have one: ∀(s:Bool) (x y:V) (u u':Value) (m:Nat),VRep G u x->VRep G u' y->q02l s x y=some true->Instr.sameBits m u u'=true:=by
  intro s x y u u' m hu hu' hs
  cases s with
  |true=>
   obtain ⟨q,a,a',rfl,rfl,hb⟩:=q04i hs
   rw [q00t (L:=fun _=>none) (.of hu),q00t (L:=fun _=>none) (.of hu')]
   have:a=a':=by simpa using hb.symm
   subst this
   unfold Instr.sameBits;simp
  |false=>
   obtain ⟨a,a',rfl,rfl,hb⟩:=q05g hs
   rw [q038 (L:=fun _=>none) (.of hu),q038 (L:=fun _=>none) (.of hu')]
   unfold Instr.sameBits;exact hb.symm
 cases ag with
 |none=>exact one true k k' v v' 10000 hv hv' he
 |some sh=>
  cases k with
  |agg xs=>
   cases k' with
   |agg ys=>
    have he':q00h sh xs ys=some true:=he
    cases hv with
    |agg c _ hs hh=>
     cases hv' with
     |agg c' _ hs' hh'=>
      obtain ⟨l1,l2⟩:=q041 he'
      have all: ∀(sh:List Bool) (xs ys:List V) (us us':List Value),q00h sh xs ys=some true->us.length=xs.length->us'.length=ys.length->
        (∀j (hj:j<xs.length),VRep G (us.getD j undef) (xs[j]))->(∀j (hj:j<ys.length),VRep G (us'.getD j undef) (ys[j]))->((us.zip us').all fun (x,y)=>Instr.sameBits 9999 x y)=true:=by
       intro sh
       induction sh with
       |nil=>
        intro xs ys us us' h e1 e2 _ _
        match xs,ys,h with
        |[],[],_=>simp at e1;subst e1;rfl
       |cons s sh ih=>
        intro xs ys us us' h e1 e2 r1 r2
        match xs,ys,us,us' with
        |x::xs,y::ys,u::us,u'::us'=>
         simp only [q00h] at h
         split at h
         ·rename_i b1 b2 hb1 hb2
          simp only [Option.some.injEq,Zb] at h
          obtain ⟨rfl,rfl⟩:=h
          simp only [List.zip_cons_cons,List.all_cons,Zb]
          refine ⟨one s x y u u' 9999 (r1 0 (by simp)) (r2 0 (by simp)) hb1,ih xs ys us us' hb2 (by simpa using e1) (by simpa using e2) (fun j hj=> ?_) (fun j hj=> ?_)⟩
          ·have:=r1 (j+1) (by simpa using hj);simpa using this
          ·have:=r2 (j+1) (by simpa using hj);simpa using this
         ·cases h
        |[],_,_,_=>simp [q00h] at h
        |_::_,[],_,_=>simp [q00h] at h
        |_::_,_::_,[],_=>simp at e1
        |_::_,_::_,_::_,[]=>simp at e2
      rw [show (10000:Nat)=9999+1 from rfl,Instr.sameBits]
      simp only [Zb,beq_iff_eq]
      refine ⟨by omega,all sh xs ys c.toList c'.toList he' (by simpa using hs) (by simpa using hs') (fun j hj=> ?_) (fun j hj=> ?_)⟩
      ·have:=hh j hj;simpa [ZB,Zc] using this
      ·have:=hh' j hj;simpa [ZB,Zc] using this
   |_=>simp [eqKey] at he
  |_=>simp [eqKey] at he
end
section
variable {F:Fence} {n:Nat} {P:Program} {o:Oper} {a:Act} {w:World} {Q:Exit->Act->World->Prop}
variable {N:Nat} {G:Gh} {own:Own} {L:Nat->Option Nat} {S S':St} {next:Act->World->Prop}
theorem q0cu {s:Bool} {x y:V} {b:Bool} (h:q02l s x y=some b):q02l s y x=some b:=by
 cases s with
 |true=>
  obtain ⟨q,a,a',rfl,rfl,rfl⟩:=q04i h
  simp [q02l,eq_comm]
 |false=>
  obtain ⟨a,a',rfl,rfl,rfl⟩:=q05g h
  simp only [q02l];cases a<;>cases a'<;>rfl
theorem q0aj: ∀ {sh:List Bool} {xs ys:List V} {b:Bool},q00h sh xs ys=some b->q00h sh ys xs=some b
 |[],[],[],b,h=>h
 |s::sh,x::xs,y::ys,b,h=>by
  simp only [q00h] at h⊢
  split at h
  ·rename_i h1 h2
   cases h
   rw [q0cu h1,q0aj h2]
  ·cases h
 |[],_::_,_,_,h=>by simp [q00h] at h
 |[],[],_::_,_,h=>by simp [q00h] at h
 |_::_,[],_,_,h=>by simp [q00h] at h
 |_::_,_::_,[],_,h=>by simp [q00h] at h
theorem q0qc {ag:Option (List Bool)} {x y:V} {b:Bool} (h:eqKey ag x y=some b):eqKey ag y x=some b:=by
 cases ag with
 |none=>exact q0cu h
 |some sh=>
  cases x with
  |agg xs=>cases y with
   |agg ys=>exact q0aj (show q00h sh xs ys=some b from h)
   |_=>simp [eqKey] at h
  |_=>simp [eqKey] at h
theorem q06j {b:Nat} {es:Array MapEntry} {clk:Nat} (hb:w.heap[b]? =some (.map es clk)):(getObj b).run P w= .ok (.map es clk) w:=by simp [getObj,Sem.run,hb]
theorem q0ei {b:Nat} {es:Array MapEntry} {clk:Nat} (o:Obj) (hb:w.heap[b]? =some (.map es clk)):(setObj b o).run P w= .ok () (w.putObj b o):=by simp [setObj,Sem.run,hb,World.putObj]
theorem q0nm (t:TypeId):(Instr.makeMap t none).run P w= .ok (.map (some w.heap.size)) (w.alloc (.map #[] 0)):=rfl
theorem q0oj {v:Value} {id:Nat} (h:VRep G v (.map id)): ∃b,v= .map (some b)/\G.blk id=some b:=by
 cases h with|map _ b hb=>exact ⟨b,rfl,hb⟩
theorem q0ak {H:Heap} {loc:List (Nat×List V)} (hw:WOK G own H L loc w) {v:Value} {id:Nat} (hv:VRep G v (.map id)) {es:List (V×V)} (he:mapAt H id=some es):
  ∃b c clk,v= .map (some b)/\own b=some (.obj id)/\w.heap[b]? =some (.map c clk)/\EntsOK G c es:=by
 obtain ⟨b,rfl,hb⟩:=q0oj hv
 unfold mapAt at he
 split at he
 ·rename_i es' hi
  cases he
  obtain ⟨b',c,clk,k1,k2,k3,k4⟩:=hw.obj id _ hi
  rw [hb] at k1;cases k1
  exact ⟨b,c,clk,rfl,k2,k3,k4⟩
 ·cases he
theorem args2 {vs:Array Value} {x y:V} (h:vs.size=[x,y].length) (hr: ∀j (hj:j<[x,y].length),VRep G (vs.getD j undef) ([x,y][j])): ∃u v,vs= #[u,v]/\VRep G u x/\VRep G v y:=by
 obtain ⟨l⟩:=vs
 match l,h with
 |[u,v],_=>exact ⟨u,v,rfl,by simpa using hr 0 (by simp),by simpa using hr 1 (by simp)⟩
theorem args3 {vs:Array Value} {x y z:V} (h:vs.size=[x,y,z].length) (hr: ∀j (hj:j<[x,y,z].length),VRep G (vs.getD j undef) ([x,y,z][j])): ∃u v q,vs= #[u,v,q]/\VRep G u x/\VRep G v y/\VRep G q z:=by
 obtain ⟨l⟩:=vs
 match l,h with
 |[u,v,q],_=>exact ⟨u,v,q,rfl,by simpa using hr 0 (by simp),by simpa using hr 1 (by simp),by simpa using hr 2 (by simp)⟩
theorem args1 {vs:Array Value} {x:V} (h:vs.size=[x].length) (hr: ∀j (hj:j<[x].length),VRep G (vs.getD j undef) ([x][j])): ∃u,vs= #[u]/\VRep G u x:=by
 obtain ⟨l⟩:=vs
 match l,h with
 |[u],_=>exact ⟨u,rfl,by simpa using hr 0 (by simp)⟩
theorem q0ok {d:Option Nat} {m:MOp} {vs:List V} {r:Option V} (hm:mpH m vs S.hp=q06v r) (hev:callI (fun _ vs H=>mpH m vs H) S d m.pure .undef vs=some S'):vs.all V.outB=true/\ ∃v,r=some v/\S'=S.put d v:=by
 unfold callI at hev
 split at hev
 ·rename_i ho
  refine ⟨ho,?_⟩
  simp only [hm] at hev
  cases r with
  |none=>cases hev
  |some v=>
   simp only [q06v,callR] at hev
   split at hev
   ·exact ⟨v,rfl,by simpa using hev.symm⟩
   ·cases hev
 ·cases hev
theorem q0ol {d:Option Nat} {m:MOp} {vs:List V} {v:V} {H:Heap} {ds:List Nat} (hm:mpH m vs S.hp=some (v,some (H,ds))) (hev:callI (fun _ vs H=>mpH m vs H) S d m.pure .undef vs=some S'):
  vs.all V.outB=true/\S'= {S with hp:=H,dirty:=ds.foldr (addD S.base) S.dirty}.put d v:=by
 unfold callI at hev
 split at hev
 ·rename_i ho
  refine ⟨ho,?_⟩
  simp only [hm,callR] at hev
  split at hev
  ·cases hev
  ·simpa using hev.symm
 ·cases hev
theorem q0Dg {H:Heap} {loc:List (Nat×List V)} (hw:WOK G own H L loc w) {t kt et:TypeId} (hu:P.underlying t=some (.map kt et)) {ag:Option (List Bool)} (hk:keyT P kt ag=true) {zero:V} (hz:q0k8 P et zero=true) {ok:Bool} {x k r:V} {u v:Value}
  (hx:VRep G u x) (hv:VRep G v k) (hr:lkmV H x k ag zero ok=some r): ∃q,(Instr.lookup t u v ok).run P w= .ok q w/\VRep G q r:=by
 obtain ⟨z,hz1,hz2⟩: ∃z,(zeroValue et).run P w= .ok z w/\VRep G z zero:=by
  unfold q0k8 at hz
  split at hz
  ·rename_i i hi
   split at hz
   ·rename_i z hzz
    simp only [Zb] at hz
    exact ⟨z,by simp [zeroValue,typeInfo,hi,hzz],q0cn hz.1⟩
   ·cases hz
  ·cases hz
 have hkb:keyB ag k=true:=by unfold lkmV at hr;split at hr<;>simp_all
 unfold lkmV at hr
 rw [if_pos hkb] at hr
 obtain ⟨es,he,hr⟩:=Option.bind_eq_some_iff.1 hr
 have core: ∀(ents:Array MapEntry),EntsOK G ents es-> ∃(p:Option (Nat×Value)),(Instr.findKey kt v ents.toList).run P w= .ok p w/\
   VRep G (match p with|some (_,y)=>(if ok=true then .tuple #[y,.bool true] else y)|none=>(if ok=true then .tuple #[z,.bool false] else z)) r:=by
  intro ents hents
  cases hf:findM ag k es 0 with
  |none=>rw [hf] at hr;cases hr
  |some p=>
   rw [hf] at hr
   obtain ⟨q,q1,q2⟩:=q0dk (w:=w) hk hv ents.toList es 0 p (by simpa using hents.1) (fun j h1 h2=>by
    have:=hents.2 j h2 (by simpa using h1)
    exact ⟨by simpa using this.1,by simpa using this.2.1⟩) hf
   refine ⟨q,q0cs (q0ct hk) q1,?_⟩
   have pair: ∀ {y:Value} {e:V} (b:Bool),VRep G y e->VRep G (if ok=true then .tuple #[y,.bool b] else y) (if ok=true then .tup [e,.p (.bool b)] else e):=by
    intro y e b hy
    split
    ·refine .tup _ _ rfl fun j hj=> ?_
     match j,hj with
     |0,_=>exact hy
     |1,_=>exact .p (.bool b)
    ·exact hy
   cases p with
   |none=>
    cases q with
    |none=>simp only [lkmK] at hr;cases hr;exact pair false hz2
    |some _=>exact q2.elim
   |some p=>
    obtain ⟨i,e⟩:=p
    cases q with
    |none=>exact q2.elim
    |some q=>
     obtain ⟨i',y⟩:=q
     simp only [lkmK] at hr;cases hr
     exact pair true q2.2.1
 have run: ∀(ents:Array MapEntry) (he:EntsOK G ents es),(do
   Instr.checkKey ents.isEmpty 10000 kt v
   let (q,k)<-match<-Instr.findKey kt v ents.toList with
    |some (_,q)=>pure (q,true)
    |none=>pure (<-zeroValue et,false)
   pure (if ok then Value.tuple #[q,.bool k] else q):Sem Value).run P w= .ok (match (core ents he).choose with|some (_,y)=>(if ok=true then .tuple #[y,.bool true] else y)|none=>(if ok=true then .tuple #[z,.bool false] else z)) w:=by
  intro ents he
  have h1:=(core ents he).choose_spec.1
  generalize (core ents he).choose=p at h1
  cases p with
  |none=>simp [q0ai (w:=w) hk hv hkb,h1,hz1]
  |some p=>simp [q0ai (w:=w) hk hv hkb,h1]
 unfold mapEs at he
 split at he
 ·cases he
  cases hx with
  |p hp=>
   cases hp
   have e0:EntsOK G #[] []:=⟨rfl,fun i hi=>absurd hi (Zz _)⟩
   refine ⟨_,?_,(core #[] e0).choose_spec.2⟩
   have:=run #[] e0
   simp only [Instr.lookup,Sem.run_bind,run_underlying hu,Result.andThen_ok,Sem.run_pure] at this⊢
   exact this
 ·rename_i id
  obtain ⟨b,c,clk,rfl,-,hb,hents⟩:=q0ak hw hx he
  refine ⟨_,?_,(core c hents).choose_spec.2⟩
  have:=run c hents
  simp only [Instr.lookup,Sem.run_bind,run_underlying hu,Result.andThen_ok,Sem.run_pure,q06j hb] at this⊢
  exact this
 ·cases he
theorem q0Dh (hF: ∀f,F.fn f) (h:Sim N G own L S a w) (hd: ∀t,o.dst=some t->t<N) {m:MOp} {as:List Arg} (hok:okIns P o.op (.mp m as)=true)
  {cl:ClT} (hev:evIns cl o.dst (.mp m as) S=some S') (hn: ∀a' w',Res N G own w a.defers S' a' w'->next a' w'):o.wpIn F n P a w next Q:=by
 have hev':callI (fun _ vs H=>mpH m vs H) S o.dst m.pure .undef (as.map fun b=>normA (S.arg b))=some S':=hev
 have hok':okMp P o.op m as=true:=hok
 cases m with
 |mkm=>
  simp only [okMp] at hok'
  split at hok'
  ·rename_i t r hop
   cases r with
   |some _=>simp at hok'
   |none=>
    simp only [Bool.and_true,List.isEmpty_iff] at hok'
    subst hok'
    obtain ⟨-,rfl⟩:=q0ol (m:= .mkm) rfl hev'
    have hnew:=h.wok.blk_new
    have hle:=Gh.le_withBox (b:=w.heap.size) hnew
    refine q018 hF (by rw [hop];intro c hc;cases hc) (r:= .ok (.value (.map (some w.heap.size))) (w.alloc (.map #[] 0))) ?_ ?_
    ·simp [execOp,hop,q0nm]
    ·refine hn _ _ ⟨G.withBox S.hp.length w.heap.size,upd own w.heap.size (.obj S.hp.length),L,?_,.newOwnO _ _ _ hle rfl,q00x ..,?_⟩
     ·have hsim:Sim N (G.withBox S.hp.length w.heap.size) (upd own w.heap.size (.obj S.hp.length)) L {S with hp:=S.hp++[DObj.map []]} a (w.alloc (.map #[] 0)):=by
       refine h.change hle rfl (fun _ _ _ _=>rfl) (h.wok.newObjO (.map []) _ _ hle rfl ?_ ?_ ?_ ?_ ?_)
       ·intro i b hi
        simp only [Gh.withBox] at hi
        by_cases e:i=S.hp.length
        ·omega
        ·rw [q01t _ _ e] at hi;have:=h.wok.dom i b hi;omega
       ·intro i t r hi;have:=h.wok.domr i t r hi;omega
       ·intro i t r _ hr;exact hr
       ·intro s es hh;cases hh
       ·exact ⟨w.heap.size,#[],0,q01n ..,q01n ..,heap_alloc_new w _,rfl,fun i hi=>absurd hi (Zz _)⟩
      exact hsim.put hd (.of (.map _ _ (q01n ..)))
     ·cases o.dst<;>exact Kp.alloc rfl _
  ·cases hok'
 |len=>
  simp only [okMp] at hok'
  split at hok'
  ·rename_i c hop
   split at hok'
   ·rename_i t hcal hty
    simp only [Zb] at hok'
    obtain ⟨h1,h2⟩:=hok'
    match as,hev',h1 with
    |[],hev',_=>simp [mpH,callI,callR] at hev'
    |[x],hev',h1=>
     obtain ⟨ho,v,hv,hS⟩:=q0ok (m:= .len) (r:=lenmV S.hp (normA (S.arg x))) rfl hev'
     obtain ⟨a1,a2⟩:=q048 (bs:=[x]) h h1 ho
     obtain ⟨u,e1,e2⟩:=args1 a1 a2
     simp only [Z5] at e1
     split at h2
     ·rename_i kt et hu
      unfold lenmV at hv
      obtain ⟨es,he,rfl⟩:=Option.map_eq_some_iff.1 hv
      suffices hr:(execOp a.eval o).run P w= .ok (.value (.int .i64 es.length)) w from
       q00f hF h hd (by rw [hop];intro c hc;cases hc) hr (.of (.p (.int _ _))) hS hn
      have hty':c.argTypes= #[t]:=by apply Array.ext';simpa using hty
      have hav:c.args.map a.eval= #[u]:=by simpa using e1
      have e2':VRep G u (normA (S.arg x)):=e2
      have run: ∀m:Nat,(Builtin.len_ #[t] o.type #[u]).run P w= .ok (.int .i64 m) w->(execOp a.eval o).run P w= .ok (.value (.int .i64 m)) w:=by
       intro m hm
       have hm':(Builtin.len_ #[t] o.type #[u]).run P w= .ok (.int .i64 m) w:=hm
       simp [execOp,hop,resolve,hcal,hav,hty',invoke,builtin,hm']
      refine run _ ?_
      generalize normA (S.arg x)=y at he e2'
      unfold mapEs at he
      split at he
      ·cases he
       cases e2' with|p hp=>cases hp;simp [Builtin.len_,run_underlying hu,goInt]
      ·rename_i id
       obtain ⟨b,cc,clk,rfl,-,hb,hents⟩:=q0ak h.wok e2' he
       simp [Builtin.len_,run_underlying hu,goInt,q06j (P:=P) hb,hents.1]
      ·cases he
     ·cases h2
    |_::_::_,hev',_=>simp [mpH,callI,callR] at hev'
   ·cases hok'
  ·cases hok'
 |lk ag zero ok=>
  simp only [okMp] at hok'
  split at hok'
  ·rename_i t x i ok' hop
   simp only [Zb,beq_iff_eq] at hok'
   obtain ⟨⟨h1,rfl⟩,h2⟩:=hok'
   match as,hev',h1 with
   |[],hev',h1=>simp [q01u] at h1
   |[_],hev',h1=>simp [q01u] at h1
   |[y,k],hev',h1=>
    obtain ⟨ho,v,hv,hS⟩:=q0ok (m:= .lk ag zero ok) (r:=lkmV S.hp (normA (S.arg y)) (normA (S.arg k)) ag zero ok) rfl hev'
    obtain ⟨a1,a2⟩:=q048 (bs:=[y,k]) h h1 ho
    obtain ⟨u,q,e1,e2,e3⟩:=args2 a1 a2
    split at h2
    ·rename_i kt et hu
     simp only [Zb] at h2
     obtain ⟨z,z1,z2⟩:=q0Dg (P:=P) h.wok hu h2.1 h2.2 e2 e3 hv
     refine q00f hF h hd (by rw [hop];intro c hc;cases hc) (v:=z) ?_ (.of z2) hS hn
     have:a.eval x=u/\a.eval i=q:=by simpa using e1
     simp [execOp,hop,this.1,this.2,z1]
    ·cases h2
   |_::_::_::_,hev',h1=>simp [q01u] at h1
  ·cases hok'
 |st ag sz=>
  have core: ∀(t:TypeId) (x k v:Operand),q01u [x,k,v] as=true->(∃kt et,P.underlying t=some (.map kt et)/\keyT P kt ag=true)->(∀r,(Instr.mapUpdate t (a.eval x) (a.eval k) (a.eval v)).run P w= .ok () r->(execOp a.eval o).run P w= .ok .skip r)->(∀c,o.op≠ .defer c)->o.wpIn F n P a w next Q:=by
   intro t x k v h1 ⟨kt,et,hu,hkt⟩ hrun hnd
   match as,hev',h1 with
   |[],hev',h1=>simp [q01u] at h1
   |[_],hev',h1=>simp [q01u] at h1
   |[_,_],hev',h1=>simp [q01u] at h1
   |_::_::_::_::_,hev',h1=>simp [q01u] at h1
   |[x',k',v'],hev',h1=>
    have hm: ∃id es r,normA (S.arg x')= .map id/\mapAt S.hp id=some es/\findM ag (normA (S.arg k')) es 0=some r/\keyB ag (normA (S.arg k'))=true/\
      mpH (.st ag sz) ([x',k',v'].map fun b=>normA (S.arg b)) S.hp=some (.tup [],some (S.hp.set id (.map (setM es (normA (S.arg k')) (normA (S.arg v')) r)),[id])):=by
     have hs: ∃q,mpH (.st ag sz) ([x',k',v'].map fun b=>normA (S.arg b)) S.hp=some q:=by
      unfold callI at hev'
      split at hev'
      ·cases hq:mpH (.st ag sz) ([x',k',v'].map fun b=>normA (S.arg b)) S.hp with
       |none=>simp only [hq,callR] at hev';cases hev'
       |some q=>exact ⟨q,rfl⟩
      ·cases hev'
     obtain ⟨q,hq⟩:=hs
     have hq':stmH S.hp (normA (S.arg k')) (normA (S.arg v')) ag sz (normA (S.arg x'))=some q:=hq
     unfold stmH at hq'
     split at hq'
     ·rename_i id hx
      split at hq'
      ·rename_i hc
       cases he:mapAt S.hp id with
       |none=>rw [he] at hq';cases hq'
       |some es=>
        rw [he] at hq'
        simp only [stmE] at hq'
        cases hf:findM ag (normA (S.arg k')) es 0 with
        |none=>rw [hf] at hq';cases hq'
        |some r=>rw [hf] at hq';cases hq';exact ⟨id,es,r,hx,he,hf,hc.2.2,hq⟩
      ·cases hq'
     ·cases hq'
    obtain ⟨id,es,r,hx,he,hf,hkb,hmp⟩:=hm
    obtain ⟨ho,hS⟩:=q0ol hmp hev'
    obtain ⟨a1,a2⟩:=q048 (bs:=[x',k',v']) h h1 ho
    obtain ⟨u,q,y,e1,e2,e3,e4⟩:=args3 a1 a2
    have ea:a.eval x=u/\a.eval k=q/\a.eval v=y:=by simpa using e1
    have e2':VRep G u (normA (S.arg x')):=e2
    rw [hx] at e2'
    have e3':VRep G q (normA (S.arg k')):=e3
    have e4':VRep G y (normA (S.arg v')):=e4
    have hvo:(normA (S.arg v')).outB=true:=by
     simp only [Zo,List.all_cons,Zb] at ho;exact ho.2.2.1
    obtain ⟨b,c,clk,rfl,hob,hb,hents⟩:=q0ak h.wok e2' he
    obtain ⟨p,p1,p2⟩:=q0dk (w:=w) hkt e3' c.toList es 0 r (by simpa using hents.1) (fun j h1 h2=>by
     have:=hents.2 j h2 (by simpa using h1)
     exact ⟨by simpa using this.1,by simpa using this.2.1⟩) hf
    have hk1:=q0cs (q0ct hkt) p1
    have hk2:=q0ai (w:=w) hkt e3' hkb false
    have hlt:b<w.heap.size:=(ZN.1 hb).1
    suffices hs: ∃c' clk',(Instr.mapUpdate t (.map (some b)) q y).run P w= .ok () (w.putObj b (.map c' clk'))/\EntsOK G c' (setM es (normA (S.arg k')) (normA (S.arg v')) r) by
     obtain ⟨c',clk',r1,r2⟩:=hs
     refine q018 hF hnd (r:= .ok .skip (w.putObj b (.map c' clk'))) (hrun _ (by rw [ea.1,ea.2.1,ea.2.2];exact r1)) ?_
     subst hS
     refine hn _ _ ⟨G,own,L,?_,.putO hob _,q00x ..,?_⟩
     ·have hsim:Sim N G own L {S with hp:=S.hp.set id (.map (setM es (normA (S.arg k')) (normA (S.arg v')) r)),dirty:=[id].foldr (addD S.base) S.dirty} a (w.putObj b (.map c' clk')):=by
       refine h.change (.refl G) rfl (fun _ _ _ _=>rfl) (h.wok.putO hob _ _ (fun _ _ hh=>by cases hh) ?_)
       have hid: ∃b',G.blk id=some b'/\b'=b:=by
        obtain ⟨b',hb',hb2⟩:=q0oj e2'
        cases hb';exact ⟨b,hb2,rfl⟩
       obtain ⟨b',k1,rfl⟩:=hid
       exact ⟨b',c',clk',k1,hob,World.putObj_heap_same hlt,r2⟩
      exact hsim.put hd (.of (.tup #[] [] rfl (fun j hj=>absurd hj (Zz _))))
     ·have hkp:Kp S.base ([id].foldr (addD S.base) S.dirty) own w (w.putObj b (.map c' clk')):=Kp.putO hob (fun i hi hlt=>by cases hi;exact q04y.2 (.inl ⟨by simp,hlt⟩)) _
      cases o.dst<;>exact hkp
    cases r with
    |none=>
     cases p with
     |some _=>exact p2.elim
     |none=>
      refine ⟨c.push {key:=q,val:=y,born:=clk},clk+1,?_,?_⟩
      ·simp [Instr.mapUpdate,run_underlying hu,q06j (P:=P) hb,hk2,hk1,q0ei (P:=P) _ hb]
      ·refine ⟨by simp [setM,hents.1],fun i hi hc=> ?_⟩
       simp only [setM]
       rcases Z2 i es.length with hlt2|hge
       ·have hlt3:i<c.size:=by rw [hents.1];exact hlt2
        have:=hents.2 i hlt2 hlt3
        simp only [Array.getElem_push_lt hlt3,ZP hlt2]
        exact this
       ·have hi':i=es.length:=by simp [setM] at hi;omega
        subst hi'
        have:c.size=es.length:=hents.1
        have e5:(c.push {key:=q,val:=y,born:=clk})[es.length]'hc= {key:=q,val:=y,born:=clk}:=by simp [<-this]
        simp only [e5,ZR (Zm _),Nat.sub_self,Z8]
        exact ⟨e3',e4',hvo⟩
    |some r=>
     obtain ⟨i,e⟩:=r
     cases p with
     |none=>exact p2.elim
     |some p=>
      obtain ⟨i',z⟩:=p
      obtain ⟨rfl,p3,-,p5,x0,p6,p7⟩:=p2
      simp only [Nat.sub_zero] at p5 p6
      have hi:i<c.size:=by rw [hents.1];exact p5
      have hx0:es[i]=x0:=by
       have:=(Za.1 p6).2;exact this
      have hbit:Instr.sameBits 10000 (c[i]).key q=true:=by
       have hh:=(hents.2 i p5 hi).1
       rw [hx0] at hh
       have sym:eqKey ag x0.1 (normA (S.arg k'))=some true:=q0qc p7
       exact q0si hh e3' sym
      refine ⟨c.modify i fun e=> {e with key:=q,val:=y},clk,?_,?_⟩
      ·simp [Instr.mapUpdate,run_underlying hu,q06j (P:=P) hb,hk2,hk1,hi,Instr.keyThatStays,hbit,q0ei (P:=P) _ hb]
      ·refine ⟨by simp [setM,hents.1],fun j hj hc=> ?_⟩
       simp only [setM] at hj⊢
       have hjl:j<es.length:=by simpa using hj
       have hjc:j<c.size:=by rw [hents.1];exact hjl
       have h5:=hents.2 j hjl hjc
       simp only [Array.getElem_modify,List.getElem_set]
       by_cases hij:i=j
       ·subst hij;simp only [if_true];exact ⟨e3',e4',hvo⟩
       ·simp only [if_neg hij];exact h5
  have ty: ∀t,(match P.underlying t with|some (.map kt _)=>keyT P kt ag|_=>false)=true-> ∃kt et,P.underlying t=some (.map kt et)/\keyT P kt ag=true:=by
   intro t ht
   split at ht
   ·rename_i kt et hu;exact ⟨kt,et,hu,ht⟩
   ·cases ht
  simp only [okMp] at hok'
  split at hok'
  ·rename_i t x k v hop
   simp only [Zb] at hok'
   exact core t x k v hok'.1 (ty t hok'.2) (fun r hr=>by simp [execOp,hop,hr]) (by rw [hop];intro c hc;cases hc)
  ·rename_i t x k v hop
   simp only [Zb] at hok'
   exact core t x k v hok'.1 (ty t hok'.2) (fun r hr=>by simp [execOp,hop,hr]) (by rw [hop];intro c hc;cases hc)
  ·cases hok'
end
theorem q0dl: ∀(ids:List Nat) (H:Heap),(bury H ids).length=H.length
 |[],_=>rfl
 |i::r,H=>by simp only [bury];rw [q0dl r];simp
theorem q0dm: ∀(ids:List Nat) (H:Heap) (i:Nat) (o:DObj),(bury H ids)[i]? =some o->(i∈ids/\o= .dead)\/(i∉ids/\H[i]? =some o)
 |[],H,i,o,h=> .inr ⟨by simp,h⟩
 |k::r,H,i,o,h=>by
  simp only [bury] at h
  rcases q0dm r _ i o h with ⟨h1,h2⟩|⟨h1,h2⟩
  ·exact .inl ⟨Zv _ h1,h2⟩
  ·by_cases e:k=i
   ·subst e
    have hlt:k<H.length:=by
     have:=(Za.1 h2).1
     simpa using this
    simp [hlt] at h2
    exact .inl ⟨ZE,h2.symm⟩
   ·rw [Zr e] at h2
    exact .inr ⟨by simp [Ne.symm e,h1],h2⟩
def Gh.bury (G:Gh) (own:Own) (w:World) (ids:List Nat):Gh:=
 {G with I:=fun b o v=>G.I b o v\/((∃id∈ids,own b=some (.obj id))/\w.cell? ⟨b,o,none⟩=some v)}
def q03g (own:Own) (ids:List Nat):Own:=fun b=>match own b with
 |some (.obj id)=>if id∈ids then none else some (.obj id)
 |x=>x
theorem q075 {own:Own} {ids:List Nat} {b:Nat} {k:Key} (h:q03g own ids b=some k):own b=some k:=by
 unfold q03g at h
 split at h
 ·rename_i id ho
  split at h
  ·cases h
  ·rw [ho];exact h
 ·exact h
theorem q0kj {own:Own} {ids:List Nat} {b id:Nat} (h:own b=some (.obj id)) (hi:id∈ids):q03g own ids b=none:=by simp [q03g,h,hi]
theorem q0nn {own:Own} {ids:List Nat} {b id:Nat} (h:own b=some (.obj id)) (hi:id∉ids):q03g own ids b=some (.obj id):=by simp [q03g,h,hi]
theorem q0Fo {own:Own} {ids:List Nat} {b s:Nat} (h:own b=some (.loc s)):q03g own ids b=some (.loc s):=by simp [q03g,h]
theorem Gh.le_bury (G:Gh) (own:Own) (w:World) (ids:List Nat):G.Le (G.bury own w ids):=⟨fun _ _ _ h=> .inl h,fun _ _ h=>h,fun _ _ _ h=>h,rfl⟩
section
variable {G:Gh} {own:Own} {H:Heap} {L:Nat->Option Nat} {loc:List (Nat×List V)} {w:World}
theorem WOK.bury (h:WOK G own H L loc w) (ids:List Nat):WOK (G.bury own w ids) (q03g own ids) (bury H ids) (fun _=>none) [] w where
 imm b o v hi:=by
  rcases hi with hi|⟨_,hi⟩
  ·exact h.imm b o v hi
  ·exact hi
 dom i b hb:=by rw [q0dl];exact h.dom i b hb
 domr i t r hr:=by rw [q0dl];exact h.domr i t r hr
 top i s es hi t r hr:=by
  rcases q0dm ids H i _ hi with ⟨_,h2⟩|⟨_,h2⟩
  ·cases h2
  ·exact h.top i s es h2 t r hr
 obj i o hi:=by
  rcases q0dm ids H i _ hi with ⟨_,h2⟩|⟨h1,h2⟩
  ·subst h2;trivial
  ·exact (h.obj i o h2).frame (G.le_bury own w ids) (fun b hb=>q0nn hb h1) (fun _ _=>rfl)
 locs s cs hs:=by simp at hs
 noI b o v hi:=by
  rcases hi with hi|⟨⟨id,h1,h2⟩,_⟩
  ·cases hx:q03g own ids b with
   |none=>rfl
   |some k=>have:=q075 hx;rw [h.noI b o v hi] at this;cases this
  ·exact q0kj h2 h1
 lt b k hk:=h.lt b k (q075 hk)
 ilt b o v hi:=by
  rcases hi with hi|⟨⟨id,h1,h2⟩,_⟩
  ·exact h.ilt b o v hi
  ·exact h.lt b _ h2
theorem WOK.moreI (h:WOK G own H L loc w) {I:Nat->Nat->Value->Prop} (hle: ∀b o v,G.I b o v->I b o v) (himm: ∀b o v,I b o v->w.cell? ⟨b,o,none⟩=some v) (hno: ∀b o v,I b o v->own b=none)
  (hlt: ∀b o v,I b o v->b<w.heap.size):WOK {G with I:=I} own H L loc w where
 imm:=himm
 dom:=h.dom
 domr:=h.domr
 top:=h.top
 obj i o hi:=(h.obj i o hi).frame ⟨hle,fun _ _ h=>h,fun _ _ _ h=>h,rfl⟩ (fun _ x=>x) (fun _ _=>rfl)
 locs s cs hs:=(h.locs s cs hs).frame ⟨hle,fun _ _ h=>h,fun _ _ _ h=>h,rfl⟩ rfl (fun _ x=>x) (fun _ _=>rfl)
 noI:=hno
 lt:=h.lt
 ilt:=hlt
theorem q03m {α β:Type} {f:α->Option β}: ∀ {l:List α} {r:List β},allO f l=some r->l.length=r.length/\ ∀i (hi:i<l.length) (hj:i<r.length),f (l[i])=some (r[i])
 |[],r,h=>by cases h;exact ⟨rfl,fun i hi=>absurd hi (Zz _)⟩
 |x::l,r,h=>by
  simp only [allO] at h
  split at h
  ·rename_i y ys h1 h2
   cases h
   obtain ⟨q1,q2⟩:=q03m h2
   refine ⟨by simp [q1],fun i hi hj=> ?_⟩
   cases i with
   |zero=>exact h1
   |succ i=>exact q2 i (by simpa using hi) (by simpa using hj)
  ·cases h
theorem q0Uj (h:WOK G own H L loc w) {base:Nat} {ids:List Nat}: ∀(d:Nat) {v:Value} {raw:V} {x:PV},VRep G v raw->frz base H d raw=some x->(∀i∈q00w base H d raw,i∈ids)->PRep (G.bury own w ids).I v x:=by
 have hle:=G.le_bury own w ids
 intro d
 induction d with
 |zero=>
  intro v raw x hv hf hids
  cases raw<;>simp only [frz] at hf<;>cases hf
  ·cases hv with|p hp=>exact hp.mono hle.I
  ·cases hv with|nils ad=>exact .sl0 ad 0
 |succ d ih=>
  intro v raw x hv hf hids
  cases raw with
  |p y=>simp only [frz] at hf;cases hf;cases hv with|p hp=>exact hp.mono hle.I
  |nils=>simp only [frz] at hf;cases hf;cases hv with|nils ad=>exact .sl0 ad 0
  |row id tot off len=>
   simp only [frz] at hf
   split at hf
   ·rename_i hb
    simp only [q00w,if_pos hb,ZI] at hids
    have hid:id∈ids:=hids id (.inl rfl)
    simp only [elems] at hf hids
    cases hro:rowAt H id with
    |none=>rw [hro] at hf;cases hf
    |some p=>
     obtain ⟨s',es⟩:=p
     rw [hro] at hf hids
     simp only [Ze] at hf hids
     by_cases hc1:es.length=tot
     ·rw [if_pos hc1] at hf hids
      simp only [Ze,Option.getD_some] at hf hids
      cases hal:allO (allO (frz base H d)) ((es.drop off).take len) with
      |none=>rw [hal] at hf;cases hf
      |some ys=>
       rw [hal] at hf
       cases hf
       obtain ⟨a1,a2⟩:=q03m hal
       cases hv with
       |rown _ h0=>
        have:ys=[]:=ZU.1 (by rw [<-a1];simp)
        subst this;exact .sl0 _ _
       |rowz _ _ _ h0 ad cap=>
        have:ys=[]:=ZU.1 (by rw [<-a1];simp)
        subst this;exact .sl0 _ _
       |row _ _ _ _ b s'' cap hg h1 h2=>
        obtain ⟨rfl,c,e2,e3,e4,e5,e6,e7,e8⟩:=q04v h hro (hc1▸hg)
        have hl:((es.drop off).take len).length=len:=by simp;omega
        by_cases hz:len=0
        ·have:ys=[]:=ZU.1 (by rw [<-a1,hl,hz])
         subst this;subst hz;exact .sl0 _ _
        ·have hyl:ys.length=len:=by rw [<-a1,hl]
         have hget: ∀i (hi:i<len),((es.drop off).take len)[i]'(by omega)=es[off+i]'(by omega):=fun i hi=>by simp
         have hel: ∀i (hi:i<len),∃(q:es[off+i]'(by omega)∈es),allO (frz base H d) (es[off+i]'(by omega))=some (ys[i]'(by omega)):=fun i hi=>by
          have:=a2 i (by omega) (by omega)
          rw [hget i hi] at this
          exact ⟨ZK _,this⟩
         have key:PRep (G.bury own w ids).I (.slice (some ⟨b,off*s'',none⟩) ys.length (cap-off)) (.sl ys):=by
          refine .sl b (off*s'') (cap-off) s'' _ (fun i j=>c.getD ((off+i)*s''+j) undef) (by omega) (by omega) (fun i hi=> ?_) (fun i j hi hj=> ?_) (fun i j hi hj=> ?_)
          ·obtain ⟨-,q⟩:=hel i (by omega)
           rw [<-(q03m q).1];exact e6 _ _
          ·refine .inr ⟨⟨id,hid,e2⟩,?_⟩
           rw [hyl] at hi
           rw [e3.cell]
           have hlt:off*s''+i*s''+j<c.size:=by
            have h9:(off+i)*s''+s''<=cap*s'':=by rw [<-ZO];exact Zu _ (by omega)
            rw [Nat.add_mul] at h9;omega
           have he:off*s''+i*s''+j=(off+i)*s''+j:=by rw [Nat.add_mul]
           rw [he] at hlt⊢
           simp [Zc,hlt]
          ·rw [hyl] at hi
           obtain ⟨-,q⟩:=hel i hi
           obtain ⟨r1,r2⟩:=q03m q
           have hj':j<(es[off+i]'(by omega)).length:=by omega
           refine ih (e7 (off+i) j (by omega) hj') (r2 j hj' hj) (fun k hk=>hids k (.inr ?_))
           refine ZQ.2 ⟨es[off+i]'(by omega),?_,ZQ.2 ⟨_,ZK hj',hk⟩⟩
           rw [<-hget i hi];exact ZK _
         rw [hyl] at key
         exact key
     ·rw [if_neg hc1] at hf;cases hf
   ·cases hf
  |_=>simp only [frz] at hf;cases hf
end
theorem q0Aj (H:Heap): ∀(d:Nat) {raw:V} {x:PV},frz 0 H d raw=some x-> ∀i∈q00w 0 H d raw,i<H.length:=by
 intro d
 induction d with
 |zero=>intro raw x _ i hi;cases raw<;>simp [q00w] at hi
 |succ d ih=>
  intro raw x hf i hi
  cases raw with
  |row id tot off len=>
   simp only [frz,Zj,if_true,elems] at hf
   simp only [q00w,Zj,if_true,elems] at hi
   cases hro:rowAt H id with
   |none=>rw [hro] at hf;cases hf
   |some p=>
    obtain ⟨s',es⟩:=p
    rw [hro] at hf hi
    simp only [Ze] at hf hi
    have hid:id<H.length:=by
     unfold rowAt at hro
     rcases Z2 id H.length with h|h
     ·exact h
     ·rw [ZF h] at hro;cases hro
    rcases ZI.1 hi with rfl|hi
    ·exact hid
    ·by_cases hc:es.length=tot
     ·rw [if_pos hc] at hf hi
      simp only [Ze,Option.getD_some] at hf hi
      obtain ⟨e,he,hi⟩:=ZQ.1 hi
      obtain ⟨u,hu,hi⟩:=ZQ.1 hi
      cases hal:allO (allO (frz 0 H d)) ((es.drop off).take len) with
      |none=>rw [hal] at hf;cases hf
      |some ys=>
       obtain ⟨a1,a2⟩:=q03m hal
       obtain ⟨j,hj,rfl⟩:=List.getElem_of_mem he
       obtain ⟨b1,b2⟩:=q03m (a2 j hj (by omega))
       obtain ⟨k,hk,rfl⟩:=List.getElem_of_mem hu
       exact ih (b2 k hk (by omega)) i hi
     ·rw [if_neg hc] at hi;simp at hi
  |_=>simp [q00w] at hi
theorem q0fw {G G':Gh} (hI: ∀b o v,G.I b o v->G'.I b o v): ∀(d:Nat) {v:Value} {x:V},VRep G v x->solN d x=true->VRep G' v x:=by
 intro d
 induction d with
 |zero=>
  intro v x hv hs
  cases x with
  |p y=>cases hv with|p hp=>exact .p (hp.mono hI)
  |_=>simp [solN] at hs
 |succ d ih=>
  intro v x hv hs
  cases x with
  |p y=>cases hv with|p hp=>exact .p (hp.mono hI)
  |agg cs=>
   simp only [solN,Zn] at hs
   cases hv with
   |agg c _ h1 h2=>exact .agg c _ h1 fun j hj=>ih (h2 j hj) (hs _ (ZK hj))
  |eptr cs o=>
   simp only [solN,Zn] at hs
   cases hv with
   |eptr b base off _ c h1 h2=>exact .eptr b base o cs c (fun j hj=>hI _ _ _ (h1 j hj)) fun j hj=>ih (h2 j hj) (hs _ (ZK hj))
  |_=>simp [solN] at hs
section
variable {G:Gh} {own:Own} {H:Heap} {L:Nat->Option Nat} {loc:List (Nat×List V)} {w:World}
theorem q0kk (h:WOK G own H L loc w): ∀(d:Nat) {v:Value} {raw x:V},VRep G v raw->solV H d raw=some x->VRep (G.bury own w (List.range H.length)).still v x:=by
 have hI: ∀b o v,G.I b o v->(G.bury own w (List.range H.length)).still.I b o v:=fun b o v hi=> .inl hi
 have plain: ∀ {v:Value} {y:PV},VRep G v (.p y)->VRep (G.bury own w (List.range H.length)).still v (.p y):=by
  intro v y hv
  cases hv with|p hp=>exact .p (hp.mono hI)
 have row: ∀ {v:Value} {id tot off len:Nat} {x:V},VRep G v (.row id tot off len)->(frz 0 H deep (.row id tot off len)).map .p=some x->VRep (G.bury own w (List.range H.length)).still v x:=by
  intro v id tot off len x hv hf
  cases hfr:frz 0 H deep (.row id tot off len) with
  |none=>rw [hfr] at hf;cases hf
  |some y=>
   rw [hfr] at hf
   cases hf
   have:=q0Uj h (base:=0) (ids:=List.range H.length) deep hv hfr (fun i hi=>List.mem_range.2 (q0Aj H deep hfr i hi))
   exact .p this
 have eptr: ∀ {v:Value} {d:Nat} {cs:List V} {o:Nat} {x:V},VRep G v (.eptr cs o)->(if solN d (.eptr cs o)=true then some (V.eptr cs o) else none)=some x->VRep (G.bury own w (List.range H.length)).still v x:=by
  intro v d cs o x hv hf
  split at hf
  ·rename_i hs;cases hf;exact q0fw hI d hv hs
  ·cases hf
 intro d
 induction d with
 |zero=>
  intro v raw x hv hs
  cases raw<;>simp only [solV] at hs
  case p y=>cases hs;exact plain hv
  case nils=>cases hs;cases hv with|nils ad=>exact .p (.sl0 ad 0)
  case row=>exact row hv hs
  case eptr=>exact eptr hv hs
  all_goals cases hs
 |succ d ih=>
  intro v raw x hv hs
  have all: ∀ {cs xs:List V} {f:Nat->Value},CRep G f cs->allO (solV H d) cs=some xs->cs.length=xs.length/\CRep (G.bury own w (List.range H.length)).still f xs:=by
   intro cs xs f hc ha
   obtain ⟨q1,q2⟩:=q03m ha
   exact ⟨q1,fun j hj=>ih (hc j (by omega)) (q2 j (by omega) hj)⟩
  cases raw<;>simp only [solV] at hs
  case p y=>cases hs;exact plain hv
  case nils=>cases hs;cases hv with|nils ad=>exact .p (.sl0 ad 0)
  case row=>exact row hv hs
  case eptr=>exact eptr hv hs
  case agg cs=>
   cases hx:allO (solV H d) cs with
   |none=>rw [hx] at hs;cases hs
   |some xs=>
    rw [hx] at hs
    cases hs
    cases hv with
    |agg c _ h1 h2=>
     obtain ⟨q1,q2⟩:=all h2 hx
     exact .agg c _ (h1.trans q1) q2
  case ptr id off=>
   cases hb:boxAt H id with
   |none=>rw [hb] at hs;cases hs
   |some cs=>
    rw [hb] at hs
    simp only [Ze] at hs
    cases hx:allO (solV H d) cs with
    |none=>rw [hx] at hs;cases hs
    |some xs=>
     rw [hx] at hs
     cases hs
     have hob:H[id]? =some (.box cs):=by
      unfold boxAt at hb
      split at hb
      ·rename_i cs' h';cases hb;exact h'
      ·cases hb
     obtain ⟨b,c,o1,o2,o3,o4,o5⟩:=h.obj id _ hob
     obtain ⟨q1,q2⟩:=all o5 hx
     cases hv with
     |ptr _ _ b' hb'=>
      rw [o1] at hb';cases hb'
      have:=VRep.eptr (G:=(G.bury own w (List.range H.length)).still) b 0 off xs (fun j=>c.getD j undef) (fun j hj=> .inr ⟨⟨id,List.mem_range.2 (Za.1 hob).1,o2⟩,?_⟩) q2
      ·simpa using this
      ·rw [o3.cell]
       have:0+j<c.size:=by omega
       simp [Zc,show j<c.size by omega]
  all_goals cases hs
theorem q0Di (h:WOK G own H L loc w) {v:Value} {raw x:V} (hv:VRep G v raw) (hz:zV H raw=some x):VRep (G.bury own w (List.range H.length)).still v x:=by
 unfold zV at hz
 split at hz
 ·rename_i vs
  cases hx:allO (solV H sd) vs with
  |none=>rw [hx] at hz;cases hz
  |some xs=>
   rw [hx] at hz
   cases hz
   obtain ⟨q1,q2⟩:=q03m hx
   cases hv with
   |tup c _ h1 h2=>exact .tup c _ (h1.trans q1) fun j hj=>q0kk h sd (h2 j (by omega)) (q2 j (by omega) hj)
 ·exact q0kk h sd hv hz
end
section
variable {n:Nat} {P:Program} {o:Oper} {a:Act} {w:World} {Q:Exit->Act->World->Prop} {ro:Option Nat} {F:Fence}
variable {N:Nat} {G:Gh} {own:Own} {L:Nat->Option Nat} {S S':St} {next:Act->World->Prop}
theorem q0sj {H:Heap} {loc:List (Nat×List V)} (h:WOK G own H L loc w):WOK G.still (fun _=>none) [] (fun _=>none) [] w where
 imm:=h.imm
 dom i b hb:=by cases hb
 domr i t r hr:=by cases hr
 top i s es hi:=by simp at hi
 obj i o hi:=by simp at hi
 locs s cs hs:=by simp at hs
 noI b o v _:=rfl
 lt b k hk:=by cases hk
 ilt:=h.ilt
theorem q0sk (h:Sim N G own L S a w) (hd: ∀t,o.dst=some t->t<N) {f:FuncId} {as:List Arg} (hok:okIns P o.op (.callz f as)=true)
  {K:Gh->Prop} {cl:ClT} (hcl:ClOK P K cl) (hK:Kn K G) (hev:evIns cl o.dst (.callz f as) S=some S') (hn: ∀a' w',Res N G own w a.defers S' a' w'->next a' w'):o.wpIn (Fw ro) n P a w next Q:=by
 have hev':callZ cl S o.dst f (as.map fun b=>normA (S.arg b))=some S':=hev
 simp only [okIns] at hok
 split at hok
 ·rename_i c hop
  split at hok
  ·rename_i g hcal
   simp only [Zb,beq_iff_eq] at hok
   obtain ⟨rfl,h2⟩:=hok
   unfold callZ at hev'
   split at hev'
   ·rename_i hs
    have ho:(as.map fun b=>normA (S.arg b)).all V.outB=true:=by
     rw [Zn] at hs⊢
     intro v hv
     have:=hs v hv
     cases v<;>first|rfl|(simp [solN,sd] at this)
    obtain ⟨a1,a2⟩:=q048 h h2 ho
    simp only [Z5] at a1 a2
    cases hc:cl (.p (.fn f)) (as.map fun b=>normA (S.arg b)) [] with
    |none=>rw [hc] at hev';simp [zR,retS] at hev'
    |some r=>
     rw [hc] at hev'
     have hz:=hcl.1.2 G hK
     have a3: ∀j (hj:j<(as.map fun b=>normA (S.arg b)).length),VRep G.still ((c.args.map a.eval).getD j undef) ((as.map fun b=>normA (S.arg b))[j]):=fun j hj=>
      q0fw (G:=G) (G':=G.still) (fun _ _ _ h=>h) sd (a2 j hj) (Zn.1 hs _ (ZK hj))
     rcases hcl.2 _ _ _ _ hc G.still (fun _=>none) w (.func (.func f) #[] #[]) _ hz (.p (.fn f)) a1 a3 (q0sj h.wok) (fun b k hk=>by cases hk) with ⟨f',first,cap,hf,hcf,hcr⟩|⟨id,l,f',tmps,assign,body,hy,-⟩
     ·cases hf
      simp only [Array.empty_append,Array.append_empty] at hcr
      refine q0hi (by rw [hop];intro c hc;cases hc) (f:=f) (args:=c.args.map a.eval) (by simp [execOp,hop,resolve,hcal,Act.eval,Deferred.ofValue,invoke,hcf]) (CallsIn.mono (hcr (n-1)) ?_)
      rintro e w' ⟨val,rfl,hsame,G',own',hfoot,hval,hwok⟩
      refine ⟨val,rfl,hn _ _ ?_⟩
      obtain ⟨v,Hr⟩:=r
      obtain ⟨H',hwok',hzv⟩: ∃H',WOK G' own' H' (fun _=>none) [] w'/\zR (some (v,Hr))=zV H' v:=by
       cases Hr with
       |none=>exact ⟨[],hwok,rfl⟩
       |some p=>
        obtain ⟨H',ds⟩:=p
        cases ds with
        |nil=>exact ⟨H',hwok,rfl⟩
        |cons d ds=>simp [zR,retS] at hev'
      rw [hzv] at hev'
      cases hzz:zV H' v with
      |none=>rw [hzz] at hev';cases hev'
      |some x=>
       rw [hzz] at hev'
       have hS:S.put o.dst x=S':=by simpa [retS] using hev'
       have hrep:=q0Di hwok' hval hzz
       have same: ∀b,b<w.heap.size->w'.heap[b]? =w.heap[b]? :=fun b hb=>hsame b hb fun k hk=>by cases hk
       have hbw:=hwok'.bury (List.range H'.length)
       have himms: ∀b o v,(G'.bury own' w' (List.range H'.length)).I b o v->G.I b o v\/w.heap.size<=b:=by
        intro b o v hb
        rcases hb with hb|⟨⟨id,hid,ho⟩,_⟩
        ·exact hfoot.imms b o v hb
        ·rcases hfoot.news b _ ho with h5|h5
         ·cases h5
         ·exact .inr h5
       have hle:G.Le {G with I:=(G'.bury own' w' (List.range H'.length)).I}:=⟨fun b o v hi=> .inl (hfoot.le.I b o v hi),fun _ _ h=>h,fun _ _ _ h=>h,rfl⟩
       have hwk:WOK {G with I:=(G'.bury own' w' (List.range H'.length)).I} own S.hp L S.loc w':=(h.wok.frame hfoot.size same).moreI hle.I hbw.imm (fun b o v hb=>by
        rcases himms b o v hb with h5|h5
        ·exact h.wok.noI b o v h5
        ·cases hob:own b with
         |none=>rfl
         |some k=>have:=h.wok.lt b k hob;omega) hbw.ilt
       have hsim:Sim N {G with I:=(G'.bury own' w' (List.range H'.length)).I} own L S a w':=h.change hle rfl (fun _ _ _ _=>rfl) hwk
       have hx:VRep {G with I:=(G'.bury own' w' (List.range H'.length)).I} val x:=VRep.mono (G:=(G'.bury own' w' (List.range H'.length)).still) (G':= {G with I:=(G'.bury own' w' (List.range H'.length)).I}) ⟨fun _ _ _ h=>h,(fun _ _ h=>by cases h),(fun _ _ _ h=>by cases h),hfoot.le.C.symm⟩ hrep
       subst hS
       exact ⟨_,own,L,hsim.put hd (.of hx),⟨hle,hfoot.size,fun b hb _=>same b hb,fun _ _ h=> .inl h,himms,hfoot.os,hfoot.tape,hfoot.output⟩,q00x ..,.of_same same⟩
     ·cases hy
   ·cases hev'
  ·cases hok
 ·cases hok
theorem q0Ak (hF: ∀f,F.fn f) (h:Sim N G own L S a w) (hd: ∀t,o.dst=some t->t<N) {j s:Nat} {zero:List V} {x:Arg} (hok:okIns P o.op (.mkh j s zero x)=true)
  {cl:ClT} (hev:evIns cl o.dst (.mkh j s zero x) S=some S') (hn: ∀a' w',Res N G own w a.defers S' a' w'->next a' w'):o.wpIn F n P a w next Q:=by
 obtain ⟨r,S1,hr,hS⟩:=q01v (show retP o.dst (mkhI S j s zero (S.arg x))=some S' from hev)
 simp only [okIns] at hok
 split at hok
 ·rename_i t l c hop
  simp only [Zb] at hok
  obtain ⟨⟨h1,h2⟩,hk⟩:=hok
  split at hk
  ·rename_i e hu
   simp only [Zb,beq_iff_eq,bne_iff_ne] at hk
   obtain ⟨⟨⟨⟨⟨k1,k2⟩,k3⟩,k4⟩,k5⟩,k6⟩:=hk
   obtain ⟨ie,hie,rfl⟩:=q017 k1
   have hpos:0<ie.size:=Nat.pos_of_ne_zero k2
   obtain ⟨ie',hie',hby⟩:=q063 k3
   rw [hie] at hie';cases hie'
   unfold zeroB at k4
   rw [hie] at k4
   simp only at k4
   split at k4
   ·rename_i z hzz
    unfold mkhI at hr
    split at hr
    ·rename_i kk m hx
     split at hr
     ·rename_i hc
      obtain ⟨hc1,hc2,hc3,hc4,hc5⟩:=hc
      obtain ⟨m',rfl⟩:=Int.eq_ofNat_of_zero_le (show 0<=m by omega)
      simp only [Int.toNat_natCast] at hc2 hr
      unfold mkhR at hr
      split at hr
      ·rename_i s' hro
       split at hr
       ·rename_i hs'
        subst hs'
        cases hr
        have r1:=q008 h h1
        have r2:=q008 h h2
        rw [hx] at r1 r2
        have e1:=q00t r1
        have e2:=q00t r2
        obtain ⟨z1,z2⟩:=q02u (G:=G) k4
        simp only [most] at hc2
        have hb:(ie.bytes:Int)*(m':Int)<=281474976710656:=by
         have:ie.bytes*m'<=32768*4294967296:=Nat.mul_le_mul hby (by omega)
         have h':((ie.bytes*m':Nat):Int)<=281474976710656:=by omega
         rwa [Int.natCast_mul] at h'
        have hrun:=run_make (P:=P) w t e ie z hu hie hzz kk kk (m':Int) (m':Int) (by omega) (ZS _) hb (by omega)
        simp only [Int.toNat_natCast] at hrun
        have hrows:RowsV G (fun j=>(madeCells z.cells (m'*ie.size)).getD j undef) ie.size (List.replicate m' zero):=q091 hpos z1 z2 k5
        obtain ⟨G',own',q1,q2,q3⟩:=q0di h (w1:=w) rfl rfl rfl rfl hro (ys:=List.replicate m' zero) (by simp;omega) (e:=e) (c:=madeCells z.cells (m'*ie.size)) (cap:=m') (by simp [size_madeCells]) (by simp) (by simpa using hrows) (fun e he=>by
         have he':e∈List.replicate m' zero:=by simpa using he
         rw [(List.mem_replicate.1 he').2];exact k6)
        simp only [Zq,ZM,Zs,Zf] at q1 q3
        have hdd:addD S.base (S.hp.length-j) S.dirty=S.dirty:=by unfold addD;rw [if_neg (by omega)]
        rw [hdd] at q1
        refine q018 hF (by rw [hop];intro c hc;cases hc) (r:= .ok (.value (.slice (some ⟨w.heap.size,0,none⟩) m' m')) (w.alloc (.cells (madeCells z.cells (m'*ie.size)) e))) ?_ ?_
        ·simp only [execOp,hop,e1,e2,Sem.run_bind,hrun];rfl
        ·subst hS
         exact hn _ _ ⟨G',own',L,q1.put hd (.of q3),q2,q00x ..,.alloc rfl _⟩
       ·cases hr
      ·cases hr
     ·cases hr
    ·cases hr
   ·cases k4
  ·cases hk
 ·cases hok
theorem q0Al (hF: ∀f,F.fn f) (h:Sim N G own L S a w) (hd: ∀t,o.dst=some t->t<N) {x y m:Arg} {s c:Nat} (hok:okIns P o.op (.apo x y s m c)=true)
  {cl:ClT} (hev:evIns cl o.dst (.apo x y s m c) S=some S') (hn: ∀a' w',Res N G own w a.defers S' a' w'->next a' w'):o.wpIn F n P a w next Q:=by
 have hev':(if apoB S.base (S.arg x) (S.arg y) (S.arg m) c=true then retP o.dst (appV S (S.arg x) (S.arg y) s) else none)=some S':=hev
 split at hev'
 ·exact q0oi hF h hd (x:=x) (y:=y) (s:=s) (cl:=cl) hok hev' hn
 ·cases hev'
end
end Go.Eng
