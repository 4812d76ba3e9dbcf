/- The program's functions and the document's, evaluated. -/
import Derived.Test.YtjjdmlpdgcdehaaGreatText9
import Derived.Test.YtjjdmlpdgcdehaaGreatText7
import Derived.Test.YtjjdmlpdgcdehaaGreatText8
import Derived.Test.YtjjdmlpdgcdehaaGreatText3
set_option linter.unusedSimpArgs false
set_option linter.unusedVariables false
namespace Go.EnvOf
open Go Go.Eng
set_option maxRecDepth 100000
theorem q0b3 {p:Nat->Bool}: ∀(k n m:Nat),n<=m->m<n+k->p m=true->seekP p k n≠ -1/\seekP p k n<=m
 |0,n,m,h1,h2,_=>by omega
 |k+1,n,m,h1,h2,h3=>by
  rw [seekP]
  by_cases q:p n=true
  ·rw [if_pos q];omega
  ·rw [if_neg q]
   have:n≠m:=fun e=>q (e▸h3)
   exact q0b3 k (n+1) m (by omega) (by omega) h3
theorem q0Be {l:List Item} (h:1<=l.length):mayN l l.length=true:=by
 unfold mayN mayV
 rw [if_neg (by omega)]
 have:q02g l (l.length:Int)=none:=by unfold q02g;rw [if_neg (by omega)]
 rw [this]
theorem q0wy {l:List Item} {n:Nat} (h1:1<=n) (h2:n<=l.length) (h:mustP l n=true):mayN l n=true:=by
 by_cases e:n=l.length
 ·subst e;exact q0Be h1
 ·have hx:l[n]? =some (l[n]'(by omega)):=Zl (by omega)
  unfold mustP at h
  rw [hx] at h
  unfold mayN mayV
  rw [if_neg (by omega),q06n,hx]
  simp only at h⊢
  unfold q05z at h
  simp only [Zb,decide_eq_true_eq] at h
  rw [if_neg (by omega),if_pos h.1]
  unfold forbX
  simp [h.1]
  omega
theorem q0tc {l:List Item} {a:Int} (h0:0<=a) (h1:a<l.length):q015 l a∈brkF l a:=by
 have hp:(pos a:Int)=a:=by unfold pos;omega
 have hF:=q0b3 (p:=mustP l) (l.length-pos a) (pos a+1) l.length (by omega) (by omega) (by unfold mustP;rw [ZF (Zm _)])
 have bF:=q07g (mustP l) (l.length-pos a) (pos a+1)
 change q010 l a≠ -1/\q010 l a<=_ at hF
 change q010 l a= -1\/_<=q010 l a/\q010 l a<_/\mustP l (q010 l a).toNat=true at bF
 rcases bF with bF|⟨b1,b2,b3⟩
 ·exact absurd bF hF.1
 have hm:=q0wy (n:=(q010 l a).toNat) (by omega) (by omega) b3
 have hB:=q0b3 (p:=mayN l) (l.length-pos a) (pos a+1) (q010 l a).toNat (by omega) (by omega) hm
 have bB:=q07g (mayN l) (l.length-pos a) (pos a+1)
 change q015 l a≠ -1/\q015 l a<=_ at hB
 change q015 l a= -1\/_<=q015 l a/\q015 l a<_/\mayN l (q015 l a).toNat=true at bB
 rcases bB with bB|⟨c1,c2,c3⟩
 ·exact absurd bB hB.1
 unfold brkF
 refine ZJ.2 ⟨(q015 l a).toNat,?_,by simp only [Int.ofNat_eq_natCast];omega⟩
 unfold brkN
 rw [List.mem_filter,List.mem_range']
 refine ⟨⟨(q015 l a).toNat-(pos a+1),by omega,by omega⟩,?_⟩
 simp only [Zb,decide_eq_true_eq]
 exact ⟨by omega,c3⟩
theorem q0Zc (fs:List Float) (h:C3) (g0:leC zeroC h) (g1:leC h (allC fs)):okT fs h zC:=by
 unfold okT okU leC zeroC allC zC at*
 simp only at*
 omega
theorem q0hy {j:Job} (w:wfJ j) {s:Stt} (r:rightP j s):leC s.h (allC j.floats):=q0bu r.h1 (q0jb w.six _)
theorem q10o {j:Job} (w:wfJ j) {s:Stt} (r:rightP j s) {c:Colm} (ht:c.top=[]) (hb:c.bot=[]) {to:Int} (h:s.at_<=to):setF j s c to=true:=by
 have ok:=q0Zc _ _ r.h0 (q0hy w r)
 have bd:=q0wx w.w s.at_
 have hs:s.h.a<=1000000/\s.h.b<=1000000/\s.h.c<=1000000:=by have:=r.h1;unfold leC at this;omega
 have ez:=q0Zl r.h0 hs
 have e0:ofL j.floats []=zC:=rfl
 have hn:nextQ j.floats s.h []=true:=by
  unfold nextQ
  rw [e0,q0Ya]
  simp [ok]
 unfold setF q0b1
 rw [ht,hb,e0,ez,ez,hn]
 simp only [ZV,q0pw]
 exact q0bu r.h1 (q107 j h)
theorem q109 {j:Job} (w:wfJ j) {c:Colm} (ht:c.top=[]) (hb:c.bot=[]):fitsC j c=true:=by
 have m:=w.many
 unfold fitsC fitT fitB fitsF
 rw [ht,hb]
 have e:highQ j.floats [] j.g.sep=0:=rfl
 rw [e]
 simp [m.1,m.2.1,m.2.2.1,m.2.2.2]
theorem q113 {j:Job} (w:wfJ j) {s:Stt} (r:rightP j s) {y:C3} (hy0:leC zeroC y) (hy:leC (plus s.h y) (q01i j s.at_)) (hz:leC s.h (plus s.h y)) {c:Colm} (ht:c.top=takeL j.floats s.h y) (hb:c.bot=[]):
  setF j s c s.at_=true/\okT j.floats s.h y:=by
 have ok:okT j.floats s.h y:=by
  have h0:=r.h0
  have h1:=q0bu hy (q0jb w.six _)
  unfold okT okU leC zeroC allC plus at*
  simp only at*
  omega
 have bd:=q0wx w.w s.at_
 have e1:ofL j.floats c.top=y:=by rw [ht,q0Zg _ _ _ ok]
 have e0:ofL j.floats []=zC:=rfl
 have ep:addC s.h y=plus s.h y:=q0Z2 w.w.n3 ok
 have hp0:leC zeroC (plus s.h y):=q0bu r.h0 hz
 have hp1:(plus s.h y).a<=1000000/\(plus s.h y).b<=1000000/\(plus s.h y).c<=1000000:=by
  have:=hy
  unfold leC at this;omega
 have ok2:=q0Zc _ _ hp0 (q0bu hy (q0jb w.six _))
 refine ⟨?_,ok⟩
 unfold setF q0b1
 rw [e1,hb,e0,ep,q0Zl hp0 hp1]
 simp only [Zb,q0pw]
 refine ⟨⟨?_,?_⟩,hy⟩
 ·rw [ht];exact q10h _ _ _ ok
 ·unfold nextQ
  rw [e0,q0Ya]
  simp [ok2]
theorem q0Zu {j:Job} (w:wfJ j) {s:Stt} (r:rightP j s) {c:Colm} (hk:c.k=2) (hn:c.notes=[]) {x:Int} (ht:c.top=[x]):(q02r j s c).over=false:=by
 unfold q02r
 rw [if_pos ((q02k j s).2 r),if_neg (by omega)]
 have hf:fullC j c=false:=by unfold fullC;rw [hn];simp
 rw [hf]
 simp only [Bool.false_or,decide_eq_false_iff_not,Int.not_lt]
 unfold roomC q05b q05p
 rw [if_neg (by omega),if_pos hk,hn]
 have hh:highP j.notes [] j.g.rule=0:=rfl
 rw [hh]
 have hi:j.g.first<=highS j s/\highS j s<=4294967296:=by
  have:=w.high
  unfold highS
  rw [if_pos ((q02k j s).2 r)]
  split<;>omega
 have sp:=w.sep
 have key:highQ j.floats c.top j.g.sep=0\/(∃f∈j.floats,highQ j.floats c.top j.g.sep=hz (0+hz f.h+hz j.g.sep)):=by
  rw [ht]
  unfold highQ
  simp only [ZT,List.foldl_nil,hiS]
  unfold atF
  by_cases q:0<=x/\x<j.floats.length
  ·rw [if_pos q]
   exact .inr ⟨_,q05a q.1 q.2,rfl⟩
  ·rw [if_neg q];exact .inl rfl
 have hi0:0<=highS j s:=by
  have:=w.high
  rcases key with _|⟨f,hf,_⟩
  ·unfold highS;rw [if_pos ((q02k j s).2 r)];have:=w.hi0;split<;>omega
  ·have:=w.fl f hf;omega
 rw [Int.sub_zero,w64 (n:=highS j s) (by omega) (by omega)]
 rcases key with e|⟨f,hf,e⟩
 ·rw [if_pos e,Int.sub_zero,w64 (by omega) (by omega)];exact hi0
 ·have hb:=w.fl f hf
  rw [e]
  have e1:hz (0+hz f.h+hz j.g.sep)=f.h+j.g.sep:=by unfold hz fz;omega
  rw [e1]
  have e2:min (max j.g.sep 0) 1125899906842624=j.g.sep:=by omega
  rw [e2]
  split
  ·rw [Int.sub_zero,w64 (by omega) (by omega)];exact hi0
  ·rw [show f.h+j.g.sep-j.g.sep=f.h by omega,w64 (n:=f.h) (by omega) (by omega),w64 (by omega) (by omega)]
   omega
theorem q04a (j:Job) (s:Stt):openS j s=true↔rightP j s/\doneS j s=false:=by
 unfold openS
 rw [Zb,q02k,Bool.not_eq_true']
theorem q0Y8 {j:Job} {s:Stt} {c:Colm} (he:endE j s c=false) (hk:kindE j s c=0) (ho:(q02r j s c).over=false\/q04r j s=some c):q06c j s c=0:=by
 unfold q06c
 rw [if_neg (by rw [he];simp),if_neg (by omega),if_neg]
 rintro ⟨h1,h2⟩
 rcases ho with h|h
 ·rw [h] at h1;cases h1
 ·rw [h,Option.getD_some] at h2
  unfold sameC at h2
  simp at h2
theorem q10p {j:Job} {s:Stt} {y:C3} (ok:okT j.floats s.h y) (h1:y.a+y.b+y.c=1) (h0:leC zeroC y): ∃x,takeL j.floats s.h y=[x]:=by
 have:(takeL j.floats s.h y).length=1:=by
  unfold takeL raw
  rw [isort_len,Zt,Zt,q0Bn ok.1,q0Bn ok.2.1,q0Bn ok.2.2]
  unfold leC zeroC at h0
  simp only at h0
  omega
 match h:takeL j.floats s.h y,this with
 |[x],_=>exact ⟨x,rfl⟩
theorem q0Yh {j:Job} (w:wfJ j) {s:Stt} (r:rightP j s) (hd:doneS j s=false) {n:C3} (hn2:leC n (q01i j s.at_)) {c:Colm} (h:q03i j s n=some c):
  endE j s c = false /\ kindE j s c = 0 /\ (q02r j s c).over = false /\ c.frm = s.at_ /\ ∃ x, c.top = [x] := by
 have key: ∀y:C3,c=⟨2,s.at_,s.at_,[],takeL j.floats s.h y,[]⟩->y.a+y.b+y.c=1->leC zeroC y->leC (plus s.h y) (q01i j s.at_)->leC s.h (plus s.h y)->endE j s c=false/\kindE j s c=0/\(q02r j s c).over=false/\c.frm=s.at_/\ ∃x,c.top=[x]:=by
  rintro y rfl h1 h0 hy hz
  obtain ⟨hs,ok⟩:=q113 w r h0 hy hz (c:=⟨2,s.at_,s.at_,[],takeL j.floats s.h y,[]⟩) rfl rfl
  obtain ⟨x,hx⟩:=q10p ok h1 h0
  have ho:=q0Zu w r (c:=⟨2,s.at_,s.at_,[],takeL j.floats s.h y,[]⟩) rfl rfl hx
  refine ⟨?_,?_,ho,rfl,x,hx⟩
  ·unfold endE
   rw [decide_eq_false_iff_not]
   simp [(q04a j s).2 ⟨r,hd⟩]
  ·unfold kindE q0b2
   rw [if_neg (by simp),if_pos rfl,if_neg (by simp),if_neg]
   rw [hs,ho]
   simp [hx]
 have h1:=r.h1
 unfold q03i at h
 split at h
 ·exact key ⟨1,0,0⟩ (Option.some.inj h).symm rfl (by simp [leC,zeroC]) (by unfold leC plus at*;simp only;omega) (by simp [leC,plus];omega)
 split at h
 ·exact key ⟨0,1,0⟩ (Option.some.inj h).symm rfl (by simp [leC,zeroC]) (by unfold leC plus at*;simp only;omega) (by simp [leC,plus];omega)
 split at h
 ·exact key ⟨0,0,1⟩ (Option.some.inj h).symm rfl (by simp [leC,zeroC]) (by unfold leC plus at*;simp only;omega) (by simp [leC,plus];omega)
 cases h
theorem q0qp {j:Job} {s:Stt} {n:C3} (h: ¬leC n s.h): ∃c,q03i j s n=some c:=by
 unfold q03i
 split
 ·exact ⟨_,rfl⟩
 split
 ·exact ⟨_,rfl⟩
 split
 ·exact ⟨_,rfl⟩
 exfalso;apply h;unfold leC;omega
theorem q0hz {j:Job} {s:Stt} (r:rightP j s):q022 j s=true↔leC (dueF j s.at_) s.h:=by
 unfold q022
 rw [(q02k j s).2 r,ZV,q0pw]
theorem q11b {x y:C3} (h:leC x y) (g:leC y x):x=y:=by
 obtain ⟨a,b,c⟩:=x
 obtain ⟨d,e,f⟩:=y
 unfold leC at*
 simp only [C3.mk.injEq] at*
 omega
theorem q10a (j:Job) {n:Int} (h:n=j.items.length):q01i j n=allS j:=by
 unfold q01i allS
 subst h
 have:putN j.items (j.items.length:Int)=j.items.length:=by unfold putN;omega
 rw [this,List.take_length]
theorem q10b (j:Job) {n:Int} (h:n=j.items.length):q00z j n=q01a j.items:=by
 unfold q00z
 subst h
 have:putN j.items (j.items.length:Int)=j.items.length:=by unfold putN;omega
 rw [this,List.take_length]
theorem q0Yi {j:Job} (w:wfJ j) {s:Stt} (ho:openS j s=true): ∃c,q04r j s=some c/\q06c j s c=0/\c.frm=s.at_:=by
 obtain ⟨r,hd⟩:=(q04a j s).1 ho
 obtain ⟨n0,l0,n1,n2⟩:=q09w w r
 by_cases ht:q022 j s=true/\s.at_<j.items.length
 ·have e:textC j s=some ⟨1,s.at_,q015 j.items s.at_,q05q j.notes (spotS j s (q015 j.items s.at_)),[],[]⟩:=by unfold textC;rw [if_pos ⟨ho,ht⟩]
  have hb:=q0tc r.at0 ht.2
  have hm:=q0Bd r.at0 hb
  have hl:q04r j s=some ⟨1,s.at_,q015 j.items s.at_,q05q j.notes (spotS j s (q015 j.items s.at_)),[],[]⟩:=by unfold q04r;rw [e];rfl
  refine ⟨_,hl,q0Y8 ?_ ?_ (.inr hl),rfl⟩
  ·unfold endE
   rw [decide_eq_false_iff_not]
   simp [ho]
   omega
  ·unfold kindE
   rw [if_pos rfl]
   unfold textE
   simp only
   rw [if_neg (by rw [ht.1];simp),if_neg (by simpa using hb),if_neg,if_neg]
   ·rw [q10o w r rfl rfl (by omega),q109 w rfl rfl];simp
   ·rw [Bool.not_eq_false,q0ja,q0p6 r]
    refine q0Z5 (q03o w.w _) n0 l0 w.notes fun h=> ?_
    simp only at h⊢
    by_cases z:s.line=0
    ·rw [z]
     have:=w.notes (rd j.notes s.note) (q05a n0 (by have:=q03o w.w (q015 j.items s.at_);omega))
     omega
    ·exact (n2 z).2
 ·have e:textC j s=none:=by unfold textC;rw [if_neg (fun h=>ht h.2)]
  by_cases hf:q022 j s=true
  ·have ha:s.at_=j.items.length:=by have:=r.at1;have: ¬s.at_<j.items.length:=fun h=>ht ⟨hf,h⟩;omega
   have e2:dueC j s=none:=by
    unfold dueC
    rw [if_pos ho]
    have hle:=(q0hz r).1 hf
    unfold leC at hle
    unfold q03i
    rw [if_neg (by omega),if_neg (by omega),if_neg (by omega)]
   by_cases hn:s.note=j.notes.length
   ·have e3:noteC j s=none:=by unfold noteC;rw [if_neg (fun h=>h.2.2 hn)]
    have hne: ¬leC (q01i j s.at_) s.h:=by
     intro hle
     have heq:=q11b r.h1 hle
     rw [q10a j ha] at heq
     have hl:s.line=0:=by
      by_cases z:s.line=0
      ·exact z
      ·have:=(n2 z).1;omega
     unfold doneS at hd
     rw [(q02k j s).2 r] at hd
     simp [ha,hl,hn,heq] at hd
    obtain ⟨c,hc⟩:=q0qp (j:=j) hne
    have a:=q0Yh w r hd (q0e6 _) hc
    have hl:q04r j s=some c:=by unfold q04r q08m;rw [e,e2,e3,if_pos ho,hc];rfl
    exact ⟨c,hl,q0Y8 a.1 a.2.1 (.inl a.2.2.1),a.2.2.2.1⟩
   ·have e3:noteC j s=some ⟨3,s.at_,s.at_,q05q j.notes (q02h (spotS j s s.at_)),[],[]⟩:=by unfold noteC;rw [if_pos ⟨ho,ha,hn⟩]
    have hl:q04r j s=some ⟨3,s.at_,s.at_,q05q j.notes (q02h (spotS j s s.at_)),[],[]⟩:=by unfold q04r;rw [e,e2,e3];rfl
    have hm:q05q j.notes (q02h (spotS j s s.at_))∈q00j j.notes (q02h (spotS j s s.at_)):=by
     rw [q0p6 r]
     refine q0Z5 (q03o w.w _) n0 l0 w.notes fun h=> ?_
     simp only [q02h] at h⊢
     by_cases z:s.line=0
     ·rw [z]
      have:=w.notes (rd j.notes s.note) (q05a n0 (by omega))
      omega
     ·exact (n2 z).2
    have hne:q05q j.notes (q02h (spotS j s s.at_))≠[]:=by
     intro h0
     rw [h0] at hm
     rw [q0p6 r] at hm
     rcases q0Yk (s:=q02h ⟨s.note,s.line,q00z j s.at_,decide (q00z j s.at_<q00z j s.at_)⟩) (q03o w.w _) n0 l0 hm with ⟨_,h|h⟩|⟨_,q,t,h,_⟩
     ·simp only [q02h] at h
      have:=q10b j ha
      have:=w.five
      omega
     ·cases h
     ·simp at h
    refine ⟨_,hl,q0Y8 ?_ ?_ (.inr hl),rfl⟩
    ·unfold endE
     rw [decide_eq_false_iff_not]
     simp [ho,ha]
    ·unfold kindE
     rw [if_neg (by simp),if_neg (by simp)]
     unfold noteE
     simp only
     rw [if_neg,if_neg (by simp)]
     rintro (h|h)
     ·exact hne h
     ·rw [(q0ja _ _ _).2 hm] at h;cases h
  ·have hne: ¬leC (dueF j s.at_) s.h:=fun h=>hf ((q0hz r).2 h)
   obtain ⟨c,hc⟩:=q0qp (j:=j) hne
   have a:=q0Yh w r hd (q0vq _ _) hc
   have hl:q04r j s=some c:=by unfold q04r dueC;rw [e,if_pos ho,hc];rfl
   exact ⟨c,hl,q0Y8 a.1 a.2.1 (.inl a.2.2.1),a.2.2.2.1⟩
theorem q0Y9 {j:Job} {s:Stt} (ho:openS j s=false):q04r j s=none:=by
 unfold q04r textC dueC noteC q08m
 rw [ho]
 simp
def vOC (o:Option Colm):V:= .tup [vColm (o.getD q014),vB o.isSome]
theorem q0b4 (j:Job) (w:okW j) (s:Stt) (H:Heap):clD EE (.p (.fn 181)) [vW j,vStt s] H=some (vB (q022 j s),none):=by
 rw [q002 _ _ _ _ _ _ (noP _) fn181]
 have hr:=fun H=>q03r j w s H
 have hd:=fun H=>q0v8 j.items j.floats s.at_ H
 change∀H,clD EE _ _ H=some (vC (dueF j s.at_),none) at hd
 have re:=fun H=>in_ev (dueF j s.at_) s.h H
 unfold q022
 cases c:q01g j s with
 |false=>
  rw [c] at hr
  simp [zEc,hr]
 |true=>
  rw [c] at hr
  simp only [vW,q00o,cJobW,cGeom,Zd,Zf] at hr⊢
  simp [zEc,hr,hd,re]
theorem q0gw (j:Job) (H:Heap):clD EE (.p (.fn 262)) [vW j] H=some (vMapW j.items j.floats,none):=by
 have hp: ∀H,clD EE (.p (.fn 229)) [vW j] H=some (q00o j,none):=by
  intro H
  rw [q002 _ _ _ _ _ _ (noP _) fn229]
  simp only [vW,cJobW,cGeom,Zd,Zf]
  simp [zEc]
 have hq: ∀H,clD EE (.p (.fn 332)) [q00o j] H=some (vMapW j.items j.floats,none):=by
  intro H
  rw [q002 _ _ _ _ _ _ (noP _) fn332]
  simp only [q00o]
  simp [zEc]
 rw [q002 _ _ _ _ _ _ (noP _) fn262]
 simp [zEc,hp,hq]
section
variable (j:Job) (w:wfJ j)
include w
theorem q08n (s:Stt) (to:Int):spotB j.notes (spotS j s to):=by
 have hb:=q03o w.w to
 unfold spotS
 by_cases r:q01g j s=true
 ·rw [if_pos r]
  have c:=q09w w ((q02k j s).1 r)
  have:=w.w.n2
  exact ⟨w.w.n2,w.w.lines,hb,c.1,by simp only;omega,c.2.1⟩
 ·rw [if_neg r]
  exact ⟨w.w.n2,w.w.lines,by simp only;omega,by simp,by simp,by simp⟩
theorem q09f (s:Stt) (to:Int):spotB j.notes (q02h (spotS j s to)):=by
 have o:=q08n j w s to
 exact ⟨o.l1,o.l2,o.b,o.n0,o.n1,o.li⟩
theorem q09g (s:Stt) (H:Heap):clD EE (.p (.fn 258)) [vW j,vStt s] H=some (vB (openS j s),none):=by
 rw [q002 _ _ _ _ _ _ (noP _) fn258]
 have r:=fun H=>q03r j w.w s H
 have d:=fun H=>q0j3 j w.w s H
 unfold openS
 cases c:q01g j s with
 |false=>rw [c] at r;simp [zEc,r]
 |true=>rw [c] at r;simp [zEc,r,d]
theorem q0wz (s:Stt) (H:Heap):clD EE (.p (.fn 162)) [vW j,vStt s] H=some (vOC (textC j s),none):=by
 rw [q002 _ _ _ _ _ _ (noP _) fn162]
 have op:=fun H=>q09g j w s H
 have fl:=fun H=>q0b4 j w.w s H
 have wl:=fun H=>q07e j H
 have fb:=fun H=>q0bs j.items w.w.n1 s.at_ H
 have pl:=fun H=>q07d j H
 have sp:=fun H=>q07t j w.w s (q015 j.items s.at_) H
 have le:=fun H=>q0a2 j.notes (spotS j s (q015 j.items s.at_)) (q08n j w s _) H
 unfold textC vOC
 cases c1:openS j s with
 |false=>rw [c1] at op;simp [zEc,op,q014]
 |true=>
  rw [c1] at op
  cases c2:q022 j s with
  |false=>rw [c2] at fl;simp [zEc,op,fl,q014]
  |true=>
   rw [c2] at fl
   have r:=((q04a j s).1 c1).1
   simp only [vJob,cGeom,Zd,Zf] at pl
   by_cases c3:s.at_<j.items.length
   ·have hb:=q0Bd r.at0 (q0tc r.at0 c3)
    have h0:=r.at0
    have hn: ¬q015 j.items s.at_<0:=by omega
    generalize q015 j.items s.at_=t at*
    generalize spotS j s t=q at*
    simp [zEc,fldvV,op,fl,wl,fb,pl,sp,le,hn,c3]
   ·have hn:q015 j.items s.at_= -1:=by
     unfold q015
     rw [show j.items.length-pos s.at_=0 by unfold pos;have:=r.at0;omega];rfl
    rw [hn] at fb
    simp [zEc,op,fl,wl,fb,c3,q014]
theorem q0i0 {s:Stt} (r:rightP j s) {n:C3} (hn:leC n (q01i j s.at_)):
  (s.h.a<n.a->okT j.floats s.h ⟨1,0,0⟩)/\(s.h.b<n.b->okT j.floats s.h ⟨0,1,0⟩)/\(s.h.c<n.c->okT j.floats s.h ⟨0,0,1⟩):=by
 have h0:=r.h0
 have h1:=q0bu hn (q0jb w.six _)
 have h2:=q0hy w r
 unfold okT okU leC zeroC allC at*
 simp only at*
 omega
theorem q0i1 {s:Stt} (r:rightP j s) {n:C3} (hn:leC n (q01i j s.at_)) (H:Heap):clD EE (.p (.fn 261)) [vW j,vStt s,vC n] H=some (vOC (q03i j s n),none):=by
 rw [q002 _ _ _ _ _ _ (noP _) fn261]
 have ok:=q0i0 j w r hn
 have pl:=fun H=>q07d j H
 have w1:IntKind.i64.wrap 1=1:=by decide
 have w2:IntKind.i64.wrap 2=2:=by decide
 have w3:IntKind.i64.wrap 3=3:=by decide
 have t1:=fun y H=>q0pb j.floats s.h y H w.w.n3
 unfold vTake at t1
 unfold q03i vOC
 simp only [vJob,cGeom,Zd,Zf] at pl
 by_cases c1:s.h.a<n.a
 ·have t:=fun H=>t1 ⟨1,0,0⟩ H
  simp only [if_pos (ok.1 c1)] at t
  generalize takeL j.floats s.h ⟨1,0,0⟩=T at*
  simp [zEc,fldvV,q0W7,q003,ixaV,ixvV,q007,w1,w2,w3,c1,pl,t]
 ·by_cases c2:s.h.b<n.b
  ·have t:=fun H=>t1 ⟨0,1,0⟩ H
   simp only [if_pos (ok.2.1 c2)] at t
   generalize takeL j.floats s.h ⟨0,1,0⟩=T at*
   simp [zEc,fldvV,q0W7,q003,ixaV,ixvV,q007,w1,w2,w3,c1,c2,pl,t]
  ·by_cases c3:s.h.c<n.c
   ·have t:=fun H=>t1 ⟨0,0,1⟩ H
    simp only [if_pos (ok.2.2 c3)] at t
    generalize takeL j.floats s.h ⟨0,0,1⟩=T at*
    simp [zEc,fldvV,q0W7,q003,ixaV,ixvV,q007,w1,w2,w3,c1,c2,c3,pl,t]
   ·simp [zEc,q0W7,q003,ixaV,ixvV,q007,w1,w2,w3,c1,c2,c3,q014]
theorem q0Bf (s:Stt) (H:Heap):clD EE (.p (.fn 163)) [vW j,vStt s] H=some (vOC (dueC j s),none):=by
 rw [q002 _ _ _ _ _ _ (noP _) fn163]
 have op:=fun H=>q09g j w s H
 have mp:=fun H=>q0gw j H
 have hd:=fun H=>q0v8 j.items j.floats s.at_ H
 change∀H,clD EE _ _ H=some (vC (dueF j s.at_),none) at hd
 unfold dueC
 cases c1:openS j s with
 |false=>rw [c1] at op;simp [zEc,op,vOC,q014]
 |true=>
  rw [c1] at op
  have r:=((q04a j s).1 c1).1
  have al:=fun H=>q0i1 j w r (q0vq j.floats (j.items.take (putN j.items s.at_))) H
  change∀H,clD EE _ [vW j,vStt s,vC (dueF j s.at_)] H=some (vOC (q03i j s (dueF j s.at_)),none) at al
  unfold vOC at*
  simp [zEc,op,mp,hd,al]
theorem q0td (s:Stt) (H:Heap):clD EE (.p (.fn 165)) [vW j,vStt s] H=some (vOC (q08m j s),none):=by
 rw [q002 _ _ _ _ _ _ (noP _) fn165]
 have op:=fun H=>q09g j w s H
 have mp:=fun H=>q0gw j H
 have hd:=fun H=>q09v j.items j.floats s.at_ H
 change∀H,clD EE _ _ H=some (vC (q01i j s.at_),none) at hd
 unfold q08m
 cases c1:openS j s with
 |false=>rw [c1] at op;simp [zEc,op,vOC,q014]
 |true=>
  rw [c1] at op
  have r:=((q04a j s).1 c1).1
  have al:=fun H=>q0i1 j w r (q0e6 (q01i j s.at_)) H
  unfold vOC at*
  simp [zEc,op,mp,hd,al]
theorem q0x0 (s:Stt) (H:Heap):clD EE (.p (.fn 164)) [vW j,vStt s] H=some (vOC (noteC j s),none):=by
 rw [q002 _ _ _ _ _ _ (noP _) fn164]
 have op:=fun H=>q09g j w s H
 have pl:=fun H=>q07d j H
 have wl:=fun H=>q07e j H
 have ll:=fun H=>q021 j.items H
 have sp:=fun H=>q07t j w.w s s.at_ H
 have le:=fun H=>q0a2 j.notes (q02h (spotS j s s.at_)) (q09f j w s _) H
 unfold noteC vOC
 simp only [vJob,cGeom,Zd,Zf] at pl
 cases c1:openS j s with
 |false=>rw [c1] at op;simp [zEc,fldvV,op,pl,q014]
 |true=>
  rw [c1] at op
  have r:=((q04a j s).1 c1).1
  have h1:=r.at1
  generalize spotS j s s.at_=q at*
  unfold q02h at*
  by_cases c2:s.at_<j.items.length
  ·have c3: ¬s.at_=j.items.length:=by omega
   simp [zEc,fldvV,op,pl,wl,ll,c2,c3,q014]
  ·have c3:s.at_=j.items.length:=by omega
   have c3:=eq_true c3
   by_cases c4:s.note=j.notes.length
   ·have c4:=eq_true c4
    simp [zEc,fldvV,op,pl,wl,ll,c2,c3,c4,q014]
   ·simp [zEc,fldvV,op,pl,wl,ll,c2,c3,c4,sp,le]
theorem q0qq (s:Stt) (H:Heap):clD EE (.p (.fn 82)) [vW j,vStt s] H=some (vOC (q04r j s),none):=by
 rw [q002 _ _ _ _ _ _ (noP _) fn82]
 have f1:=fun H=>q0wz j w s H
 have f2:=fun H=>q0Bf j w s H
 have f3:=fun H=>q0x0 j w s H
 have f4:=fun H=>q0td j w s H
 have w1:IntKind.i64.wrap 1=1:=by decide
 have w2:IntKind.i64.wrap 2=2:=by decide
 have w3:IntKind.i64.wrap 3=3:=by decide
 have w4:IntKind.i64.wrap 4=4:=by decide
 unfold q04r vOC at*
 cases e1:textC j s with
 |some c=>rw [e1] at f1;simp [zEc,q0Vy,q003,ixsI,ixsV,w1,w2,w3,w4,f1]
 |none=>
  rw [e1] at f1
  cases e2:dueC j s with
  |some c=>rw [e2] at f2;simp [zEc,q0Vy,q003,ixsI,ixsV,w1,w2,w3,w4,f1,f2]
  |none=>
   rw [e2] at f2
   cases e3:noteC j s with
   |some c=>rw [e3] at f3;simp [zEc,q0Vy,q003,ixsI,ixsV,w1,w2,w3,w4,f1,f2,f3]
   |none=>
    rw [e3] at f3
    cases e4:q08m j s with
    |some c=>rw [e4] at f4;simp [zEc,q0Vy,q003,ixsI,ixsV,w1,w2,w3,w4,f1,f2,f3,f4]
    |none=>rw [e4] at f4;simp [zEc,q0Vy,q003,ixsI,ixsV,w1,w2,w3,w4,f1,f2,f3,f4,q014]
end
def aftN (l:List Item) (A:Nat) (m:Nat):Bool:=decide (A<m)&&mayN l m
theorem q0f1 (l:List Item) (hl:l.length<=1000000) (a:Int) (H:Heap) (B:Nat): ∀(k n:Nat),n+k=l.length+1->
  evD EE q0W8 ⟨[(0,q006 l),(1,vI a),(5,vI n)],[],H,B,[]⟩=some (if seekP (aftN l (pos a)) k n= -1 then (.exit 0,⟨[(0,q006 l),(1,vI a),(5,vI (l.length+1)),(9,vB false)],[],H,B,[]⟩) else (.ret,⟨[(4,vI (seekP (aftN l (pos a)) k n))],[],H,B,[]⟩))
 |0,n,hk=>by
  have e:n=l.length+1:=by omega
  subst e
  unfold q0W8
  rw [q003]
  simp [seekP,show¬(l.length:Int)+1<=l.length by omega]
 |k+1,n,hk=>by
  have m:=fun H=>q0j8 l hl n H
  have c:n<=l.length:=by omega
  have w:IntKind.i64.wrap ((n:Int)+1)=((n+1:Nat):Int):=w64 (by omega) (by omega)
  have hp:pos a<n↔max a 0<(n:Int):=by unfold pos;omega
  rw [seekP]
  cases q:aftN l (pos a) n with
  |true=>
   unfold aftN mayN at q
   simp only [Zb,decide_eq_true_eq,hp] at q
   rw [q.2] at m
   rw [if_pos rfl,if_neg (by omega)]
   unfold q0W8
   rw [q003]
   simp [c,m,q.1]
  |false=>
   simp only [Zh,if_false]
   have ih:=q0f1 l hl a H B k (n+1) (by omega)
   rw [<-ih]
   conv=>lhs;unfold q0W8
   rw [q003]
   unfold aftN mayN at q
   by_cases d:max a 0<(n:Int)
   ·rw [decide_eq_true (hp.2 d),ZV] at q
    rw [q] at m
    simp [c,m,d,w]
    rfl
   ·simp [c,d,w]
    rfl
theorem q0i4 (l:List Item) (A:Nat): ∀(j k n:Nat),n+j=A+1->seekP (aftN l A) (j+k) n=seekP (mayN l) k (A+1)
 |0,k,n,h=>by
  have e:n=A+1:=by omega
  subst e
  rw [Zs]
  have: ∀(k n:Nat),A<n->seekP (aftN l A) k n=seekP (mayN l) k n:=by
   intro k
   induction k with
   |zero=>intro n _;rfl
   |succ k ih=>
    intro n h
    have e:aftN l A n=mayN l n:=by unfold aftN;rw [decide_eq_true h,ZV]
    simp only [seekP,e,ih (n+1) (by omega)]
  exact this k _ (by omega)
 |j+1,k,n,h=>by
  have e:aftN l A n=false:=by unfold aftN;rw [decide_eq_false (by omega),Bool.false_and]
  rw [Nat.succ_add,seekP,e,if_neg (by decide)]
  exact q0i4 l A j k (n+1) (by omega)
theorem q0f2 (l:List Item) (A:Nat): ∀(k n:Nat),n+k<=A+1->seekP (aftN l A) k n= -1
 |0,_,_=>rfl
 |k+1,n,h=>by
  have e:aftN l A n=false:=by unfold aftN;rw [decide_eq_false (by omega),Bool.false_and]
  rw [seekP,e,if_neg (by decide)]
  exact q0f2 l A k (n+1) (by omega)
theorem q0qr (l:List Item) (a:Int):seekP (aftN l (pos a)) l.length 1=q015 l a:=by
 unfold q015
 by_cases c:pos a<=l.length
 ·have e:l.length=pos a+(l.length-pos a):=by omega
  conv=>lhs;rw [e]
  exact q0i4 l (pos a) (pos a) _ 1 (by omega)
 ·rw [q0f2 l (pos a) _ 1 (by omega),show l.length-pos a=0 by omega];rfl
theorem q0qs (l:List Item) (hl:l.length<=1000000) (a:Int) (H:Heap):clD EE (.p (.fn 267)) [q006 l,vI a] H=some (vI (q015 l a),none):=by
 rw [q002 _ _ _ _ _ _ (noP _) fn267]
 have k:=q0f1 l hl a H H.length l.length 1 (by omega)
 rw [q0qr] at k
 by_cases c:q015 l a= -1
 ·rw [if_pos c] at k
  simp at k
  rw [c]
  simp [zEa,k]
 ·rw [if_neg c] at k
  simp at k
  simp [zEa,k]
abbrev c6 (t:Tot):List V:=[vI t.nat,vI t.s0,vI t.s1,vI t.s2,vI t.s3,vI t.shr]
section
variable (j:Job) (n1:j.items.length<=1000000) (hf: ∀x∈j.items,fairI x)
end
section
variable (j:Job) (n1:j.items.length<=1000000) (hf: ∀x∈j.items,fairI x)
end
section
variable (j:Job) (w:wfJ j) (s:Stt) (c:Colm)
end
section
variable (j:Job) (w:wfJ j) (hf: ∀x∈j.items,fairI x) (s:Stt) (c:Colm) (c1:c.notes.length<=1000000) (c2:c.top.length<=1000000) (c3:c.bot.length<=1000000)
end
theorem q0lx (k:Int) (m:Nat) (f:Item->Item) (hf: ∀x,(f x).k=x.k/\(f x).n=x.n): ∀(l:List Item) (i n:Nat),refF k m i n (l.map f)=refF k m i n l
 |[],_,_=>rfl
 |x::r,i,n=>by
  simp only [Zo,refF,(hf x).1,(hf x).2,q0lx k m f hf r]
theorem dn_eq {n s:Int} (h0:0<=n) (h1:n<=1073741823) (hs:1<=s):downG n s=s*(n/s):=by
 have a:=Int.emod_nonneg n (show s≠0 by omega)
 have b:=Int.emod_add_mul_ediv n s
 have c:0<=s*(n/s):=Int.mul_nonneg (by omega) (Int.ediv_nonneg h0 (by omega))
 unfold downG downF
 rw [if_neg (by omega)]
 unfold subF
 rw [if_pos (by omega)]
 simp only [orN]
 omega
theorem q0u2 {a b s:Int} (h0:0<=a) (h:a<=b) (h1:b<=1073741823) (hs:1<=s):downG a s<=downG b s:=by
 rw [dn_eq h0 (by omega) hs,dn_eq (by omega) h1 hs]
 exact Int.mul_le_mul_of_nonneg_left (Int.ediv_le_ediv (by omega) h) (by omega)
theorem q0u3 {g:Geom} (h:geomF g=0):1<=g.first/\g.first<=g.high/\0<=g.topMost/\0<=g.botMost/\0<=g.topMany/\0<=g.botMany/\g.topMany<=4/\g.botMany<=4/\0<=g.noteMost:=by
 unfold geomF at h
 by_cases q1:inR 1 8 [g.cols]=false
 ·rw [if_pos q1] at h;omega
 rw [if_neg q1] at h
 by_cases q2:inR 1 1073741823 [g.wide,g.high]=false
 ·rw [if_pos q2] at h;omega
 rw [if_neg q2] at h
 by_cases q3:inR 0 1073741823 [g.gap,g.noteMost,g.topMost,g.botMost]=false
 ·rw [if_pos q3] at h;omega
 rw [if_neg q3] at h
 by_cases q4:inR 0 536870912 [g.rule,g.sep,g.grid]=false
 ·rw [if_pos q4] at h;omega
 rw [if_neg q4] at h
 by_cases q5:inR 1 g.high [g.first]=false
 ·rw [if_pos q5] at h;omega
 rw [if_neg q5] at h
 by_cases q6:inR 0 g.first [g.grid]=false
 ·rw [if_pos q6] at h;omega
 rw [if_neg q6] at h
 by_cases q7:inR 0 4 [g.topMany,g.botMany]=false
 ·rw [if_pos q7] at h;omega
 have a1:=q04b q5 g.first (by simp)
 have a2:=q04b q3 g.topMost (by simp)
 have a3:=q04b q3 g.botMost (by simp)
 have a4:=q04b q7 g.topMany (by simp)
 have a5:=q04b q7 g.botMany (by simp)
 have a6:=q04b q3 g.noteMost (by simp)
 omega
theorem wf_of {j:Job} (r:Right j) (sm:small (snapG j)):wfJ (snapG j):=by
 have hg:=q0bp r.g
 have hm:=q0u3 r.g
 obtain ⟨f,hf,hk⟩:=q0fj j
 have h5:=q07c 5 j.notes.length j.items 0 0 (Zj _) r.r5
 have hgr:(snapG j).g.first<=(snapG j).g.high/\(snapG j).g.high<=4294967296/\0<=(snapG j).g.first/\0<=(snapG j).g.sep/\(snapG j).g.sep<=4294967296/\(snapG j).g.topMany=j.g.topMany/\(snapG j).g.botMany=j.g.botMany/\(snapG j).g.topMost=j.g.topMost/\(snapG j).g.botMost=j.g.botMost:=by
  unfold snapG
  split
  ·refine ⟨by omega,by omega,by omega,by omega,by omega,rfl,rfl,rfl,rfl⟩
  ·have b1:=q0u2 (a:=j.g.first) (b:=j.g.high) (s:=j.g.grid) (by omega) (by omega) (by omega) (by omega)
   have b2:=q09m (n:=j.g.high) (s:=j.g.grid) (by omega) (by omega) (by omega) (by omega)
   have b3:=q09m (n:=j.g.first) (s:=j.g.grid) (by omega) (by omega) (by omega) (by omega)
   have b4:=q09l (n:=j.g.sep) (s:=j.g.grid) (by omega) (by omega) (by omega) (by omega)
   exact ⟨b1,b2.2,b3.1,b4.1,b4.2,rfl,rfl,rfl,rfl⟩
 refine ⟨q0Ex r sm,?_,?_,?_,?_,hgr.2.2.1,⟨hgr.1,hgr.2.1⟩,⟨hgr.2.2.2.1,hgr.2.2.2.2.1⟩,?_,?_⟩
 ·intro n hn
  unfold snapG at hn
  split at hn
  ·exact (q0pu (r.notes n hn)).1
  ·obtain ⟨m,hm,rfl⟩:=ZJ.1 hn
   have:=(q0pu (r.notes m hm)).1
   simpa [noteG] using this
 ·rw [q0j0,hf]
  unfold q01a
  rw [q0pq 5 f (fun x=>(hk x).1)]
  omega
 ·rw [q0v3,hf,q0lx 6 _ f hk]
  exact r.r6
 ·intro x hx
  have ht:=r.tall x hx
  unfold snapG at hx
  split at hx
  ·rename_i hgr
   have ho:=r.floats x hx
   unfold q01l at ho
   simp only [Zb,decide_eq_true_eq] at ho
   exact ⟨by omega,by omega,by omega⟩
  ·obtain ⟨y,hy,rfl⟩:=ZJ.1 hx
   have ho:=r.floats y hy
   unfold q01l at ho
   simp only [Zb,decide_eq_true_eq] at ho
   have b:=q09l (n:=y.h) (s:=j.g.grid) (by omega) (by omega) (by omega) (by omega)
   exact ⟨⟨by simp only [q01h];omega,by simp only [q01h];omega⟩,by simp only [q01h];omega,by omega⟩
 ·rw [hgr.2.2.2.2.2.1,hgr.2.2.2.2.2.2.1,hgr.2.2.2.2.2.2.2.1,hgr.2.2.2.2.2.2.2.2]
  omega
 ·rw [q0j1];omega
theorem q10q (fs:List Float) (h:fs.length<=100000) (x y:C3):(takeL fs x y).length<=1000000:=by
 have:=q0pa fs x y
 unfold takeL
 rw [isort_len];omega
theorem q0Yy {j:Job} (w:wfJ j) {s:Stt} {n:C3} {c:Colm} (h:q03i j s n=some c):c.notes.length<=1000000/\c.top.length<=1000000/\c.bot.length<=1000000:=by
 have t:=q10q j.floats w.w.n3 s.h
 unfold q03i at h
 split at h
 ·cases h;exact ⟨by simp,t _,by simp⟩
 split at h
 ·cases h;exact ⟨by simp,t _,by simp⟩
 split at h
 ·cases h;exact ⟨by simp,t _,by simp⟩
 ·cases h
theorem q0Yn {l:List Note} {s:Spot} (o:spotB l s):(q05q l s).length<=1000000:=by
 unfold q05q
 by_cases h:q00j l s=[]
 ·rw [h];simp
 ·exact q0d0 o _ (q0Z4 h)
theorem q0Y6 {j:Job} (w:wfJ j) {s:Stt} {c:Colm} (h:q04r j s=some c):c.notes.length<=1000000/\c.top.length<=1000000/\c.bot.length<=1000000:=by
 unfold q04r at h
 cases e1:textC j s with
 |some x=>
  rw [e1] at h
  simp at h;subst h
  unfold textC at e1
  split at e1
  ·cases e1;exact ⟨q0Yn (q08n j w s _),by simp,by simp⟩
  ·cases e1
 |none=>
  cases e2:dueC j s with
  |some x=>
   rw [e1,e2] at h
   simp at h;subst h
   unfold dueC at e2
   split at e2
   ·exact q0Yy w e2
   ·cases e2
  |none=>
   cases e3:noteC j s with
   |some x=>
    rw [e1,e2,e3] at h
    simp at h;subst h
    unfold noteC at e3
    split at e3
    ·cases e3;exact ⟨q0Yn (q09f j w s _),by simp,by simp⟩
    ·cases e3
   |none=>
    rw [e1,e2,e3] at h
    simp at h
    unfold q08m at h
    split at h
    ·exact q0Yy w h
    ·cases h
def wits (j:Job):Stt->List Colm->Stt->Prop
 |s,[],t=>s=t
 |s,c::r,t=>q04r j s=some c/\wits j (nextS j s c) r t
theorem q0Yz {j:Job} {c:Colm}: ∀ {l:List Colm} {s t:Stt},wits j s l t->q04r j t=some c->wits j s (l++[c]) (nextS j t c)
 |[],_,_,h,e=>by cases h;exact ⟨e,rfl⟩
 |_::_,_,_,h,e=>⟨h.1,q0Yz h.2 e⟩
theorem q0Ym {j:Job}: ∀ {l m:List Colm} {s t u:Stt},wits j s l t->q04r j t=none->wits j s m u->q04r j u=none->l=m/\t=u
 |[],[],_,_,_,h,_,g,_=>⟨rfl,h.symm.trans g⟩
 |[],y::q,_,_,_,h,e,g,_=>by cases h;have:=g.1;rw [e] at this;cases this
 |x::r,[],_,_,_,h,_,g,f=>by cases g;have:=h.1;rw [f] at this;cases this
 |x::r,y::q,_,_,_,h,e,g,f=>by
  have:=h.1.symm.trans g.1
  cases this
  obtain ⟨rfl,rfl⟩:=q0Ym h.2 e g.2 f
  exact ⟨rfl,rfl⟩
def q0Yo (j:Job):Stt->List Colm->Prop
 |_,[]=>True
 |s,c::r=>q06c j s c=0/\q0Yo j (nextS j s c) r
def goS (j:Job):Stt->List Colm->Stt
 |s,[]=>s
 |s,c::r=>goS j (nextS j s c) r
theorem q0Y2 {j:Job} (w:wfJ j) {s:Stt} {c:Colm} (h:q04r j s=some c):q06c j s c=0:=by
 cases o:openS j s with
 |false=>rw [q0Y9 o] at h;cases h
 |true=>
  obtain ⟨d,e1,e2,-⟩:=q0Yi w o
  rw [e1] at h;cases h;exact e2
theorem q0Yp {j:Job} (w:wfJ j): ∀ {l:List Colm} {s t:Stt},wits j s l t->q0Yo j s l/\goS j s l=t
 |[],_,_,h=>⟨trivial,h⟩
 |_::_,_,_,h=>by
  have ih:=q0Yp w h.2
  exact ⟨⟨q0Y2 w h.1,ih.1⟩,ih.2⟩
theorem q0Z0 {j:Job} (w:wfJ j): ∀ {l:List Colm} {s:Stt},rightP j s->q0Yo j s l->rightP j (goS j s l)/\q0Xw j s+l.length<=q0Xw j (goS j s l)
 |[],s,r,_=>⟨r,by simp [goS]⟩
 |c::l,s,r,h=>by
  obtain ⟨-,g2,g3⟩:=q0Y1 w h.1
  have ih:=q0Z0 w g2 h.2
  refine ⟨ih.1,?_⟩
  have:=ih.2
  simp only [goS,Zg]
  push_cast
  omega
theorem q0Zd: ∀(l:List Float) (i:Nat),(figOf 0 i l).length+(figOf 1 i l).length+(figOf 2 i l).length<=l.length
 |[],_=>by simp [figOf]
 |x::r,i=>by
  have:=q0Zd r (i+1)
  simp only [figOf,Zt,Zg]
  by_cases a:x.c=0
  ·rw [if_pos a,if_neg (by omega),if_neg (by omega)];simp;omega
  by_cases b:x.c=1
  ·rw [if_neg a,if_pos b,if_neg (by omega)];simp;omega
  by_cases c:x.c=2
  ·rw [if_neg a,if_neg b,if_pos c];simp;omega
  ·rw [if_neg a,if_neg b,if_neg c];simp;omega
theorem q0Xx {j:Job} (w:wfJ j) {s:Stt} (r:rightP j s):0<=q0Xw j s/\q0Xw j s<=j.items.length+lineN j.notes+j.floats.length:=by
 have cb:=q09w w r
 have h0:=r.h0
 have h1:=r.h1
 have h2:=q0hy w r
 have bd:=q0wx w.w s.at_
 have a0:=r.at0
 have a1:=r.at1
 have f3:=q0Zd j.floats 0
 rw [q0Yc r,q0Y7 h0 (by unfold leC at h1;omega)]
 have lb:0<=progN j.notes s.note s.line/\progN j.notes s.note s.line<=lineN j.notes:=by
  unfold progN
  have l0:=q0Yb j.notes cb.1
  have z:lineN (j.notes.take (0:Int).toNat)=0:=by simp [lineN]
  have l1:=q0Yb j.notes cb.2.2.1
  have e:j.notes.take ((j.notes.length:Nat):Int).toNat=j.notes:=by simp
  rw [e] at l1
  refine ⟨by omega,?_⟩
  by_cases q:s.line=0
  ·omega
  ·have h:=cb.2.2.2 q
   have l2:=q0Y0 j.notes s.note cb.1 h.1
   have l3:=q0Yb j.notes (show s.note+1<=(j.notes.length:Int) by omega)
   rw [e] at l3
   omega
 unfold leC allC zeroC at*
 simp only at*
 omega
theorem q10c {j:Job} (w:wfJ j) {l:List Colm} {s:Stt} (r:rightP j s) (h:q0Yo j s l):(l.length:Int)<=j.items.length+lineN j.notes+j.floats.length:=by
 have a:=q0Z0 w r h
 have b:=q0Xx w r
 have c:=q0Xx w a.1
 omega
def wfE (j:Job) (H:Heap) (l:List Colm) (s:Stt):St:=⟨[(0,vW j),(3,.lptr 3 0),(5,.row H.length l.length 0 l.length)],[(3,cStt s)],H++[DObj.row 6 (upV (l.map q148))],H.length,[]⟩
def wfX (H:Heap) (l:List Colm):Ex×St:=(.ret,⟨[(4,.row H.length l.length 0 l.length)],[],H++[DObj.row 6 (upV (l.map q148))],H.length,[]⟩)
def wfR:IC:=(q019 q0Xy 0).getD .skip
theorem q11c:q019 q0Xy 0=some wfR:=rfl
theorem q0Z1 (b:IC) (l:Nat) (S:St):seqK EE b (some (.goto l,S))=some (.goto l,S):=rfl
section
variable (j:Job) (w:wfJ j)
include w
theorem q114 (H:Heap) (l:List Colm) (s:Stt) (c:Colm) (h:q04r j s=some c) (hl:l.length<=1000000):evD EE wfR (wfE j H l s)=some (.goto 0,wfE j H (l++[c]) (nextS j s c)):=by
 obtain ⟨c1,c2,c3⟩:=q0Y6 w h
 have ls:=fun H=>q0qq j w s H
 have nx:=fun H=>q0Z3 j w.w s c c1 c2 c3 H
 unfold vOC at ls
 rw [h] at ls
 have hm:l.length+1<most:=by unfold most;omega
 generalize nextS j s c=n at*
 unfold wfR q0Xy
 simp [q019,wfE,subs,q001,ls,nx,hm,q148,q0Z1]
theorem q115 (H:Heap) (l:List Colm) (s:Stt) (h:q04r j s=none):evD EE wfR (wfE j H l s)=some (wfX H l):=by
 have ls:=fun H=>q0qq j w s H
 unfold vOC at ls
 rw [h] at ls
 unfold wfR q0Xy
 simp [q019,wfE,wfX,subs,q001,ls,q014]
theorem wf_lp (hM:(j.items.length:Int)+lineN j.notes+j.floats.length<=1000000) (H:Heap): ∀(k:Nat) (l:List Colm) (s:Stt),(q01g j s=true->(l.length:Int)<=q0Xw j s/\1000000<q0Xw j s+k)->l.length<=1000000->
  ∃m t,wits j s m t/\q04r j t=none/\scopeK EE q0Xy (some (.goto 0,wfE j H l s))=some (wfX H (l++m))
 |k,l,s,hr,hl=>by
  have e: ∀S,scopeK EE q0Xy (some (.goto 0,S))=scopeK EE q0Xy (evD EE wfR S):=fun S=>by
   simp only [scopeK,q11c]
   rw [q0q1]
   rfl
  cases h:q04r j s with
  |none=>exact ⟨[],s,rfl,h,by rw [e,q115 j w H l s h,List.append_nil];rfl⟩
  |some c=>
   obtain ⟨g1,g2,g3⟩:=q0Y1 w (q0Y2 w h)
   have m1:=q0Xx w g1
   have m2:=q0Xx w g2
   have q:=hr ((q02k j s).2 g1)
   match k,q with
   |0,q=>exact absurd q.2 (by omega)
   |k+1,q=>
    have q2:=q.2
    push_cast at q2
    obtain ⟨m,t,i1,i2,i3⟩:=wf_lp hM H k (l++[c]) (nextS j s c) (fun _=>⟨by rw [Zt,List.length_singleton];push_cast;omega,by omega⟩) (by rw [Zt,List.length_singleton];omega)
    refine ⟨c::m,t,⟨h,i1⟩,i2,?_⟩
    rw [e,q114 j w H l s c h hl,i3]
    simp
theorem q0Yq (hM:(j.items.length:Int)+lineN j.notes+j.floats.length<=1000000) (s:Stt): ∃m t,wits j s m t/\q04r j t=none/\ ∀H,clD EE (.p (.fn 25)) [vW j,vStt s] H=some (vCos m,none):=by
 have ls:=fun H=>q0qq j w s H
 unfold vOC at ls
 cases h:q04r j s with
 |none=>
  rw [h] at ls
  refine ⟨[],s,rfl,h,fun H=> ?_⟩
  rw [q002 _ _ _ _ _ _ (noP _) fn25]
  have f1: ∀b H,frzK 0 0 0 b H 2 (some (6,[]))=some (.sl []):=fun b H=>q09c 0 0 0 b 2 6 H []
  have f2: ∀i b H,idsK i 0 0 0 b H 2 (some (6,[]))=[i]:=fun i b H=>q0Qm i 0 0 0 b 2 6 H []
  simp [zEc,q0Xy,ls,q014,f1,f2]
 |some c=>
  rw [h] at ls
  obtain ⟨g1,g2,g3⟩:=q0Y1 w (q0Y2 w h)
  have m1:=q0Xx w g1
  have m2:=q0Xx w g2
  obtain ⟨c1,c2,c3⟩:=q0Y6 w h
  have nx:=fun H=>q0Z3 j w.w s c c1 c2 c3 H
  have key:=fun H=>wf_lp j w hM H 1000001 [c] (nextS j s c) (fun _=>⟨by rw [List.length_singleton];omega,by omega⟩) (by simp)
  obtain ⟨m,t,i1,i2,-⟩:=key []
  refine ⟨c::m,t,⟨h,i1⟩,i2,fun H=> ?_⟩
  obtain ⟨m',t',i1',i2',i3⟩:=key H
  obtain ⟨rfl,rfl⟩:=q0Ym i1 i2 i1' i2'
  have h1:evD EE q0Xy ⟨[(0,vW j),(3,.lptr 3 0)],[(3,cStt s)],H,H.length,[]⟩=some (.goto 0,wfE j H [c] (nextS j s c)):=by
   have hm:1<most:=by decide
   generalize nextS j s c=n at*
   unfold q0Xy
   simp [wfE,subs,q001,ls,nx,hm,q148,q0Z1]
  rw [q002 _ _ _ _ _ _ (noP _) fn25]
  generalize nextS j s c=n at*
  simp only [wfE,wfX,cStt] at h1 i3
  simp at h1 i3
  simp [zEc,h1,i3]
end
end Go.EnvOf
namespace Go.EnvOf
open Go Go.Eng
set_option maxRecDepth 100000
section
variable (j:Job) (w:okW j)
end
def encPs (p:List Piece):List PV:=[.sl (p.map q00g)]
abbrev vPss (l:List (List Piece)):V:= .p (.sl (l.map encPs))
theorem q0x7 (l:List Note) (s:Spot) (hl:l.length<=1000000) (hn:s.note<=1000000) (H:Heap):clD EE (.p (.fn 333)) [q00b l,vSpot s] H=some (vI (openN l s),none):=by
 rw [q002 _ _ _ _ _ _ (noP _) fn333]
 unfold openN
 by_cases c1:s.note<0
 ·simp [zEc,c1]
 ·by_cases c2:s.line<0
  ·simp [zEc,c1,c2]
  ·have e0:max 0 (min s.begun (l.length:Int))=max (min s.begun (l.length:Int)) 0:=by omega
   have w:IntKind.i64.wrap (max (min s.begun l.length) 0-s.note)=max (min s.begun l.length) 0-s.note:=w64 (by omega) (by omega)
   have e:max 0 (max (min s.begun (l.length:Int)) 0-s.note)=max (max (min s.begun (l.length:Int)) 0-s.note) 0:=by omega
   have e2:(((max (max (min s.begun (l.length:Int)) 0-s.note) 0).toNat:Nat):Int)=max (max (min s.begun (l.length:Int)) 0-s.note) 0:=by omega
   simp [zEc,c1,c2,w,e0,e]
def Rows (b:Nat) (H:Heap) (id:Nat) (ps:List (List Piece)):Prop:=
 ∃vs:List V,Eng.rowAt H id=some (1,vs.map fun v=>[v])/\vs.length=ps.length/\ ∀(k:Nat) (v:V) (p:List Piece),vs[k]? =some v->ps[k]? =some p-> ∃B,repP p v H B/\ ∀k∈B,b<=k/\k≠id
theorem q0lr {b:Nat} {H:Heap} {id:Nat} {ps:List (List Piece)} (h:Rows b H id ps) (hb:b<=id):frz b H 3 (.row id ps.length 0 ps.length)=some (.sl (ps.map encPs)):=by
 obtain ⟨vs,h1,h2,h3⟩:=h
 rw [q056,if_pos hb,h1]
 simp only [frzK]
 rw [if_pos (by simpa using h2),ZG,Zy (by simp [h2])]
 have key: ∀(vs:List V) (ps:List (List Piece)),vs.length=ps.length->(∀(k:Nat) (v:V) (p:List Piece),vs[k]? =some v->ps[k]? =some p-> ∃B,repP p v H B/\ ∀k∈B,b<=k/\k≠id)->allO (allO (frz b H 2)) (vs.map fun v=>[v])=some (ps.map encPs):=by
  intro vs
  induction vs with
  |nil=>intro ps h _;cases ps with|nil=>rfl|cons=>cases h
  |cons v r ih=>
   intro ps hl h
   cases ps with
   |nil=>cases hl
   |cons p q=>
    obtain ⟨B,hr,hB⟩:=h 0 v p rfl rfl
    have h0:=frz_rep hr (fun k hk=>(hB k hk).1) 1
    have h1:=ih q (by simpa using hl) fun k v p hv hp=>h (k+1) v p (by simpa using hv) (by simpa using hp)
    simp only [Zo,allO,h0,h1]
    rfl
 rw [key vs ps h2 h3]
 rfl
def rkE (l:List Note) (n:Nat) (s:Spot) (c:Nat) (i5 i7:Nat) (H:Heap) (B:Nat) (acc:List Piece) (i:Nat):St:=
 ⟨[(0,q00b l),(3,.lptr 3 0),(5,.row i5 c 0 c),(6,vI n),(7,.row i7 acc.length 0 acc.length),(8,vI (if i=0 then s.line else 0)),(9,vI (s.note+i))],[(3,cSpot s)],H++[DObj.row 3 (upV (acc.map q00g))],B,[]⟩
def rkX (l:List Note) (n:Nat) (s:Spot) (c:Nat) (i5 i7:Nat) (H:Heap) (B:Nat) (acc:List Piece) (i:Nat):Ex×St:=
 (.exit 0,⟨[(0,q00b l),(3,.lptr 3 0),(5,.row i5 c 0 c),(6,vI n),(7,.row i7 acc.length 0 acc.length),(8,vI (if i=0 then s.line else 0)),(9,vI (s.note+i)),(40,vB false)],[(3,cSpot s)],H++[DObj.row 3 (upV (acc.map q00g))],B,[]⟩)
theorem q0tn (l:List Note) (hl:l.length<=1000000) (hx: ∀x∈l,x.lines.length<=1000000) (n:Nat) (hn:1<=n) (s:Spot) (h0:0<=s.note) (h1:s.note+n<=l.length) (c:Nat) (i5:Nat) (H:Heap) (B:Nat) (hB:B<=H.length):
  evD EE q0X4 (rkE l n s c i5 H.length H B [] 0)=some (rkX l n s c i5 H.length H B (q01j l (n-1) s.note s.line) (n-1)):=by
 have hsl:((l.drop s.note.toNat).take (n-1)).length=n-1:=by rw [ZC,List.length_drop];omega
 rw [<-q0ft l s (n-1) h0 (by omega)]
 unfold q0X4
 refine Eq.trans (q00u ((l.drop s.note.toNat).take (n-1)) (fun acc i=>rkE l n s c i5 H.length H B acc i) (fun acc i=>acc.length=i) (q03y s) (fun acc=>rkX l n s c i5 H.length H B acc (n-1)) (fun _ _=>rfl) ?_ ?_ [] 0 rfl (Zj _)) (by rw [ZG])
 ·rintro acc i x hi hx'
  refine ⟨?_,by simp [q03y,hi]⟩
  have hlt:=(Za.1 hx').1
  rw [hsl] at hlt
  have hg:l[(s.note+i).toNat]? =some x:=by
   rw [List.getElem?_take,if_pos hlt,List.getElem?_drop] at hx'
   rw [show (s.note+i).toNat=s.note.toNat+i by omega];exact hx'
  have hix:=fun H k=>q024 H q00e (k:=k) (s:=2) (show 0<=s.note+i by omega) hg rfl
  simp only [q00e] at hix
  have w1:IntKind.i64.wrap (s.note+n)=s.note+n:=w64 (by omega) (by omega)
  have w2:IntKind.i64.wrap (s.note+n-1)=s.note+n-1:=w64 (by omega) (by omega)
  have w3:IntKind.i64.wrap (s.note+i+1)=s.note+((i+1:Nat):Int):=by rw [w64 (by omega) (by omega)];push_cast;omega
  have c1:s.note+(i:Int)<s.note+n-1:=by omega
  have hm:acc.length+1<most:=by unfold most;omega
  have hd:addD B H.length []=[]:=by unfold addD;rw [if_neg (by omega)]
  simp [rkE,hix,subs,q001,w1,w2,w3,c1,hm,hd,hB,q03y,q00g]
 ·rintro acc hi
  rw [hsl] at hi⊢
  have w1:IntKind.i64.wrap (s.note+n)=s.note+n:=w64 (by omega) (by omega)
  have w2:IntKind.i64.wrap (s.note+n-1)=s.note+n-1:=w64 (by omega) (by omega)
  have c1: ¬s.note+((n-1:Nat):Int)<s.note+n-1:=by omega
  simp [rkE,rkX,subs,q001,w1,w2,c1]
def rkbE (i5 i7 c k:Nat) (frm last:Int) (T:List Int) (B:Nat) (H:Heap) (i:Nat):St:=
 ⟨[(5,.row i5 c 0 c),(7,.row i7 k 0 k),(8,vI frm),(10,vI last),(11,sli T),(12,vI i)],[],H,B,[]⟩
def rkbR (i5 i7 B:Nat) (w:List Piece) (frm last:Int) (T:List Int) (pre:List (List Piece)) (i:Nat) (S:St):Prop:=
 ∃H,S=rkbE i5 i7 (pre.length+i) w.length frm last T B H i/\Rows B H i5 (pre++(T.take i).map fun t=>w++[⟨last,frm,t⟩])/\Eng.rowAt H i7=some (3,upV (w.map q00g))/\B<=i5/\B<=i7/\i5≠i7/\i5<H.length
def rkbF (i5 B:Nat) (ps:List (List Piece)) (r:Ex×St):Prop:= ∃H env,r=(.exit 2,⟨env,[],H,B,[]⟩)/\getE env 5= .row i5 ps.length 0 ps.length/\Rows B H i5 ps
theorem q0x8 {b:Nat} {H:Heap} {id:Nat} {ps:List (List Piece)} (h:Rows b H id ps) (p:List Piece) (hb:b<=H.length) (hid:id<H.length):
  ∃vs:List V,Eng.rowAt H id=some (1,vs.map fun v=>[v])/\vs.length=ps.length/\
   Rows b ((H++[DObj.row 3 (upV (p.map q00g))]).set id (DObj.row 1 ((vs.map fun v=>[v])++[[.row H.length p.length 0 p.length]]))) id (ps++[p]):=by
 obtain ⟨vs,h1,h2,h3⟩:=h
 refine ⟨vs,h1,h2,vs++[.row H.length p.length 0 p.length],?_,by simp [h2],?_⟩
 ·rw [q0hx _ _ _ _ (by simp;omega)];simp
 ·intro k v q hv hq
  by_cases hk:k<ps.length
  ·rw [Zw (by omega)] at hv
   rw [Zw hk] at hq
   obtain ⟨B,hr,hB⟩:=h3 k v q hv hq
   refine ⟨B,q07p (q07p hr (Stay.app _ _ _ (q0Ba hr))) (Stay.set _ _ _ _ fun h=>(hB _ h).2 rfl),hB⟩
  ·have e:k=ps.length:=by
    have:=(Za.1 hq).1
    simp at this;omega
   subst e
   rw [<-h2,ZD (Zm _)] at hv
   rw [ZD (Zm _)] at hq
   simp at hv hq
   subst hv hq
   refine ⟨[H.length],.inr ⟨H.length,rfl,?_,rfl⟩,fun k hk=>by simp at hk;omega⟩
   rw [q05l _ _ _ _ (by omega)]
   simp [Eng.rowAt]
theorem q0to (i5 i7 B:Nat) (w:List Piece) (hw:w.length<=1000000) (frm last:Int) (T:List Int) (hT:T.length<=10000000) (pre:List (List Piece)) (hp:pre.length<=1000000) (S:St) (hS:rkbR i5 i7 B w frm last T pre 0 S):
  ∃r,evD EE q0X5 S=some r/\rkbF i5 B (pre++T.map fun t=>w++[⟨last,frm,t⟩]) r:=by
 unfold q0X5
 refine q0j2 T (rkbR i5 i7 B w frm last T pre) (rkbF i5 B (pre++T.map fun t=>w++[⟨last,frm,t⟩])) ?_ ?_ ?_ _ 0 S rfl hS (Zj _)
 ·rintro i S ⟨H,rfl,-⟩;rfl
 ·rintro i x S ⟨H,rfl,hR,hr,b5,b7,ne,l5⟩ hx
  have hlt:=(Za.1 hx).1
  have w1:IntKind.i64.wrap ((i:Int)+1)=((i+1:Nat):Int):=w64 (by omega) (by omega)
  have hix:=fun H k=>q00c H encI (k:=k) (s:=1) hx rfl
  simp only [encI] at hix
  have l7:=q09d hr
  obtain ⟨vs,g1,g2,g3⟩:=q0x8 hR (w++[⟨last,frm,x⟩]) (by omega) l5
  have el:(pre++(T.take i).map fun t=>w++[(⟨last,frm,t⟩:Piece)]).length=pre.length+i:=by simp;omega
  rw [el] at g2
  have et:(pre++(T.take i).map fun t=>w++[(⟨last,frm,t⟩:Piece)])++[w++[⟨last,frm,x⟩]]=pre++(T.take (i+1)).map fun t=>w++[(⟨last,frm,t⟩:Piece)]:=by
   rw [q03n hx];simp
  rw [et] at g3
  refine ⟨rkbE i5 i7 (pre.length+(i+1)) w.length frm last T B ((H++[DObj.row 3 (upV ((w++[(⟨last,frm,x⟩:Piece)]).map q00g))]).set i5 (DObj.row 1 ((vs.map fun v=>[v])++[[.row H.length (w++[(⟨last,frm,x⟩:Piece)]).length 0 (w++[(⟨last,frm,x⟩:Piece)]).length]]))) (i+1),?_,_,rfl,g3,?_,b5,b7,ne,by simp;omega⟩
  ·have hm1:w.length+1<most:=by unfold most;omega
   have hm0:w.length<most:=by unfold most;omega
   have hm2:pre.length+i+1<most:=by unfold most;omega
   have hd:addD B H.length []=[]:=by unfold addD;rw [if_neg (by omega)]
   have hd5:addD B i5 []=[]:=by unfold addD;rw [if_neg (by omega)]
   have g1': ∀T,Eng.rowAt (H++T) i5=some (1,vs.map fun v=>[v]):=fun T=>(q03h T l5).trans g1
   have hr': ∀T,Eng.rowAt (H++T) i7=some (3,upV (w.map q00g)):=fun T=>(q03h T l7).trans hr
   have he:=fun T=>(show elems (H++T) (.row i7 w.length 0 w.length)=some (upV (w.map q00g)) by simp [elems,hr',Zy])
   have hok:=q0lk q00g 3 (fun _=>rfl) w
   simp [-List.all_eq_true,rkbE,hlt,hix,subs,q001,he,hok,hm0,hm1,hm2,g1',g2,hd,hd5,q00g,okEl,show¬H.length<B by omega,show¬i5<B by omega]
   exact ⟨by omega,by rw [w1];push_cast;rfl⟩
  ·rw [q05l _ _ _ _ ne,q03h _ l7];exact hr
 ·rintro S ⟨H,rfl,hR,hr,b5,b7,ne,l5⟩
  rw [List.take_length] at hR
  refine ⟨(.exit 2,⟨[(5,.row i5 (pre.length+T.length) 0 (pre.length+T.length)),(7,.row i7 w.length 0 w.length),(8,vI frm),(10,vI last),(11,sli T),(12,vI T.length),(69,vB false)],[],H,B,[]⟩),?_,by simp,H,_,rfl,by simp,hR⟩
  simp [rkbE]
theorem q081 (l:List Note) (s:Spot) (o:spotB l s) (H:Heap):clD EE (.p (.fn 268)) [q00b l,vSpot s] H=some (vPss (q00j l s),none):=by
 rw [q002 _ _ _ _ _ _ (noP _) fn268]
 have op:=fun H=>q0x7 l s o.l1 o.n1 H
 have e:=q08w o.b o.n0 o.li
 have hch:q00j l s=(if openN l s=0\/s.fresh=false then [[]] else [])++if openN l s=0 then [] else (q01k (rd l (lastP s (openN l s))) (fromP s (openN l s))).map (oneP l s (openN l s)):=rfl
 generalize hN:openN l s=n at*
 have h1:1<most:=by decide
 have hok:okEl 1 [V.nils]=true:=rfl
 have hd:addD H.length H.length []=[]:=by unfold addD;rw [if_neg (by omega)]
 by_cases c0:n=0
 ·subst c0
  rw [hch]
  simp [zEc,op,h1,hok,hd,frzK]
  simp [upV,allO,frz,encPs]
 ·have hlt:s.note<s.begun:=by omega
  have hnn:(n:Int)=s.begun-s.note:=by omega
  have hnl:s.note+n<=l.length:=by have:=o.b;omega
  have hlast:lastP s n=s.note+n-1:=rfl
  have hrl:=q026 l (s.note+n-1) (by have:=o.n0;omega) (by omega)
  have hix:=fun H k=>q024 H q00e (k:=k) (s:=2) (show 0<=s.note+n-1 by have:=o.n0;omega) hrl rfl
  simp only [q00e] at hix
  have hrm:rd l (s.note+n-1)∈l:=q05a (by have:=o.n0;omega) (by omega)
  have hst: ∀f H,clD EE (.p (.fn 334)) [vNote (rd l (s.note+n-1)),vI f] H=some (sli (q01k (rd l (s.note+n-1)) f),none):=fun f H=>q0uo (rd l (s.note+n-1)).lines (rd l (s.note+n-1)).pens f H (o.l2 _ hrm)
  have hTl:(q01k (rd l (s.note+n-1)) (fromP s n)).length<=10000000:=by
   have h1:=q0cd (q02f (rd l (s.note+n-1)).lines (rd l (s.note+n-1)).pens (fromP s n)) ((rd l (s.note+n-1)).lines.length+1) 0
   have:=o.l2 _ hrm
   unfold q01k;omega
  have hwl:(q01j l (n-1) s.note s.line).length=n-1:=by
   have: ∀(k:Nat) (a b:Int),(q01j l k a b).length=k:=by
    intro k
    induction k with
    |zero=>intro a b;rfl
    |succ k ih=>intro a b;simp [q01j,ih]
   exact this _ _ _
  have hfr:(if n-1=0 then s.line else 0)=fromP s n:=by
   unfold fromP
   by_cases z:n=1
   ·rw [if_pos z,if_pos (by omega)]
   ·rw [if_neg z,if_neg (by omega)]
  have w1:IntKind.i64.wrap (s.note+n)=s.note+n:=w64 (by have:=o.n0;omega) (by have:=o.n1;have:=o.l1;omega)
  have w2:IntKind.i64.wrap (s.note+n-1)=s.note+n-1:=w64 (by have:=o.n0;omega) (by have:=o.n1;have:=o.l1;omega)
  have hcn: ¬(n:Int)=0:=by omega
  have hl1:=o.l1
  by_cases fr:s.fresh=false
  ·have op: ∀H,clD EE (.p (.fn 333)) [q00b l,.agg [vI s.note,vI s.line,vI s.begun,vB false]] H=some (vI n,none):=fun H=>by rw [<-fr];exact op H
   have hch2:q00j l s=[[]]++(q01k (rd l (s.note+n-1)) (fromP s n)).map (oneP l s n):=by
    rw [hch,if_neg c0,if_pos (.inr fr)];rfl
   have k0:=q0tn l o.l1 o.l2 n (by omega) s o.n0 hnl 1 H.length (H++[DObj.row 1 (upV [[PV.sl []]])]) H.length (by simp)
   obtain ⟨r,k1,H',env,rfl,k2,k3⟩:=q0to H.length (H.length+1) H.length (q01j l (n-1) s.note s.line) (by rw [hwl];have:=o.n0;omega) (fromP s n) (s.note+n-1) (q01k (rd l (s.note+n-1)) (fromP s n)) hTl [[]] (by simp) _
    ⟨H++[DObj.row 1 (upV [[PV.sl []]])]++[DObj.row 3 (upV ((q01j l (n-1) s.note s.line).map q00g))],rfl,⟨[q00v []],by simp [Eng.rowAt,upV],rfl,fun k v p hv hp=>by
     cases k with
     |zero=>simp at hv hp;subst hv hp;exact ⟨[],.inl ⟨rfl,rfl⟩,by simp⟩
     |succ k=>simp at hv⟩,by simp [Eng.rowAt],by omega,by omega,by omega,by simp⟩
   change Rows H.length H' H.length ([[]]++(q01k (rd l (s.note+n-1)) (fromP s n)).map (oneP l s n)) at k3
   rw [<-hch2] at k3
   have fz:=q0lr k3 (Zm _)
   rw [q056,if_pos (Zm _)] at fz
   have hlen:(q00j l s).length=1+(q01k (rd l (s.note+n-1)) (fromP s n)).length:=by rw [hch2];simp;omega
   have k2':getE env 5= .row H.length (q00j l s).length 0 (q00j l s).length:=by rw [k2,hlen];simp;omega
   simp only [rkE,rkX,hfr] at k0
   simp only [rkbE] at k1
   simp at k1
   simp [cSpot,fr] at k0
   simp [zEc,op,h1,hok,hd,c0,hcn,fr,k0,k1,k2',w1,w2,hix,hst,fz]
  ·have op: ∀H,clD EE (.p (.fn 333)) [q00b l,.agg [vI s.note,vI s.line,vI s.begun,vB true]] H=some (vI n,none):=fun H=>by rw [<-(show s.fresh=true by simpa using fr)];exact op H
   have hch2:q00j l s=[]++(q01k (rd l (s.note+n-1)) (fromP s n)).map (oneP l s n):=by
    rw [hch,if_neg c0,if_neg (fun h=>h.elim c0 fr)];rfl
   have k0:=q0tn l o.l1 o.l2 n (by omega) s o.n0 hnl 0 H.length (H++[DObj.row 1 []]) H.length (by simp)
   obtain ⟨r,k1,H',env,rfl,k2,k3⟩:=q0to H.length (H.length+1) H.length (q01j l (n-1) s.note s.line) (by rw [hwl];have:=o.n0;omega) (fromP s n) (s.note+n-1) (q01k (rd l (s.note+n-1)) (fromP s n)) hTl [] (by simp) _
    ⟨H++[DObj.row 1 []]++[DObj.row 3 (upV ((q01j l (n-1) s.note s.line).map q00g))],rfl,⟨[],by simp [Eng.rowAt],rfl,fun k v p hv hp=>by simp at hv⟩,by simp [Eng.rowAt],by omega,by omega,by omega,by simp⟩
   change Rows H.length H' H.length ([]++(q01k (rd l (s.note+n-1)) (fromP s n)).map (oneP l s n)) at k3
   rw [<-hch2] at k3
   have fz:=q0lr k3 (Zm _)
   rw [q056,if_pos (Zm _)] at fz
   have hlen:(q00j l s).length=(q01k (rd l (s.note+n-1)) (fromP s n)).length:=by rw [hch2];simp
   have k2':getE env 5= .row H.length (q00j l s).length 0 (q00j l s).length:=by rw [k2,hlen];simp
   simp only [rkE,rkX,hfr] at k0
   simp only [rkbE] at k1
   simp at k1
   simp [cSpot,fr] at k0
   simp [zEc,op,h1,hok,hd,c0,hcn,fr,k0,k1,k2',w1,w2,hix,hst,fz]
def rgE (l:List Float) (c:Int) (H:Heap) (out:List Int) (i:Nat):St:=⟨[(0,q005 l),(1,vI c),(5,.row H.length out.length 0 out.length),(6,vI i)],[],H++[.row 1 (upV (out.map encI))],H.length,[]⟩
def rgX (l:List Float) (c:Int) (H:Heap) (out:List Int):Ex×St:=(.exit 0,⟨[(0,q005 l),(1,vI c),(5,.row H.length out.length 0 out.length),(6,vI l.length),(10,vB false)],[],H++[.row 1 (upV (out.map encI))],H.length,[]⟩)
theorem q0tp (l:List Float) (c:Int) (H:Heap) (hl:l.length<=1000000):clD EE (.p (.fn 335)) [q005 l,vI c] H=some (sli (figOf c 0 l),none):=by
 rw [q002 _ _ _ _ _ _ (noP _) fn335]
 have k:evD EE q0Xa (rgE l c H [] 0)=some (rgX l c H (figOf c 0 l)):=by
  unfold q0Xa
  refine Eq.trans (q00u l (fun out i=>rgE l c H out i) (fun out i=>out.length<=i) (figS c) (fun out=>rgX l c H out) (fun _ _=>rfl) ?_ ?_ [] 0 (by simp) (Zj _)) (by rw [ZG,q0b6,Zf])
  ·rintro out i f hi hx
   have hlt:=(Za.1 hx).1
   have w1:IntKind.i64.wrap ((i:Int)+1)=((i+1:Nat):Int):=w64 (by omega) (by omega)
   have hix:=fun H k=>q00c H q009 (k:=k) (s:=3) hx rfl
   simp only [q009] at hix
   have hm:out.length+1<most:=by unfold most;omega
   unfold figS
   by_cases e:f.c=c
   ·refine ⟨?_,by simp [e];omega⟩
    simp [rgE,hlt,hix,subs,w1,e,hm,encI]
   ·refine ⟨?_,by simp [e];omega⟩
    simp [rgE,hlt,hix,subs,w1,e]
  ·rintro out-
   simp [rgE,rgX]
 simp only [rgE,rgX] at k
 simp at k
 have hfr:(figOf c 0 l).length<9223372036854775807:=by have:=q02d c l 0;omega
 simp [zEa,k]
def hd3 (x:C3) (c:Int):Int:=if c=0 then x.a else if c=1 then x.b else x.c
def tkT (x y:C3):C3->Nat->List Float->List Int
 |_,_,[]=>[]
 |at_,i,f::r=>if 0<=f.c/\f.c<3 then (if hd3 x f.c<=hd3 at_ f.c/\hd3 at_ f.c<hd3 x f.c+hd3 y f.c then [(i:Int)] else [])++tkT x y (bump at_ f.c) (i+1) r else tkT x y at_ (i+1) r
def sg (F:List Int) (lo hi:Int):List Int:=(F.take hi.toNat).drop lo.toNat
theorem q0gx (z:Int) (F:List Int) (lo hi:Int):sg (z::F) lo hi=(if lo<=0/\0<hi then [z] else [])++sg F (lo-1) (hi-1):=by
 unfold sg
 by_cases h1:0<hi
 ·have e1:hi.toNat=(hi-1).toNat+1:=by omega
  rw [e1,ZZ]
  by_cases h2:lo<=0
  ·rw [if_pos ⟨h2,h1⟩,show lo.toNat=0 by omega,show (lo-1).toNat=0 by omega];simp
  ·rw [if_neg (fun h=>h2 h.1),show lo.toNat=(lo-1).toNat+1 by omega,List.drop_succ_cons];simp
 ·rw [if_neg (fun h=>h1 h.2),show hi.toNat=0 by omega,show (hi-1).toNat=0 by omega];simp
theorem q0ls (F:List Int) (u w:Int) (hu:0<=u) (hw:0<=w):sg F u (u+w)=seg F u w:=by
 unfold sg seg
 rw [show (u+w).toNat=u.toNat+w.toNat by omega,List.take_add,List.drop_append,List.drop_take]
 simp
 rcases Nat.le_total u.toNat F.length with h|h
 ·rw [Nat.min_eq_left h];simp
 ·rw [List.drop_eq_nil_of_le h];simp
theorem q0lt (x y:C3): ∀(l:List Float) (a:C3) (i:Nat),∀z∈tkT x y a i l,(i:Int)<=z
 |[],_,_,z,h=>by cases h
 |f::r,a,i,z,h=>by
  unfold tkT at h
  split at h
  ·rcases ZY.1 h with h|h
   ·split at h
    ·simp at h;omega
    ·cases h
   ·have:=q0lt x y r _ _ z h;push_cast at this;omega
  ·have:=q0lt x y r _ _ z h;push_cast at this;omega
theorem q06l (x y:C3): ∀(l:List Float) (a:C3) (i:Nat),(tkT x y a i l).Pairwise (· < ·)
 |[],_,_=> .nil
 |f::r,a,i=>by
  unfold tkT
  split
  ·split
   ·rw [List.singleton_append]
    exact ZW.2 ⟨fun z hz=>by have:=q0lt x y r _ _ z hz;push_cast at this;omega,q06l x y r _ _⟩
   ·exact q06l x y r _ _
  ·exact q06l x y r _ _
theorem q0gy (x y:C3) (z:Int): ∀(l:List Float) (a:C3) (i:Nat),z∈tkT x y a i l↔
  z∈sg (figOf 0 i l) (x.a-a.a) (x.a+y.a-a.a)\/z∈sg (figOf 1 i l) (x.b-a.b) (x.b+y.b-a.b)\/z∈sg (figOf 2 i l) (x.c-a.c) (x.c+y.c-a.c)
 |[],a,i=>by simp [tkT,figOf,sg]
 |f::r,a,i=>by
  unfold tkT
  by_cases c:0<=f.c/\f.c<3
  ·rw [if_pos c,ZY,q0gy x y z r]
   have h3:f.c=0\/f.c=1\/f.c=2:=by omega
   simp only [figOf]
   rcases h3 with e|e|e
   ·simp only [e,bump,hd3]
    simp only [if_true,List.singleton_append,q0gx,ZY,show¬((0:Int)=1) by omega,show¬((0:Int)=2) by omega,if_false,Zf]
    rw [show x.a-a.a-1=x.a-(a.a+1) by omega,show x.a+y.a-a.a-1=x.a+y.a-(a.a+1) by omega]
    have:(x.a<=a.a/\a.a<x.a+y.a)↔(x.a-a.a<=0/\0<x.a+y.a-a.a):=by omega
    simp only [this]
    constructor
    ·rintro (h|h|h|h)
     ·exact .inl (.inl h)
     ·exact .inl (.inr h)
     ·exact .inr (.inl h)
     ·exact .inr (.inr h)
    ·rintro ((h|h)|h|h)
     ·exact .inl h
     ·exact .inr (.inl h)
     ·exact .inr (.inr (.inl h))
     ·exact .inr (.inr (.inr h))
   ·simp only [e,bump,hd3]
    simp only [if_true,List.singleton_append,q0gx,ZY,show¬((1:Int)=0) by omega,show¬((1:Int)=2) by omega,if_false,Zf]
    rw [show x.b-a.b-1=x.b-(a.b+1) by omega,show x.b+y.b-a.b-1=x.b+y.b-(a.b+1) by omega]
    have:(x.b<=a.b/\a.b<x.b+y.b)↔(x.b-a.b<=0/\0<x.b+y.b-a.b):=by omega
    simp only [this]
    constructor
    ·rintro (h|h|h|h)
     ·exact .inr (.inl (.inl h))
     ·exact .inl h
     ·exact .inr (.inl (.inr h))
     ·exact .inr (.inr h)
    ·rintro (h|(h|h)|h)
     ·exact .inr (.inl h)
     ·exact .inl h
     ·exact .inr (.inr (.inl h))
     ·exact .inr (.inr (.inr h))
   ·simp only [e,bump,hd3]
    simp only [if_true,List.singleton_append,q0gx,ZY,show¬((2:Int)=0) by omega,show¬((2:Int)=1) by omega,if_false,Zf]
    rw [show x.c-a.c-1=x.c-(a.c+1) by omega,show x.c+y.c-a.c-1=x.c+y.c-(a.c+1) by omega]
    have:(x.c<=a.c/\a.c<x.c+y.c)↔(x.c-a.c<=0/\0<x.c+y.c-a.c):=by omega
    simp only [this]
    constructor
    ·rintro (h|h|h|h)
     ·exact .inr (.inr (.inl h))
     ·exact .inl h
     ·exact .inr (.inl h)
     ·exact .inr (.inr (.inr h))
    ·rintro (h|h|h|h)
     ·exact .inr (.inl h)
     ·exact .inr (.inr (.inl h))
     ·exact .inl h
     ·exact .inr (.inr (.inr h))
  ·rw [if_neg c,q0gy x y z r]
   simp only [figOf,show¬f.c=0 by omega,show¬f.c=1 by omega,show¬f.c=2 by omega,if_false,Zf]
theorem q0f4: ∀ {l m:List Int},l.Pairwise (· < ·)->m.Pairwise (· < ·)->(∀z,z∈l↔z∈m)->l=m
 |[],[],_,_,_=>rfl
 |[],y::m,_,_,h=>by have:=(h y).2 (by simp);cases this
 |x::l,[],_,_,h=>by have:=(h x).1 (by simp);cases this
 |x::l,y::m,hl,hm,h=>by
  obtain ⟨h1,h2⟩:=ZW.1 hl
  obtain ⟨g1,g2⟩:=ZW.1 hm
  have e:x=y:=by
   have a:=(h x).1 (by simp)
   have b:=(h y).2 (by simp)
   simp only [ZI] at a b
   rcases a with a|a
   ·exact a
   ·rcases b with b|b
    ·exact b.symm
    ·have:=g1 x a
     have:=h1 y b
     omega
  subst e
  rw [q0f4 h2 g2 fun z=> ?_]
  constructor
  ·intro hz
   have:=(h z).1 (by simp [hz])
   simp only [ZI] at this
   rcases this with rfl|this
   ·have:=h1 z hz;omega
   ·exact this
  ·intro hz
   have:=(h z).2 (by simp [hz])
   simp only [ZI] at this
   rcases this with rfl|this
   ·have:=g1 z hz;omega
   ·exact this
theorem q0tq (z:Int) (l:List Int):z∈isort l↔z∈l:=by
 rw [<-List.count_pos_iff,<-List.count_pos_iff,q0d3]
theorem q0x9 (l:List Float) (x y:C3) (ok:okT l x y):tkT x y ⟨0,0,0⟩ 0 l=takeL l x y:=by
 refine q0f4 (q06l x y l _ _) (q0m4 l x y) fun z=> ?_
 obtain ⟨⟨a1,a2,-⟩,⟨b1,b2,-⟩,⟨c1,c2,-⟩⟩:=ok
 rw [q0gy]
 unfold takeL raw
 rw [q0tq,ZY,ZY]
 simp only [Int.sub_zero]
 rw [q0ls _ _ _ a1 a2,q0ls _ _ _ b1 b2,q0ls _ _ _ c1 c2,or_assoc]
end Go.EnvOf
