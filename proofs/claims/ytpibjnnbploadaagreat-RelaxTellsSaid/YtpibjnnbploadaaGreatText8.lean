/- The program's functions and the document's, evaluated. -/
import Derived.Test.YtpibjnnbploadaaGreatText7
import Derived.Test.YtpibjnnbploadaaGreatText4
import Derived.Test.YtpibjnnbploadaaGreatText6
import Derived.Test.YtpibjnnbploadaaGreatText2
set_option linter.unusedSimpArgs false
set_option linter.unusedVariables false
namespace Go.EnvOf
open Go Go.Eng
set_option maxRecDepth 100000
abbrev textH (j:Job):Heap:=[DObj.box [q006 j.items,q00k j.items,vMapW j.items j.floats]]
def nwS (j:Job) (i:Nat):St:=
 ⟨[(1,.lptr 1 0),(6,.lptr 35 0),(53,vI (j.notes.length+1)),(54,vI i)],[(1,cJobW j),(35,.ptr 0 0::(cJobW j++[q00e 1 ((List.range i).map fun k=>lineN (j.notes.take k)),vI (allS j).a,vI (allS j).b,vI (allS j).c]))],
   textH j++rowsG 1 encI ((List.range i).map fun k=>lineN (j.notes.take k)),0,[]⟩
def nwX (j:Job):Ex×St:=
 (.exit 0,⟨[(1,.lptr 1 0),(6,.lptr 35 0),(53,vI (j.notes.length+1)),(54,vI (j.notes.length+1)),(55,vB false)],[(1,cJobW j),(35,.ptr 0 0::(cJobW j++[q00e 1 (preN j.notes),vI (allS j).a,vI (allS j).b,vI (allS j).c]))],
  textH j++rowsG 1 encI (preN j.notes),0,[]⟩)
theorem nw_lp (j:Job) (n2:j.notes.length≤1000000) (hn: ∀n∈j.notes,n.lines.length≤1000000):evD EE q0g6 (nwS j 0)=some (nwX j):=by
 unfold q0g6
 refine Eq.trans (q017 (List.range (j.notes.length+1)) (fun (_:Unit) i=>nwS j i) (fun _ _=>True) (fun _ _ _=>()) (fun _=>nwX j) (fun _ _=>rfl) ?_ ?_ () 0 trivial (Nat.zero_le _)) rfl
 ·rintro _ i x-hx
  refine ⟨?_,trivial⟩
  have hlt:i<j.notes.length+1:=by have:=(List.getElem?_eq_some_iff.1 hx).1;simpa using this
  have w:IntKind.i64.wrap ((i:Int)+1)=((i+1:Nat):Int):=w64 (by omega) (by omega)
  have hl2:(i:Int)<(j.notes.length:Int)+1:=by omega
  have sc:=fun H k=>q0sm q00h j.notes i 2 (fun _=>rfl) H k (by omega)
  have lb:=q0sl (j.notes.take i) (fun n h=>hn n (List.mem_of_mem_take h))
  have ll:(j.notes.take i).length≤1000000:=by rw [List.length_take];omega
  have nl:=fun H=>q0i0 (j.notes.take i) H ll (by omega)
  have ha:=fun env loc=>q070 env loc (textH j) 0 [] 1 encI ((List.range i).map fun k=>lineN (j.notes.take k)) (lineN (j.notes.take i)) rfl (by simp;unfold most;omega) (Nat.zero_le _)
  have er:(List.range (i+1)).map (fun k=>lineN (j.notes.take k))=(List.range i).map (fun k=>lineN (j.notes.take k))++[lineN (j.notes.take i)]:=by simp [List.range_succ]
  unfold nwS
  rw [er]
  generalize (List.range i).map (fun k=>lineN (j.notes.take k))=M at*
  generalize lineN (j.notes.take i)=y at*
  simp only [textH,List.length_cons,List.length_nil,Nat.zero_add,encI] at ha
  simp only [q00j,List.map_take] at nl sc
  simp only [textH,cJobW,cGeom,List.cons_append,List.nil_append,encI] at ha⊢
  simp [-q06u,hl2,subs,q001,w,sc,nl,ha]
 ·rintro _-
  simp only [nwS,nwX,List.length_range,preN,cJobW,cGeom,List.cons_append,List.nil_append]
  simp
theorem q0vi (j:Job) (ok:okJob j) (okS:okJob (snapG j)) (hp: ∀n∈(snapG j).notes,n.lines.length≤1000000∧n.pens.length≤1000000):
  zR (clD EE (.p (.fn 17)) [vJob j] [])=some (if (q023 j).1=0 then .tup [vW (snapG j),vB true] else .tup [.p .nilp,vB false]):=by
 rw [q002 _ _ _ _ _ _ (noP _) fn17]
 have hr:=fun H=>q0f7 j ok (q0ag ok.n3) H
 have hs:=fun H=>q0k0 j ok H
 have hc:=fun H=>q0p4 (snapG j) okS.n1 okS.n2 okS.n3 hp H
 by_cases h:(q023 j).1=0
 ·rw [if_pos h]
  have r:=(q0ed j).1 h
  have hs2:=q0p2 (snapG j).items (by rw [q0of];have:=r.n1;omega) (q0eh r)
  have hv:=q0lj (snapG j).items okS.n1
  have ha:=q0p3 (snapG j).items (snapG j).floats okS.n1
  have hal:=fun H=>q0rt (snapG j).items (snapG j).floats (snapG j).items.length H
  have e:q00q (snapG j).floats ((snapG j).items.take (putN (snapG j).items (snapG j).items.length))=allS (snapG j):=by
   rw [q0v2 (Nat.le_refl _),List.take_length];rfl
  simp only [e] at hal
  have k:=nw_lp (snapG j) okS.n2 (fun n hn=>(hp n hn).1)
  have w:IntKind.i64.wrap (((snapG j).notes.length:Int)+1)=((snapG j).notes.length:Int)+1:=w64 (by have:=okS.n2;omega) (by have:=okS.n2;omega)
  simp only [h,decide_true] at hr
  have hne:preN (snapG j).notes≠[]:=by simp [preN]
  have hlen:(preN (snapG j).notes).length=(snapG j).notes.length+1:=by simp [preN]
  generalize snapG j=J at*
  have f1:=fun R T=>q03g (H:=R::DObj.row 1 (upV ((preN J.notes).map encI))::T) (id:=1) (n:=(preN J.notes).length) rfl (by simp)
  simp only [nwS,nwX,textH,cJobW,cGeom,List.cons_append,List.nil_append,q00e,rowsG,if_neg hne,List.range_zero,List.map_nil,if_true] at k
  simp only [vJob,cGeom,List.cons_append,List.nil_append] at hr hs hc⊢
  simp at k
  simp [St.enter,q000,subs,q001,solN,sd,hr,hs,hc,hs2,hv,ha,hal,w,k,allO,f1,vW,q00t]
 ·rw [if_neg h]
  have hb:decide ((q023 j).1=0)=false:=by simpa using h
  rw [hb] at hr
  simp only [vJob,cGeom,List.cons_append,List.nil_append] at hr⊢
  simp [St.enter,q000,subs,q001,hr,allO]
section
variable (j:Job) (w:okW j)
include w in
include w in
end
abbrev zJobC:List V:=[vI 0,vI 0,vI 0,vI 0,vI 0,vI 0,vI 0,vI 0,vI 0,vI 0,vI 0,vI 0,vI 0,vI 0,vI 0,vI 0,vI 0,vI 0,vB false,.p (.sl []),.p (.sl []),.p (.sl [])]
theorem q0p5 (j:Job) (ok:okJob j) (H:Heap):clD EE (.p (.fn 18)) [vJob j] H=some (if (q023 j).1=0 then .agg (cJobW (snapG j)++[vB true]) else .agg (zJobC++[vB false]),none):=by
 rw [q002 _ _ _ _ _ _ (noP _) fn18]
 have hc:=fun H=>q0df j ok (q0ag ok.n3) H
 have hs:=fun H=>q0hf j ok H
 simp only [vJob,cGeom,List.cons_append,List.nil_append] at hc hs⊢
 by_cases h:(q023 j).1=0
 ·simp [St.enter,q000,subs,q001,fldvV,hc,hs,h]
 ·simp [St.enter,q000,subs,q001,fldvV,hc,h]
theorem q0vj {x:Item} (s:Int) (h:q05w x):q05w (itemG s x):=by
 have z:I64 0:=⟨by omega,by omega⟩
 unfold itemG
 split
 ·exact ⟨h.1,q05g h.2.1,h.2.2⟩
 ·split
  ·exact ⟨h.1,q0nn h.2.1,h.2.2.1,z,z,z,h.2.2.2.2.2.2⟩
  ·exact h
theorem q0p6 {j:Job} (h:jobI j):jobI (snapG j):=by
 unfold snapG
 split
 ·exact h
 ·have hg:=h.g
  simp only [q095] at hg
  refine ⟨⟨hg.1,hg.2.1,hg.2.2.1,q08x hg.2.2.2.1,q08x hg.2.2.2.2.1,hg.2.2.2.2.2.1,q05g hg.2.2.2.2.2.2.1,q05g hg.2.2.2.2.2.2.2.1,hg.2.2.2.2.2.2.2.2⟩,?_,?_,?_⟩
  ·intro x hx
   obtain ⟨y,hy,rfl⟩:=List.mem_map.1 hx
   exact q0vj _ (h.items y hy)
  ·intro n hn x hx
   obtain ⟨m,hm,rfl⟩:=List.mem_map.1 hn
   obtain ⟨y,hy,rfl⟩:=List.mem_map.1 hx
   exact q05g (h.notes m hm y hy)
  ·intro x hx
   obtain ⟨y,hy,rfl⟩:=List.mem_map.1 hx
   exact ⟨(h.floats y hy).1,q05g (h.floats y hy).2.1,(h.floats y hy).2.2⟩
section
variable {j:Job} (hf:fairF j=true)
include hf
end
theorem q0xl {j:Job} (r:Right j) (sm:small (snapG j)):okW (snapG j):=by
 obtain ⟨f,hf,hk⟩:=q0le j
 have hg:=q0eg r.g
 have hn:=q0b5 5 j.notes.length j.items 0 0 (Nat.zero_le _) r.r5
 have h5:cnt 5 (snapG j).items=cnt 5 j.items:=by rw [hf];exact q0v5 5 f (fun x=>(hk x).1) _
 refine ⟨by have:=sm.items;omega,by have:=sm.notes;omega,by have:=sm.floats;omega,fun n hn=>by have:=sm.each n hn;omega,?_,?_⟩
 ·rw [q0og];exact ⟨⟨by omega,by omega⟩,by omega⟩
 ·rw [q0oe];unfold q01b;omega
theorem q0xm (H:Heap) (l:List Int) (hl:l.length≤1000000) (st0:Int×Int):
  evD EE q0ct (coE H (sli l) l.length st0 0)=some (coX H (sli l) l.length (fold coS st0 0 l)):=by
 unfold q0ct
 refine q017 l (fun st i=>coE H (sli l) l.length st i) (fun _ _=>True) coS (fun st=>coX H (sli l) l.length st) (fun _ _=>rfl) ?_ ?_ st0 0 trivial (Nat.zero_le _)
 ·rintro st i x-hx
  refine ⟨?_,trivial⟩
  have hlt:=(List.getElem?_eq_some_iff.1 hx).1
  have w:IntKind.i64.wrap ((i:Int)+1)=((i+1:Nat):Int):=w64 (by omega) (by omega)
  have hix:=fun H k=>q00o H encI (k:=k) (s:=1) hx rfl
  simp only [encI] at hix
  have p:=q0oq H.length st.1 st.2 0 x (H++[.box [vI st.1,vI st.2]]) (by simp)
  rw [←q0hs] at p
  have ad:addD H.length H.length []=[]:=by unfold addD;rw [if_neg (by omega)]
  simp [coE,coS,hlt,hix,encI,subs,q001,w,p,ad]
 ·rintro st-
  refine ⟨?_,by simp [coX]⟩
  simp [coE,coX]
theorem q0ly (H:Heap) (over:Bool) (l:List Int) (hl:l.length≤1000000):
  clD EE (.p (.fn 185)) [vB over,sli l] H=some (vCost (q05z over l).1 (q05z over l).2,none):=by
 rw [q002 _ _ _ _ _ _ (noP _) fn185]
 have ad:addD H.length H.length []=[]:=by unfold addD;rw [if_neg (by omega)]
 have sc:=fun a b=>q0lo H.length a b (H++[.box [vI a,vI b]]) (by simp)
 have a1:addM 0 1=1:=by decide
 have a0:addM 0 0=0:=by decide
 have k:=fun st=>q0xm H l hl st
 unfold q05z
 cases over with
 |true=>
  have p:=q0oq H.length 0 0 1 0 (H++[.box [vI 0,vI 0]]) (by simp)
  rw [←q0hs] at p
  have k1:=k (1,0)
  simp only [if_true]
  generalize fold coS (1,0) 0 l=q at*
  simp [coE,coX,coFn] at k1 p
  simp [St.enter,q000,subs,q001,p,a1,a0,ad,k1,sc]
 |false=>
  have k1:=k (0,0)
  simp only [Bool.false_eq_true,if_false]
  generalize fold coS (0,0) 0 l=q at*
  simp [coE,coX,coFn] at k1
  simp [St.enter,q000,subs,q001,ad,k1,sc]
def overX (j:Job) (at_ to:Int):Bool:=decide ((q04h (sumT j.items at_ to) j.g.high false).how=3)
def textX (j:Job) (at_ to:Int):Option (Int×Int):=if overX j at_ to=true∧to≠q02v j.items at_ then none else some (q05z (overX j at_ to) [paraF j.g j.items to])
def trimX (l:List Item) (at_:Int):Bool:=decide (0≤at_)&&decide (at_≤l.length)&&decide ((trimF l at_:Int)=at_)
def q04i (j:Job) (at_ to:Int):Option (Int×Int):=if trimX j.items at_=true∧(brkF j.items at_).contains to=true then textX j at_ to else none
abbrev vCO (c:Option (Int×Int)):V:= .tup [vCost (c.getD (0,0)).1 (c.getD (0,0)).2,vB c.isSome]
abbrev vRes (c:Option (Int×Int)):V:= .agg [vI (c.getD (0,0)).1,vI (c.getD (0,0)).2,vB c.isSome]
section
variable (j:Job) (n1:j.items.length≤1000000) (hf: ∀x∈j.items,fairI x)
include n1 hf in
theorem q0i1 (at_ to:Int) (H:Heap):clD EE (.p (.fn 85)) [vW j,vI at_,vI to] H=some (vCO (textX j at_ to),none):=by
 rw [q002 _ _ _ _ _ _ (noP _) fn85]
 have pl:=fun H=>q0ru j H
 have wl:=fun H=>q04r j H
 have ws:=fun H=>q0ry j H
 have so:=fun H=>q0om j.items n1 hf at_ to H
 have gs:=fun H=>q0oo (sumT j.items at_ to) j.g.high false H
 have fi:=fun H=>q09c j.items n1 at_ H
 have pa:=fun H=>q0s1 j.g j.items n1 to H
 have co:=fun b H=>q0ly H b [paraF j.g j.items to] (by simp)
 unfold textX
 have e:overX j at_ to=decide ((q04h (sumT j.items at_ to) j.g.high false).how=3):=rfl
 generalize overX j at_ to=O at*
 generalize q04h (sumT j.items at_ to) j.g.high false=G at*
 generalize sumT j.items at_ to=T at*
 generalize paraF j.g j.items to=P at*
 generalize q02v j.items at_=F at*
 simp only [vJob,vGeom,cGeom,List.cons_append,List.nil_append,sli,List.map_cons,List.map_nil,encI] at pl pa co
 by_cases g:G.how=3
 ·rw [decide_eq_true g] at e
  subst e
  by_cases q:to=F
  ·subst q
   rw [if_neg (fun h=>h.2 rfl)]
   simp [St.enter,q000,subs,q001,fldvV,pl,wl,ws,so,gs,fi,pa,co,g]
  ·rw [if_pos ⟨rfl,q⟩]
   simp [St.enter,q000,subs,q001,fldvV,pl,wl,ws,so,gs,fi,g,q]
 ·rw [decide_eq_false g] at e
  subst e
  rw [if_neg (fun h=>by cases h.1)]
  simp [St.enter,q000,subs,q001,fldvV,pl,wl,ws,so,gs,pa,co,g]
include n1 in
theorem q0i2 (at_:Int) (H:Heap):clD EE (.p (.fn 83)) [vW j,vI at_] H=some (vB (trimX j.items at_),none):=by
 rw [q002 _ _ _ _ _ _ (noP _) fn83]
 have wl:=fun H=>q04r j H
 have l2:=fun H=>q01h j.items H
 have tr:=fun H=>q0k4 j.items at_ n1 H
 have nq:eqnV NK.ptr true (vW j)=some (vB true):=rfl
 unfold trimX
 by_cases a:0≤at_
 ·by_cases b:at_≤j.items.length
  ·simp [St.enter,q000,nq,wl,l2,tr,a,b]
  ·simp [St.enter,q000,nq,wl,l2,a,b]
 ·simp [St.enter,q000,nq,a]
end
theorem q0p7 (l:List Int) (x:Int) (hl:l.length≤1000000) (H:Heap):evD EE q0d1 ⟨[(0,sli l),(1,vI x),(7,vI l.length),(8,vI 0)],[],H,H.length,[]⟩=
  some (rng (fun (_:Unit) i y=>if x=y then .inr (Ex.ret,(⟨[(4,vI i)],[],H,H.length,[]⟩:St)) else .inl ()) (fun _=>(Ex.exit 0,(⟨[(0,sli l),(1,vI x),(7,vI l.length),(8,vI l.length),(9,vB false)],[],H,H.length,[]⟩:St))) () 0 l):=by
 unfold q0d1
 refine q01g l (fun (_:Unit) i=>⟨[(0,sli l),(1,vI x),(7,vI l.length),(8,vI i)],[],H,H.length,[]⟩) (fun _ _=>True) _ _ (fun _ _=>rfl) ?_ ?_ () 0 trivial (Nat.zero_le _)
 ·rintro _ i y-hx
  have hlt:=(List.getElem?_eq_some_iff.1 hx).1
  have w:IntKind.i64.wrap ((i:Int)+1)=((i+1:Nat):Int):=w64 (by omega) (by omega)
  have hix:=fun H k=>q00o H encI (k:=k) (s:=1) hx rfl
  simp only [encI] at hix
  by_cases c:x=y
  ·simp [hlt,hix,encI,subs,c]
  ·simp [hlt,hix,encI,subs,c,w]
 ·rintro _-
  simp
theorem q07r (x:Int) (H:Heap) (fin:Ex×St): ∀(l:List Int) (i:Nat),(l.contains x=false→rng (fun (_:Unit) i y=>if x=y then .inr (Ex.ret,(⟨[(4,vI i)],[],H,H.length,[]⟩:St)) else .inl ()) (fun _=>fin) () i l=fin)∧
  (l.contains x=true→ ∃k:Nat,rng (fun (_:Unit) i y=>if x=y then .inr (Ex.ret,(⟨[(4,vI i)],[],H,H.length,[]⟩:St)) else .inl ()) (fun _=>fin) () i l=(Ex.ret,⟨[(4,vI k)],[],H,H.length,[]⟩))
 |[],i=>by simp [rng]
 |y::r,i=>by
  have ih:=q07r x H fin r (i+1)
  simp only [rng]
  by_cases c:x=y
  ·subst c
   simp only [if_true]
   refine ⟨fun h=>by simp at h,fun _=>⟨i,rfl⟩⟩
  ·simp only [if_neg c]
   have e:(y::r).contains x=r.contains x:=by simp [c]
   rw [e];exact ih
theorem q0p8 (l:List Int) (x:Int) (hl:l.length≤1000000) (H:Heap):clD EE (.p (.fn 89)) [sli l,vI x] H=some (vB (l.contains x),none):=by
 rw [q002 _ _ _ _ _ _ (noP _) fn89]
 have key:=fun H=>q0p7 l x hl H
 cases c:l.contains x with
 |false=>
  have i: ∀H,clD EE (.p (.fn 221)) [sli l,vI x] H=some (vI (-1),none):=by
   intro H
   rw [q002 _ _ _ _ _ _ (noP _) fn221]
   have k:=key H
   rw [(q07r x H _ l 0).1 c] at k
   simp [St.enter,q000,k]
  simp [St.enter,q000,i]
 |true=>
  have i: ∀H,∃k:Nat,clD EE (.p (.fn 221)) [sli l,vI x] H=some (vI k,none):=by
   intro H
   rw [q002 _ _ _ _ _ _ (noP _) fn221]
   have k:=key H
   obtain ⟨z,hz⟩:=(q07r x H (Ex.exit 0,⟨[(0,sli l),(1,vI x),(7,vI l.length),(8,vI l.length),(9,vB false)],[],H,H.length,[]⟩) l 0).2 c
   rw [hz] at k
   exact ⟨z,by simp [St.enter,q000,k]⟩
  obtain ⟨z,hz⟩:=i H
  have z0:(0:Int)≤z:=by omega
  simp [St.enter,q000,hz,z0]
theorem q0b8 (l:List Item) (a:Int):(brkF l a).length≤l.length:=by
 unfold brkF brkN
 rw [List.length_map]
 refine Nat.le_trans (List.length_filter_le _ _) ?_
 rw [List.length_range'];omega
section
variable (j:Job) (n1:j.items.length≤1000000) (hf: ∀x∈j.items,fairI x)
include n1 hf in
theorem q0p9 (at_ to:Int) (H:Heap):clD EE (.p (.fn 21)) [vW j,vI at_,vI to] H=some (vCO (q04i j at_ to),none):=by
 rw [q002 _ _ _ _ _ _ (noP _) fn21]
 have tx:=fun H=>q0i1 j n1 hf at_ to H
 have tr:=fun H=>q0i2 j n1 at_ H
 have wl:=fun H=>q04r j H
 have br:=fun H=>q0el j.items n1 at_ H
 have hs:=fun H=>q0p8 (brkF j.items at_) to (by have:=q0b8 j.items at_;omega) H
 unfold q04i
 generalize textX j at_ to=T at*
 generalize brkF j.items at_=B at*
 cases c1:trimX j.items at_ with
 |false=>simp [St.enter,q000,subs,q001,tr,c1]
 |true=>
  cases c2:B.contains to with
  |false=>rw [c2] at hs;simp [St.enter,q000,subs,q001,tr,c1,wl,br,hs]
  |true=>rw [c2] at hs;cases T<;>simp [St.enter,q000,subs,q001,tr,c1,wl,br,hs,tx]
def rrE (j:Job) (at_ to:Int) (H:Heap) (B:List Int) (b:Bool) (i:Nat):St:=⟨[(1,vI at_),(2,vI to),(3,.lptr 3 0),(6,.lptr 6 0),(7,q004 j.items),(8,sli B),(9,vB b),(10,vI i)],[(3,cJobW j),(6,[vI 0,vI 0,vB false])],H,H.length,[]⟩
def rrX (j:Job) (at_ to:Int) (H:Heap) (B:List Int) (b:Bool):Ex×St:=(.exit 0,⟨[(1,vI at_),(2,vI to),(3,.lptr 3 0),(6,.lptr 6 0),(7,q004 j.items),(8,sli B),(9,vB b),(10,vI B.length),(37,vB false)],[(3,cJobW j),(6,[vI 0,vI 0,vB false])],H,H.length,[]⟩)
theorem rr_lp (at_ to:Int) (H:Heap) (B:List Int) (hB:B.length≤1000000):evD EE q0g9 (rrE j at_ to H B false 0)=some (rrX j at_ to H B (B.contains to)):=by
 unfold q0g9
 refine Eq.trans (q017 B (fun b i=>rrE j at_ to H B b i) (fun _ _=>True) (fun b _ x=>b||decide (x=to)) (fun b=>rrX j at_ to H B b) (fun _ _=>rfl) ?_ ?_ false 0 trivial (Nat.zero_le _)) ?_
 ·rintro b i x-hx
  refine ⟨?_,trivial⟩
  have hlt:=(List.getElem?_eq_some_iff.1 hx).1
  have w:IntKind.i64.wrap ((i:Int)+1)=((i+1:Nat):Int):=w64 (by omega) (by omega)
  have hix:=fun H k=>q00o H encI (k:=k) (s:=1) hx rfl
  simp only [encI] at hix
  cases b<;>simp [rrE,hlt,hix,encI,subs,w]
 ·rintro b-
  simp [rrE,rrX]
 ·have: ∀(l:List Int) (b:Bool) (i:Nat),fold (fun b _ x=>b||decide (x=to)) b i l=(b||l.contains to):=by
   intro l
   induction l with
   |nil=>intro b i;simp [fold]
   |cons x r ih=>
    intro b i
    simp only [fold,ih,List.contains_cons]
    by_cases c:x=to
    ·subst c;cases b<;>simp
    ·have c':(to==x)=false:=by simp;omega
     cases b<;>simp [c,c']
  rw [List.drop_zero,this,Bool.false_or]
include n1 hf in
theorem q0cm (at_ to:Int) (H:Heap):clD EE (.p (.fn 22)) [vJob j,vI at_,vI to] H=some (vRes (q04i j at_ to),none):=by
 rw [q002 _ _ _ _ _ _ (noP _) fn22]
 have tr:=fun H=>q0b6 j.items at_ n1 H
 have br:=fun H=>q0lt j.items n1 at_ H
 have k:=fun H=>rr_lp j at_ to H (brkF j.items at_) (by have:=q0b8 j.items at_;omega)
 have so:=fun H=>q0oy j.items n1 hf at_ to H
 have gs:=fun H=>q0lx (sumT j.items at_ to) j.g.high false H
 have fi:=fun H=>q0ls j.items n1 at_ H
 have pa:=fun H=>q0s9 j.g j.items n1 to H
 have co:=fun b H=>q0lp b [paraF j.g j.items to] (by simp) H
 unfold q04i textX trimX
 have e:overX j at_ to=decide ((q04h (sumT j.items at_ to) j.g.high false).how=3):=rfl
 have hend:at_=j.items.length→(brkF j.items at_).contains to=false:=by
  intro h
  have:brkF j.items at_=[]:=by
   unfold brkF brkN pos
   rw [show j.items.length-(max at_ 0).toNat=0 by omega];rfl
  rw [this];rfl
 generalize overX j at_ to=O at*
 generalize q04h (sumT j.items at_ to) j.g.high false=G at*
 generalize sumT j.items at_ to=T at*
 generalize paraF j.g j.items to=P at*
 generalize q02v j.items at_=F at*
 generalize brkF j.items at_=B at*
 simp only [vGeom,cGeom,sli,List.map_cons,List.map_nil,encI] at pa co
 simp only [rrE,rrX,cJobW,cGeom,List.cons_append,List.nil_append] at k
 simp at k
 simp only [vJob,cGeom,List.cons_append,List.nil_append]
 by_cases a:at_<0
 ·simp [St.enter,q000,subs,q001,a,show¬0≤at_ by omega]
 ·by_cases b:(j.items.length:Int)≤at_
  ·have e2: ¬((decide (0≤at_)&&decide (at_≤(j.items.length:Int))&&decide ((trimF j.items at_:Int)=at_))=true∧B.contains to=true):=by
    rintro ⟨h1,h2⟩
    simp at h1
    rw [hend (by omega)] at h2;cases h2
   rw [if_neg e2]
   simp [St.enter,q000,subs,q001,a,b]
  ·by_cases t:(trimF j.items at_:Int)=at_
   ·cases c2:B.contains to with
    |false=>
     rw [if_neg (fun h=>by cases h.2)]
     simp at c2
     simp [St.enter,q000,subs,q001,a,b,t,tr,br,k,c2]
    |true=>
     have e1:(decide (0≤at_)&&decide (at_≤(j.items.length:Int))&&decide ((trimF j.items at_:Int)=at_))=true:=by simp [t];omega
     rw [if_pos ⟨e1,rfl⟩]
     simp at c2
     by_cases g:G.how=3
     ·rw [decide_eq_true g] at e
      subst e
      by_cases q:to=F
      ·subst q
       rw [if_neg (fun h=>h.2 rfl)]
       simp [St.enter,q000,subs,q001,fldvV,a,b,t,tr,br,k,c2,so,gs,fi,pa,co,g]
      ·rw [if_pos ⟨rfl,q⟩]
       simp [St.enter,q000,subs,q001,fldvV,a,b,t,tr,br,k,c2,so,gs,fi,g,q]
     ·rw [decide_eq_false g] at e
      subst e
      rw [if_neg (fun h=>by cases h.1)]
      simp [St.enter,q000,subs,q001,fldvV,a,b,t,tr,br,k,c2,so,gs,pa,co,g]
   ·rw [if_neg (fun h=>by have:=h.1;simp at this;omega)]
    simp [St.enter,q000,subs,q001,a,b,t,tr]
end
theorem q0pa (a:Int) (H:Heap):clD EE (.p (.fn 414)) [vI a] H=some (vB false,none):=by
 rw [q002 _ _ _ _ _ _ (noP _) fn414]
 simp [St.enter,q000]
theorem q0vk (a b:Int) (H:Heap):clD EE (.p (.fn 349)) [vI a,vI b] H=some (vI (cmp1 a b),none):=by
 rw [q002 _ _ _ _ _ _ (noP _) fn349]
 have n1:=fun H=>q0pa a H
 have n2:=fun H=>q0pa b H
 unfold cmp1
 by_cases h1:a<b
 ·simp [St.enter,q000,n1,n2,h1]
 ·by_cases h2:b<a
  ·simp [St.enter,q000,n1,n2,h1,h2]
  ·simp [St.enter,q000,n1,n2,h1,h2]
def orE (l:List Int) (H:Heap) (i:Nat):St:=⟨[(3,vI 0),(6,sli l),(7,vI l.length),(8,vI i)],[],H,H.length,[]⟩
def orX (l:List Int) (H:Heap):Ex×St:=(.exit 0,⟨[(3,vI 0),(6,sli l),(7,vI l.length),(8,vI l.length),(9,vB false)],[],H,H.length,[]⟩)
def orS (H:Heap) (_:Unit) (_:Nat) (x:Int):Unit⊕(Ex×St):=if x=0 then .inl () else .inr (.ret,⟨[(2,vI x)],[],H,H.length,[]⟩)
theorem or_lp (l:List Int) (H:Heap) (hl:l.length≤1000000):evD EE q0d5 (orE l H 0)=some (rng (orS H) (fun _=>orX l H) () 0 l):=by
 unfold q0d5
 refine q01g l (fun (_:Unit) i=>orE l H i) (fun _ _=>True) (orS H) (fun _=>orX l H) (fun _ _=>rfl) ?_ ?_ () 0 trivial (Nat.zero_le _)
 ·rintro _ i x-hx
  have hlt:=(List.getElem?_eq_some_iff.1 hx).1
  have w:IntKind.i64.wrap ((i:Int)+1)=((i+1:Nat):Int):=w64 (by omega) (by omega)
  have hix:=fun H k=>q00o H encI (k:=k) (s:=1) hx rfl
  by_cases h:x=0
  ·simp only [orS,if_pos h]
   simp [orE,hlt,hix,encI,subs,w,h]
  ·simp only [orS,if_neg h]
   simp [orE,hlt,hix,encI,subs,w,h]
 ·rintro _-
  simp [orE,orX]
theorem q0pb (H:Heap) (fin:Ex×St): ∀(l:List Int) (i:Nat),rng (orS H) (fun _=>fin) () i l=if orL l=0 then fin else (.ret,⟨[(2,vI (orL l))],[],H,H.length,[]⟩)
 |[],_=>by simp [rng,orL]
 |x::r,i=>by
  simp only [rng,orS,orL]
  by_cases h:x=0
  ·simp only [if_pos h];exact q0pb H fin r (i+1)
  ·simp only [if_neg h]
theorem q0sn (l:List Int) (H:Heap) (hl:l.length≤1000000):clD EE (.p (.fn 348)) [sli l] H=some (vI (orL l),none):=by
 rw [q002 _ _ _ _ _ _ (noP _) fn348]
 have k:=or_lp l H hl
 rw [q0pb] at k
 by_cases h:orL l=0
 ·rw [if_pos h] at k
  simp [orE,orX] at k
  simp [St.enter,q000,k,h]
 ·rw [if_neg h] at k
  simp [orE] at k
  simp [St.enter,q000,k]
def encCo (c:Int×Int):List PV:=[.int .i64 c.1,.int .i64 c.2]
@[simp] theorem q0Gk (c:Int×Int):(encCo c).length=2:=rfl
def cmpCo (a b:Int×Int):Int:=lexC [a.1,a.2] [b.1,b.2]
theorem q0i3 (a:Int) (H:Heap):clD EE (.p (.fn 415)) [vI a] H=some (vB false,none):=by
 rw [q002 _ _ _ _ _ _ (noP _) fn415]
 simp [St.enter,q000]
theorem q0pc (a b:Int) (H:Heap):clD EE (.p (.fn 350)) [vI a,vI b] H=some (vI (cmp1 a b),none):=by
 rw [q002 _ _ _ _ _ _ (noP _) fn350]
 have n1:=fun H=>q0i3 a H
 have n2:=fun H=>q0i3 b H
 unfold cmp1
 by_cases h1:a<b
 ·simp [St.enter,q000,n1,n2,h1]
 ·by_cases h2:b<a
  ·simp [St.enter,q000,n1,n2,h1,h2]
  ·simp [St.enter,q000,n1,n2,h1,h2]
theorem q0pd (a b:Int×Int) (H:Heap):clD EE (.p (.fn 220)) [vCost a.1 a.2,vCost b.1 b.2] H=some (vI (cmpCo a b),none):=by
 rw [q002 _ _ _ _ _ _ (noP _) fn220]
 have c1:=fun H=>q0vk a.1 b.1 H
 have c2:=fun H=>q0pc a.2 b.2 H
 have o:=fun H=>q0sn [cmp1 a.1 b.1,cmp1 a.2 b.2] H (by simp)
 have e:orL [cmp1 a.1 b.1,cmp1 a.2 b.2]=cmpCo a b:=by
  unfold cmpCo
  simp only [orL,lexC]
 rw [e] at o
 simp only [sli,List.map_cons,List.map_nil,encI] at o
 simp [St.enter,q000,subs,q001,c1,c2,o]
def leS (l:List (Int×Int)) (a:Int) (i:Nat) (x:Int×Int):Int:=if a<0∨cmpCo x (rd l a)<0 then i else a
def leO (o:Option (Int×Int)) (_:Nat) (x:Int×Int):Option (Int×Int):=match o with|none=>some x|some y=>if cmpCo x y<0 then some x else some y
def q052 (l:List (Int×Int)):Int:=fold (leS l) (-1) 0 l
def q053 (l:List (Int×Int)):Option (Int×Int):=fold leO none 0 l
theorem q0pe (l:List (Int×Int)):(q052 l= -1∧q053 l=none)∨(0≤q052 l∧q052 l<l.length∧q053 l=some (rd l (q052 l))):=by
 have key: ∀n,n≤l.length→(fold (leS l) (-1) 0 (l.take n)= -1∧fold leO none 0 (l.take n)=none)∨(0≤fold (leS l) (-1) 0 (l.take n)∧fold (leS l) (-1) 0 (l.take n)<n∧fold leO none 0 (l.take n)=some (rd l (fold (leS l) (-1) 0 (l.take n)))):=by
  intro n
  induction n with
  |zero=>intro _;left;simp [fold]
  |succ n ih=>
   intro hn
   have hx:l[n]? =some l[n]:=List.getElem?_eq_getElem (by omega)
   rw [q059 _ l _ 0 n _ hx,q059 _ l _ 0 n _ hx,Nat.zero_add]
   have hr:rd l (n:Int)=l[n]:=by
    have:=q028 l (n:Int) (by omega) (by omega)
    simp at this
    rw [hx] at this;simpa using this.symm
   rcases ih (by omega) with ⟨h1,h2⟩|⟨h1,h2,h3⟩
   ·rw [h1,h2]
    right
    unfold leS leO
    rw [if_pos (.inl (by omega)),hr]
    exact ⟨by omega,by omega,rfl⟩
   ·rw [h3]
    right
    unfold leS leO
    simp only
    by_cases c:cmpCo l[n] (rd l (fold (fun a i x=>if a<0∨cmpCo x (rd l a)<0 then (i:Int) else a) (-1) 0 (l.take n)))<0
    ·rw [if_pos (.inr c),if_pos c,hr];exact ⟨by omega,by omega,rfl⟩
    ·rw [if_neg (fun h=>by rcases h with h|h;exact absurd h1 (by unfold leS;omega);exact c h),if_neg c]
     exact ⟨h1,by unfold leS at h2;omega,rfl⟩
 have h:=key l.length (Nat.le_refl _)
 rw [List.take_length] at h
 exact h
def lsCE (v:V) (n:Nat) (H:Heap) (a:Int) (i:Nat):St:=⟨[(0,v),(1,.p (.fn 220)),(5,vI a),(8,v),(9,vI n),(10,vI i)],[],H,H.length,[]⟩
def lsCX (v:V) (n:Nat) (H:Heap) (a:Int):Ex×St:=(.exit 0,⟨[(0,v),(1,.p (.fn 220)),(5,vI a),(8,v),(9,vI n),(10,vI n),(11,vB false)],[],H,H.length,[]⟩)
theorem ls_lp (l:List (Int×Int)) (hl:l.length≤1000000) (id:Nat) (H:Heap) (hr:Go.Eng.rowAt H id=some (2,upV (l.map encCo))):
  evD EE q0d0 (lsCE (.row id l.length 0 l.length) l.length H (-1) 0)=some (lsCX (.row id l.length 0 l.length) l.length H (q052 l)):=by
 unfold q0d0
 refine q017 l (fun a i=>lsCE (.row id l.length 0 l.length) l.length H a i) (fun a i=> -1≤a∧a<i) (leS l) (fun a=>lsCX (.row id l.length 0 l.length) l.length H a) (fun _ _=>rfl) ?_ ?_ (-1) 0 ⟨by omega,by omega⟩ (Nat.zero_le _)
 ·rintro a i x ⟨h0,h1⟩ hx
  have hlt:=(List.getElem?_eq_some_iff.1 hx).1
  have w:IntKind.i64.wrap ((i:Int)+1)=((i+1:Nat):Int):=w64 (by omega) (by omega)
  have hix: ∀(n:Nat),n<l.length→ixsI H (.row id l.length 0 l.length) (vI n) 2=some (.rptr id l.length n 0):=fun n hn=>by
   rw [q013,hr,q0gx];simp [upV,hn]
  have hgx: ∀(n:Nat) (y:Int×Int),l[n]? =some y→ ∀h:n<(upV (l.map encCo)).length,(upV (l.map encCo))[n]'h=[vI y.1,vI y.2]:=fun n y hy h=>by
   have:(upV (l.map encCo))[n]? =some [vI y.1,vI y.2]:=by simp [upV,encCo,hy]
   exact (List.getElem?_eq_some_iff.1 this).2
  have g1:=hix i hlt
  have g2:=hgx i x hx
  have hul:(upV (l.map encCo)).length=l.length:=by simp [upV]
  refine ⟨?_,by unfold leS;split<;>omega⟩
  unfold leS
  by_cases c:a<0
  ·rw [if_pos (.inl c)]
   simp [lsCE,hlt,g1,g2,hr,hul,subs,q001,w,c]
  ·have ea:((a.toNat:Nat):Int)=a:=by omega
   have hy:=q028 l a (by omega) (by omega)
   have g3:=hix a.toNat (by omega)
   have g4:=hgx a.toNat _ hy
   rw [ea] at g3
   have oc:=fun H=>q0pd x (rd l a) H
   have ha:a.toNat<l.length:=by omega
   by_cases d:cmpCo x (rd l a)<0
   ·rw [if_pos (.inr d)]
    simp [lsCE,hlt,ha,g1,g2,g3,g4,hr,hul,subs,q001,w,c,oc,d]
   ·rw [if_neg (by rintro (h|h);exact c h;exact d h)]
    simp [lsCE,hlt,ha,g1,g2,g3,g4,hr,hul,subs,q001,w,c,oc,d]
 ·rintro a-
  refine ⟨?_,by simp [lsCX]⟩
  simp [lsCE,lsCX]
theorem q0so (l:List (Int×Int)) (hl:l.length≤1000000) (id:Nat) (H:Heap) (hr:Go.Eng.rowAt H id=some (2,upV (l.map encCo))):
  clD EE (.p (.fn 88)) [.row id l.length 0 l.length] H=some (vI (q052 l),none):=by
 rw [q002 _ _ _ _ _ _ (noP _) fn88]
 have k:clD EE (.p (.fn 219)) [.row id l.length 0 l.length,.p (.fn 220)] H=some (vI (q052 l),none):=by
  rw [q002 _ _ _ _ _ _ (noP _) fn219]
  have k:=ls_lp l hl id H hr
  simp [lsCE,lsCX] at k
  simp [St.enter,q000,k]
 simp [St.enter,q000,k]
def encM (T:List (Int×(Int×Int))):List (V×V):=T.map fun e=>(vI e.1,vCost e.2.1 e.2.2)
def lookT:List (Int×(Int×Int))→Int→Option (Int×Int)
 |[],_=>none
 |e::r,k=>if k=e.1 then some e.2 else lookT r k
theorem q068 (k:Int): ∀(T:List (Int×(Int×Int))) (i:Nat),∃n,findM none (vI k) (encM T) i=some ((lookT T k).map fun c=>(n,vCost c.1 c.2))
 |[],i=>⟨0,rfl⟩
 |e::r,i=>by
  obtain ⟨n,h⟩:=q068 k r (i+1)
  unfold encM at h⊢
  simp only [List.map_cons,findM,lookT]
  by_cases c:k=e.1
  ·refine ⟨i,?_⟩
   simp [eqKey,c]
  ·refine ⟨n,?_⟩
   simp [eqKey,c,h]
theorem lk_ev (H:Heap) (p:Nat) (T:List (Int×(Int×Int))) (k:Int) (h:mapAt H p=some (encM T)):lkmV H (.map p) (vI k) none (vCost 0 0) false=some (vCost ((lookT T k).getD (0,0)).1 ((lookT T k).getD (0,0)).2):=by
 obtain ⟨n,hn⟩:=q068 k T 0
 simp only [lkmV,keyB,mapEs,h,if_true,Option.bind_some,hn]
 cases lookT T k<;>rfl
theorem q0vl (H:Heap) (p:Nat) (T:List (Int×(Int×Int))) (k:Int) (h:mapAt H p=some (encM T)):lkmV H (.map p) (vI k) none (vCost 0 0) true=some (.tup [vCost ((lookT T k).getD (0,0)).1 ((lookT T k).getD (0,0)).2,vB (lookT T k).isSome]):=by
 obtain ⟨n,hn⟩:=q068 k T 0
 simp only [lkmV,keyB,mapEs,h,if_true,Option.bind_some,hn]
 cases lookT T k<;>rfl
theorem q0pf (H:Heap) (p:Nat) (T:List (Int×(Int×Int))) (k:Int) (c:Int×Int) (h:mapAt H p=some (encM T)) (hk:lookT T k=none):stmH H (vI k) (vCost c.1 c.2) none 2 (.map p)=some (.tup [],some (H.set p (.map (encM (T++[(k,c)]))),[p])):=by
 obtain ⟨n,hn⟩:=q068 k T 0
 rw [hk] at hn
 simp only [stmH,stmE,h,hn,Option.map_none,q0mb,q0mc]
 simp [encM,keyB]
def lookC (T:List (Int×(Int×Int))) (k:Int):Int×Int:=(lookT T k).getD (0,0)
def addCo (a b:Int×Int):Int×Int:=(addM a.1 b.1,addM a.2 b.2)
def candT (j:Job) (T:List (Int×(Int×Int))) (at_:Int) (L:List Int):List (Int×Int):=L.filterMap fun to=>(textX j at_ to).map fun c=>addCo c (lookC T (trimF j.items to))
def fromT (j:Job):Nat→List (Int×(Int×Int))
 |0=>[((j.items.length:Int),((0,0):Int×Int))]
 |i+1=>if trimX j.items ((j.items.length:Int)-1-i)=true then (match q053 (candT j (fromT j i) ((j.items.length:Int)-1-i) (brkF j.items ((j.items.length:Int)-1-i))) with|none=>fromT j i|some c=>fromT j i++[((j.items.length:Int)-1-i,c)]) else fromT j i
theorem q09d {K:Heap} (T:Heap) {p:Nat} {es:List (V×V)} (h:mapAt K p=some es):mapAt (K++T) p=some es:=by
 unfold mapAt at h⊢
 have:p<K.length:=by
  rcases Nat.lt_or_ge p K.length with g|g
  ·exact g
  ·rw [List.getElem?_eq_none g] at h;cases h
 rw [List.getElem?_append_left this];exact h
theorem q0sp {K:Heap} {p:Nat} {es:List (V×V)} (h:mapAt K p=some es):p<K.length:=by
 unfold mapAt at h
 rcases Nat.lt_or_ge p K.length with g|g
 ·exact g
 ·rw [List.getElem?_eq_none g] at h;cases h
theorem q0i4 (K:Heap) (id p:Nat) (o:DObj) (h:id≠p):mapAt (K.set id o) p=mapAt K p:=by unfold mapAt;rw [List.getElem?_set_ne h]
theorem q0pg (K:Heap) (p:Nat) (es:List (V×V)) (h:p<K.length):mapAt (K.set p (.map es)) p=some es:=by unfold mapAt;simp [h]
theorem rowAt_lt {K:Heap} {p:Nat} {x:Nat×List (List V)} (h:Go.Eng.rowAt K p=some x):p<K.length:=by
 unfold Go.Eng.rowAt at h
 rcases Nat.lt_or_ge p K.length with g|g
 ·exact g
 ·rw [List.getElem?_eq_none g] at h;cases h
section
variable (j:Job) (n1:j.items.length≤1000000) (hf: ∀x∈j.items,fairI x) (p B:Nat)
def ciE (at_ i:Int) (L:List Int) (K:Heap) (id:Nat) (acc:List (Int×Int)) (k:Nat):St:=
 ⟨[(0,vW j),(3,.lptr 16 0),(4,vI j.items.length),(6,vI at_),(7,.row id acc.length 0 acc.length),(29,vI j.items.length),(30,vI i),(44,sli L),(45,vI L.length),(46,vI k)],[(16,[vW j,.map p])],K,B,[]⟩
def ciR (T:List (Int×(Int×Int))) (at_ i:Int) (L:List Int) (id:Nat) (fin:List (Int×Int)) (k:Nat) (S:St):Prop:=
 ∃K acc,S=ciE j p B at_ i L K id acc k∧mapAt K p=some (encM T)∧Go.Eng.rowAt K id=some (2,upV (acc.map encCo))∧acc.length≤k∧acc++candT j T at_ (L.drop k)=fin
def ciF (T:List (Int×(Int×Int))) (at_ i:Int) (L:List Int) (id:Nat) (fin:List (Int×Int)) (r:Ex×St):Prop:=
 ∃K,r=(.exit 2,⟨[(0,vW j),(3,.lptr 16 0),(4,vI j.items.length),(6,vI at_),(7,.row id fin.length 0 fin.length),(29,vI j.items.length),(30,vI i),(44,sli L),(45,vI L.length),(46,vI L.length),(47,vB false)],[(16,[vW j,.map p])],K,B,[]⟩)∧mapAt K p=some (encM T)∧Go.Eng.rowAt K id=some (2,upV (fin.map encCo))
include n1 hf in
theorem ci_lp (T:List (Int×(Int×Int))) (at_ i:Int) (L:List Int) (hL:L.length≤1000000) (id:Nat) (hB:B≤id) (hip:id≠p) (fin:List (Int×Int)) (S:St) (hS:ciR j p B T at_ i L id fin 0 S):
  ∃r,evD EE q0g7 S=some r∧ciF j p B T at_ i L id fin r:=by
 unfold q0g7
 refine q09a L (ciR j p B T at_ i L id fin) (ciF j p B T at_ i L id fin) (by rintro k S ⟨K,acc,rfl,-⟩;rfl) ?_ ?_ _ 0 S rfl hS (Nat.zero_le _)
 ·rintro k x S ⟨K,acc,rfl,hm,hr,hn,he⟩ hx
  have hlt:=(List.getElem?_eq_some_iff.1 hx).1
  have w:IntKind.i64.wrap ((k:Int)+1)=((k+1:Nat):Int):=w64 (by omega) (by omega)
  have hix:=fun H k=>q00o H encI (k:=k) (s:=1) hx rfl
  simp only [encI] at hix
  have hd:L.drop k=x::L.drop (k+1):=by rw [List.drop_eq_getElem_cons hlt];congr 1;exact (List.getElem?_eq_some_iff.1 hx).2
  have tx:=fun H=>q0i1 j n1 hf at_ x H
  rw [hd] at he
  unfold candT at he
  rw [List.filterMap_cons] at he
  cases ht:textX j at_ x with
  |none=>
   rw [ht] at he tx
   refine ⟨ciE j p B at_ i L K id acc (k+1),?_,K,acc,rfl,hm,hr,by omega,he⟩
   simp [ciE,hlt,hix,encI,subs,q001,w,tx]
  |some c=>
   rw [ht] at he tx
   have wl:=fun H=>q04r j H
   have tr:=fun H=>q0k4 j.items x n1 H
   have lk:=lk_ev K p T (trimF j.items x) hm
   have ad:=fun H=>q0cg c.1 c.2 (lookC T (trimF j.items x)).1 (lookC T (trimF j.items x)).2 H
   change lkmV K _ _ _ _ _=some (vCost (lookC T (trimF j.items x)).1 (lookC T (trimF j.items x)).2) at lk
   have hid:=rowAt_lt hr
   have hmo:acc.length+1<most:=by unfold most;omega
   have aD:addD B id []=[]:=by unfold addD;rw [if_neg (by omega)]
   refine ⟨ciE j p B at_ i L (K.set id (.row 2 (upV ((acc++[addCo c (lookC T (trimF j.items x))]).map encCo)))) id (acc++[addCo c (lookC T (trimF j.items x))]) (k+1),?_,_,_,rfl,?_,?_,by simp;omega,?_⟩
   ·unfold addCo
    generalize lookC T (trimF j.items x)=q at*
    generalize addM c.1 q.1=q1 at*
    generalize addM c.2 q.2=q2 at*
    simp [-q0j5,ciE,hlt,hix,encI,subs,q001,w,tx,wl,tr,lk,ad,hr,hmo,aD,hid,hB,encCo]
   ·rw [q0i4 _ _ _ _ hip];exact hm
   ·exact q0e2 _ _ _ _ hid
   ·rw [←he];simp [candT]
 ·rintro S ⟨K,acc,rfl,hm,hr,hn,he⟩
  rw [List.drop_length] at he
  have e:acc=fin:=by rw [←he];simp [candT]
  subst e
  refine ⟨_,?_,?_,K,rfl,hm,hr⟩
  ·simp [ciE]
  ·simp
def rnE (K:Heap) (i:Nat):St:=⟨[(0,vW j),(3,.lptr 16 0),(4,vI j.items.length),(29,vI j.items.length),(30,vI i)],[(16,[vW j,.map p])],K,B,[]⟩
def rnR (i:Nat) (S:St):Prop:= ∃K,S=rnE j p B K i∧mapAt K p=some (encM (fromT j i))∧B≤K.length
def rnF (r:Ex×St):Prop:= ∃K,r=(.exit 0,⟨[(0,vW j),(3,.lptr 16 0),(4,vI j.items.length),(29,vI j.items.length),(30,vI j.items.length),(31,vB false)],[(16,[vW j,.map p])],K,B,[]⟩)∧mapAt K p=some (encM (fromT j j.items.length))
theorem q05a (k:Int): ∀T:List (Int×(Int×Int)),(∀e∈T,e.1≠k)→lookT T k=none
 |[],_=>rfl
 |e::r,h=>by
  rw [lookT,if_neg (fun q=>h e List.mem_cons_self q.symm)]
  exact q05a k r fun e he=>h e (List.mem_cons_of_mem _ he)
theorem q05b: ∀(i:Nat),∀e∈fromT j i,(j.items.length:Int)-i≤e.1∧e.1≤j.items.length
 |0,e,h=>by simp [fromT] at h;subst h;simp
 |i+1,e,h=>by
  have ih:=q05b i
  rw [fromT] at h
  split at h
  ·split at h
   ·have:=ih e h;constructor<;>push_cast<;>omega
   ·rename_i c hc
    rcases List.mem_append.1 h with h|h
    ·have:=ih e h;constructor<;>push_cast<;>omega
    ·simp at h;subst h;constructor<;>simp only<;>push_cast<;>omega
  ·have:=ih e h;constructor<;>push_cast<;>omega
include n1 hf in
theorem rn_lp (hpB:B≤p) (S:St) (hS:rnR j p B 0 S): ∃r,evD EE q0g8 S=some r∧rnF j p B r:=by
 unfold q0g8
 refine q09a (List.range j.items.length) (rnR j p B) (rnF j p B) (by rintro k S ⟨K,rfl,-⟩;rfl) ?_ ?_ _ 0 S rfl hS (Nat.zero_le _)
 ·rintro i x S ⟨K,rfl,hm,hBK⟩ hx
  have hlt:i<j.items.length:=by have:=(List.getElem?_eq_some_iff.1 hx).1;simpa using this
  have w:IntKind.i64.wrap ((i:Int)+1)=((i+1:Nat):Int):=w64 (by omega) (by omega)
  have w1:IntKind.i64.wrap ((j.items.length:Int)-1)=(j.items.length:Int)-1:=w64 (by omega) (by omega)
  have w2:IntKind.i64.wrap ((j.items.length:Int)-1-i)=(j.items.length:Int)-1-i:=w64 (by omega) (by omega)
  have tr:=fun H=>q0i2 j n1 ((j.items.length:Int)-1-i) H
  have br:=fun H=>q0el j.items n1 ((j.items.length:Int)-1-i) H
  have wl:=fun H=>q04r j H
  have hbl:=q0b8 j.items ((j.items.length:Int)-1-i)
  have hT:fromT j (i+1)=if trimX j.items ((j.items.length:Int)-1-i)=true then (match q053 (candT j (fromT j i) ((j.items.length:Int)-1-i) (brkF j.items ((j.items.length:Int)-1-i))) with|none=>fromT j i|some c=>fromT j i++[((j.items.length:Int)-1-i,c)]) else fromT j i:=rfl
  have hmiss:lookT (fromT j i) ((j.items.length:Int)-1-i)=none:=q05a _ _ fun e he=>by have:=q05b j i e he;omega
  generalize hat:(j.items.length:Int)-1-i=at_ at*
  cases q:trimX j.items at_ with
  |false=>
   rw [q] at tr hT
   simp only [Bool.false_eq_true,if_false] at hT
   refine ⟨rnE j p B K (i+1),?_,K,rfl,by rw [hT];exact hm,hBK⟩
   simp [rnE,hlt,w,w1,w2,hat,tr]
  |true=>
   rw [q] at tr hT
   simp only [if_true] at hT
   have hr0:Go.Eng.rowAt (K++[.row 2 []]) K.length=some (2,upV ((([]:List (Int×Int))).map encCo)):=by simp [Go.Eng.rowAt]
   have hp:=q0sp hm
   obtain ⟨r1,k1,K2,rfl,hm2,hr2⟩:=ci_lp j n1 hf p B (fromT j i) at_ i (brkF j.items at_) (by omega) K.length hBK (by omega) (candT j (fromT j i) at_ (brkF j.items at_)) _ ⟨K++[.row 2 []],[],rfl,q09d _ hm,hr0,by simp,by simp⟩
   have hcl:(candT j (fromT j i) at_ (brkF j.items at_)).length≤1000000:=by
    have:(candT j (fromT j i) at_ (brkF j.items at_)).length≤(brkF j.items at_).length:=by unfold candT;exact List.length_filterMap_le _ _
    omega
   have le:=q0so (candT j (fromT j i) at_ (brkF j.items at_)) hcl K.length K2 hr2
   have rel:=q0pe (candT j (fromT j i) at_ (brkF j.items at_))
   generalize candT j (fromT j i) at_ (brkF j.items at_)=C at*
   generalize q052 C=I at*
   simp only [ciE] at k1
   simp at k1
   have hK2:K.length<K2.length:=rowAt_lt hr2
   rcases rel with ⟨rfl,h2⟩|⟨h1,h2,h3⟩
   ·rw [h2] at hT
    simp only at hT
    refine ⟨rnE j p B K2 (i+1),?_,K2,rfl,by rw [hT];exact hm2,by omega⟩
    simp [rnE,hlt,w,w1,w2,hat,tr,wl,br,k1,le]
   ·rw [h3] at hT
    simp only at hT
    have ea:((I.toNat:Nat):Int)=I:=by omega
    have hy:=q028 C I (by omega) (by omega)
    generalize rd C I=y at*
    have hul:(upV (C.map encCo)).length=C.length:=by simp [upV]
    have hix:ixsI K2 (.row K.length C.length 0 C.length) (vI I) 2=some (.rptr K.length C.length I.toNat 0):=by
     have e0:(vI I)= .p (.int .i64 ((I.toNat:Nat):Int)):=by rw [ea]
     rw [e0,q013,hr2,q0gx,if_pos ⟨hul,rfl,by omega⟩,Nat.zero_add]
    have hgx: ∀h:I.toNat<(upV (C.map encCo)).length,(upV (C.map encCo))[I.toNat]'h=[vI y.1,vI y.2]:=fun h=>by
     have:(upV (C.map encCo))[I.toNat]? =some [vI y.1,vI y.2]:=by simp [upV,encCo,hy]
     exact (List.getElem?_eq_some_iff.1 this).2
    have hIl:I.toNat<C.length:=by omega
    have st:=q0pf K2 p (fromT j i) at_ y hm2 hmiss
    have aD:addD B p []=[]:=by unfold addD;rw [if_neg (by omega)]
    refine ⟨rnE j p B (K2.set p (.map (encM (fromT j i++[(at_,y)])))) (i+1),?_,_,rfl,?_,by simp;omega⟩
    ·generalize encM (fromT j i++[(at_,y)])=M at*
     simp [-q0ak,rnE,hlt,w,w1,w2,hat,tr,wl,br,k1,le,h1,hix,hr2,hul,hIl,hgx,subs,q001,st,aD,hpB]
    ·rw [hT];exact q0pg _ _ _ (by omega)
 ·rintro S ⟨K,rfl,hm,hBK⟩
  rw [List.length_range] at hm
  refine ⟨_,?_,?_,K,rfl,hm⟩
  ·rw [List.length_range];simp [rnE]
  ·simp
include n1 hf in
theorem q0vm (H:Heap): ∃K q p,clD EE (.p (.fn 19)) [vW j] H=some (.ptr q 0,some (K,[]))∧Eng.boxAt K q=some [vW j,.map p]∧mapAt K p=some (encM (fromT j j.items.length)):=by
 have wl:=fun H=>q04r j H
 have l2:=fun H=>q01h j.items H
 have nq:eqnV NK.ptr false (vW j)=some (vB false):=rfl
 have st:=q0pf (H++[.map []]) H.length [] j.items.length (0,0) (by unfold mapAt;simp;rfl) rfl
 have e0:[]++[((j.items.length:Int),((0,0):Int×Int))]=fromT j 0:=rfl
 rw [e0] at st
 have aD:addD H.length H.length []=[]:=by unfold addD;rw [if_neg (by omega)]
 obtain ⟨r,k,K,rfl,hm⟩:=rn_lp j n1 hf H.length H.length (Nat.le_refl _) (rnE j H.length H.length (H++[.map (encM (fromT j 0))]) 0) ⟨_,rfl,by unfold mapAt;simp,by simp⟩
 refine ⟨K++[.box [vW j,.map H.length]],K.length,H.length,?_,by simp,q09d _ hm⟩
 rw [q002 _ _ _ _ _ _ (noP _) fn19]
 generalize encM (fromT j 0)=M at*
 simp [rnE] at k
 simp [-q0ak] at st
 simp [-q0ak,St.enter,q000,subs,q001,nq,wl,l2,st,aD,k]
theorem q0i5 (K:Heap) (q p:Nat) (T:List (Int×(Int×Int))) (a:V) (at_:Int) (h1:Eng.boxAt K q=some [a,.map p]) (h2:mapAt K p=some (encM T)):
  clD EE (.p (.fn 20)) [.ptr q 0,vI at_] K=some (vCO (lookT T at_),none):=by
 rw [q002 _ _ _ _ _ _ (noP _) fn20]
 have lk:=q0vl K p T at_ h2
 generalize lookT T at_=c at*
 cases c<;>simp [-q0j5,St.enter,q000,subs,q001,h1,lk]
end
theorem q0ph (a b:Int×Int) (H:Heap):clD EE (.p (.fn 69)) [vCost a.1 a.2,vCost b.1 b.2] H=some (vI (cmpCo a b),none):=by
 rw [q002 _ _ _ _ _ _ (noP _) fn69]
 obtain ⟨a1,a2⟩:=a
 obtain ⟨b1,b2⟩:=b
 unfold cmpCo
 simp only [lexC,cmp1]
 by_cases h1:a1<b1
 ·simp [St.enter,q000,subs,q001,h1]
 ·by_cases h2:b1<a1
  ·have h3: ¬a1=b1:=by omega
   simp [St.enter,q000,subs,q001,h1,h2,h3]
  ·have h3:a1=b1:=by omega
   subst h3
   by_cases h4:a2<b2
   ·simp [St.enter,q000,subs,q001,h4]
   ·by_cases h5:b2<a2
    ·have h6: ¬a2=b2:=by omega
     simp [St.enter,q000,subs,q001,h4,h5,h6]
    ·have h6:a2=b2:=by omega
     subst h6
     simp [St.enter,q000,subs,q001]
theorem q09e (k:Int): ∀(A B:List (Int×(Int×Int))),lookT (A++B) k=match lookT A k with|some c=>some c|none=>lookT B k
 |[],B=>rfl
 |e::r,B=>by
  simp only [List.cons_append,lookT]
  by_cases c:k=e.1
  ·simp [c]
  ·simp only [if_neg c];exact q09e k r B
theorem q0lz (j:Job) (i:Nat) (k:Int) (hk:(j.items.length:Int)-i≤k):lookT (fromT j (i+1)) k=lookT (fromT j i) k:=by
 have hm: ∀c:Int×Int,lookT [((j.items.length:Int)-1-i,c)] k=none:=fun c=>by simp [lookT];omega
 rw [fromT]
 split
 ·split
  ·rfl
  ·rename_i c hc
   rw [q09e,hm]
   cases lookT (fromT j i) k<;>rfl
 ·rfl
theorem q0cn (j:Job) (i:Nat) (k:Int) (hk:(j.items.length:Int)-i≤k): ∀m,lookT (fromT j (i+m)) k=lookT (fromT j i) k
 |0=>rfl
 |m+1=>by
  rw [←Nat.add_assoc,q0lz j (i+m) k (by push_cast;omega)]
  exact q0cn j i k hk m
def fromX (j:Job) (k:Int):Option (Int×Int):=lookT (fromT j j.items.length) k
theorem q07s (j:Job) (i:Nat) (hi:i≤j.items.length) (k:Int) (hk:(j.items.length:Int)-i≤k):lookT (fromT j i) k=fromX j k:=by
 have:=q0cn j i k hk (j.items.length-i)
 rw [show i+(j.items.length-i)=j.items.length by omega] at this
 exact this.symm
theorem q0er (j:Job):fromX j j.items.length=some (0,0):=by
 rw [←q07s j 0 (by omega) _ (by simp)]
 simp [fromT,lookT]
theorem q09f (j:Job) (k:Int) (h:k<0∨(j.items.length:Int)<k):fromX j k=none:=
 q05a _ _ fun e he=>by have:=q05b j j.items.length e he;omega
theorem q0i6 (l:List Item) (n:Int):(putN l n:Int)≤trimF l n∧trimF l n≤l.length:=by
 have h1:=q09s l n
 have h2:=(List.takeWhile_sublist q033 (l:=l.drop (putN l n))).length_le
 rw [List.length_drop] at h2
 unfold trimF trimN
 constructor<;>omega
theorem q072 {α β:Type} (f g:α→Option β): ∀l:List α,(∀x∈l,f x=g x)→l.filterMap f=l.filterMap g
 |[],_=>rfl
 |x::r,h=>by
  rw [List.filterMap_cons,List.filterMap_cons,h x List.mem_cons_self,q072 f g r fun y hy=>h y (List.mem_cons_of_mem _ hy)]
def addO (j:Job) (at_ to:Int):Option (Int×Int):=(textX j at_ to).map fun c=>addCo c ((fromX j (trimF j.items to)).getD (0,0))
theorem q0sq (j:Job) (k:Int) (h0:0≤k) (h1:k<j.items.length):fromX j k=if trimX j.items k=true then q053 ((brkF j.items k).filterMap (addO j k)) else none:=by
 obtain ⟨i,hi⟩: ∃i:Nat,k=(j.items.length:Int)-1-i:=⟨(j.items.length-1-k.toNat),by omega⟩
 subst hi
 have hil:i<j.items.length:=by omega
 rw [←q07s j (i+1) (by omega) _ (by push_cast;omega)]
 have hmiss:lookT (fromT j i) ((j.items.length:Int)-1-i)=none:=q05a _ _ fun e he=>by have:=q05b j i e he;omega
 have hc:candT j (fromT j i) ((j.items.length:Int)-1-i) (brkF j.items ((j.items.length:Int)-1-i))=(brkF j.items ((j.items.length:Int)-1-i)).filterMap (addO j ((j.items.length:Int)-1-i)):=by
  unfold candT
  refine q072 _ _ _ fun x hx=> ?_
  unfold addO lookC
  have hx': ∃m:Nat,x=m∧(j.items.length:Int)-1-i<m∧(m:Int)≤j.items.length:=by
   unfold brkF brkN at hx
   obtain ⟨m,hm,rfl⟩:=List.mem_map.1 hx
   have:=List.mem_range'_1.1 (List.mem_filter.1 hm).1
   unfold pos at this
   exact ⟨m,rfl,by omega,by omega⟩
  obtain ⟨m,rfl,hm1,hm2⟩:=hx'
  have tg:=q0i6 j.items m
  have pn:putN j.items m=m:=by unfold putN;omega
  rw [q07s j i (by omega) _ (by omega)]
 rw [fromT,hc]
 by_cases q:trimX j.items ((j.items.length:Int)-1-i)=true
 ·rw [if_pos q,if_pos q]
  cases q053 ((brkF j.items ((j.items.length:Int)-1-i)).filterMap (addO j ((j.items.length:Int)-1-i))) with
  |none=>exact hmiss
  |some c=>simp only;rw [q09e,hmiss];simp [lookT]
 ·rw [if_neg q,if_neg q];exact hmiss
def rfrE (j:Job) (at_:Int) (H:Heap) (o:Option (Int×Int)) (i:Nat):St:=
 ⟨[(1,vI at_),(2,.lptr 2 0),(4,.lptr 4 0),(5,q004 j.items),(6,.lptr 6 0),(7,vI (at_+1+i))],[(2,cJobW j),(4,[vI 0,vI 0,vB false]),(6,[vI (o.getD (0,0)).1,vI (o.getD (0,0)).2,vB o.isSome])],H,H.length,[]⟩
def rfrX (j:Job) (at_:Int) (H:Heap) (o:Option (Int×Int)):Ex×St:=
 (.exit 0,⟨[(1,vI at_),(2,.lptr 2 0),(4,.lptr 4 0),(5,q004 j.items),(6,.lptr 6 0),(7,vI (j.items.length+1)),(39,vB false)],[(2,cJobW j),(4,[vI 0,vI 0,vB false]),(6,[vI (o.getD (0,0)).1,vI (o.getD (0,0)).2,vB o.isSome])],H,H.length,[]⟩)
def rfrS (j:Job) (at_:Int) (o:Option (Int×Int)) (i:Nat) (_:Nat):Option (Int×Int):=
 match q04i j at_ (at_+1+i) with
 |none=>o
 |some c=>leO o i (addCo c ((fromX j (trimF j.items (at_+1+i))).getD (0,0)))
theorem q0xn (j:Job) (n1:j.items.length≤1000000) (hf: ∀x∈j.items,fairI x) (at_:Int) (h0:0≤at_) (h1:at_<j.items.length) (H:Heap)
  (ih: ∀k:Int,at_<k→k≤j.items.length→ ∀H,clD EE (.p (.fn 23)) [vJob j,vI k] H=some (vRes (fromX j k),none)):
  evD EE q0ga (rfrE j at_ H none 0)=some (rfrX j at_ H (fold (rfrS j at_) none 0 (List.range (j.items.length-at_.toNat)))):=by
 unfold q0ga
 refine q017 (List.range (j.items.length-at_.toNat)) (fun o i=>rfrE j at_ H o i) (fun _ _=>True) (rfrS j at_) (fun o=>rfrX j at_ H o) (fun _ _=>rfl) ?_ ?_ none 0 trivial (Nat.zero_le _)
 ·rintro o i x-hx
  refine ⟨?_,trivial⟩
  have hlt:i<j.items.length-at_.toNat:=by have:=(List.getElem?_eq_some_iff.1 hx).1;simpa using this
  have ro:=fun H=>q0cm j n1 hf at_ (at_+1+i) H
  have tr:=fun H=>q0b6 j.items (at_+1+i) n1 H
  have w:IntKind.i64.wrap (at_+1+i+1)=at_+1+((i+1:Nat):Int):=by rw [w64 (by omega) (by omega)];push_cast;omega
  have c:at_+1+(i:Int)≤j.items.length:=by omega
  have tg:=q0i6 j.items (at_+1+i)
  have pn:(putN j.items (at_+1+i):Int)=at_+1+i:=by unfold putN;omega
  have fr:=ih (trimF j.items (at_+1+i)) (by omega) (by omega)
  unfold rfrS
  generalize hto:at_+1+(i:Int)=to at*
  simp only [vJob,cGeom,List.cons_append,List.nil_append] at ro fr
  cases q:q04i j at_ to with
  |none=>
   rw [q] at ro
   simp only [rfrE,cJobW,cGeom,List.cons_append,List.nil_append,hto]
   simp [c,ro,subs,q001,w]
  |some z=>
   rw [q] at ro
   have ad:=fun H=>q0ai z.1 z.2 ((fromX j (trimF j.items to)).getD (0,0)).1 ((fromX j (trimF j.items to)).getD (0,0)).2 H
   simp only
   unfold addCo
   generalize fromX j (trimF j.items to)=y at*
   generalize hg:y.getD (0,0)=g at*
   generalize addM z.1 g.1=q1 at*
   generalize addM z.2 g.2=q2 at*
   simp only [rfrE,cJobW,cGeom,List.cons_append,List.nil_append,hto]
   cases o with
   |none=>
    unfold leO
    simp [c,ro,subs,q001,fldvV,w,tr,fr,hg,ad]
   |some u=>
    have cm:=fun H=>q0ph (q1,q2) u H
    unfold leO
    by_cases d:cmpCo (q1,q2) u<0
    ·simp [c,ro,subs,q001,fldvV,w,tr,fr,hg,ad,cm,d]
    ·simp [c,ro,subs,q001,fldvV,w,tr,fr,hg,ad,cm,d]
 ·rintro o-
  refine ⟨?_,by simp [rfrX]⟩
  rw [List.length_range]
  have e:at_+1+((j.items.length-at_.toNat:Nat):Int)=j.items.length+1:=by omega
  have c: ¬(j.items.length:Int)+1≤j.items.length:=by omega
  simp only [rfrE,rfrX,e]
  simp [c]
theorem q0sr (j:Job) (at_:Int) (h0:0≤at_) (h1:at_<j.items.length) (ht:trimX j.items at_=true):
  fold (rfrS j at_) none 0 (List.range (j.items.length-at_.toNat))=q053 ((brkF j.items at_).filterMap (addO j at_)):=by
 have hb:brkF j.items at_=(filtB j.items (q015 j.items at_) (j.items.length-at_.toNat) (at_.toNat+1)).map Int.ofNat:=by
  unfold brkF
  rw [q0hu]
  have e:pos at_=at_.toNat:=by unfold pos;omega
  rw [e]
 have hr: ∀m:Nat,q04i j at_ m=if (brkF j.items at_).contains (m:Int)=true then textX j at_ m else none:=by
  intro m
  unfold q04i
  by_cases c:(brkF j.items at_).contains (m:Int)=true
  ·rw [if_pos ⟨ht,c⟩,if_pos c]
  ·rw [if_neg (fun h=>c h.2),if_neg c]
 have hc: ∀m:Nat,(brkF j.items at_).contains (m:Int)=true↔(at_.toNat+1≤m∧m<at_.toNat+1+(j.items.length-at_.toNat)∧(m:Int)≤q015 j.items at_∧mayN j.items m=true):=by
  intro m
  rw [hb,List.contains_iff_mem,List.mem_map]
  unfold filtB
  constructor
  ·rintro ⟨a,ha,he⟩
   have:a=m:=by have h9:(a:Int)=m:=he;omega
   subst this
   have h:=List.mem_filter.1 ha
   have h2:=List.mem_range'_1.1 h.1
   have h3:=h.2
   simp at h3
   exact ⟨h2.1,h2.2,h3.1,h3.2⟩
  ·rintro ⟨a1,a2,a3,a4⟩
   refine ⟨m,List.mem_filter.2 ⟨List.mem_range'_1.2 ⟨a1,a2⟩,by simp [a3,a4]⟩,rfl⟩
 have key: ∀(k i:Nat) (o:Option (Int×Int)),i+k=j.items.length-at_.toNat→fold (rfrS j at_) o i ((List.range (j.items.length-at_.toNat)).drop i)=fold leO o 0 (((filtB j.items (q015 j.items at_) k (at_.toNat+1+i)).map Int.ofNat).filterMap (addO j at_)):=by
  have shift: ∀(L:List (Int×Int)) (o:Option (Int×Int)) (a b:Nat),fold leO o a L=fold leO o b L:=by
   intro L
   induction L with
   |nil=>intro o a b;rfl
   |cons x r ih=>intro o a b;simp only [fold];exact ih _ _ _
  intro k
  induction k with
  |zero=>
   intro i o hi
   rw [List.drop_eq_nil_of_le (by rw [List.length_range];omega)]
   simp [fold,filtB]
  |succ k ih=>
   intro i o hi
   have hd:(List.range (j.items.length-at_.toNat)).drop i=i::(List.range (j.items.length-at_.toNat)).drop (i+1):=by
    rw [List.drop_eq_getElem_cons (by rw [List.length_range];omega)];simp
   have em:at_+1+(i:Int)=((at_.toNat+1+i:Nat):Int):=by push_cast;omega
   have cm:=hc (at_.toNat+1+i)
   have en:at_.toNat+1+i+1=at_.toNat+1+(i+1):=by omega
   rw [hd,fold,ih (i+1) _ (by omega),q07q,en]
   unfold rfrS
   rw [em,hr]
   by_cases c:((at_.toNat+1+i:Nat):Int)≤q015 j.items at_∧mayN j.items (at_.toNat+1+i)=true
   ·rw [if_pos c,if_pos (cm.2 ⟨by omega,by omega,c.1,c.2⟩),List.map_cons,List.filterMap_cons]
    have ea:addO j at_ (Int.ofNat (at_.toNat+1+i))=(textX j at_ ((at_.toNat+1+i:Nat):Int)).map fun c=>addCo c ((fromX j (trimF j.items ((at_.toNat+1+i:Nat):Int))).getD (0,0)):=rfl
    rw [ea]
    cases textX j at_ ((at_.toNat+1+i:Nat):Int) with
    |none=>rfl
    |some z=>
     simp only [Option.map_some,fold]
     rw [shift _ _ (0+1) 0]
     rfl
   ·rw [if_neg c,if_neg (fun h=>c (cm.1 h).2.2)]
 have h:=key (j.items.length-at_.toNat) 0 none (by omega)
 rw [List.drop_zero,Nat.add_zero] at h
 rw [h,hb];rfl
theorem q0ss (j:Job) (n1:j.items.length≤1000000) (hf: ∀x∈j.items,fairI x): ∀(n:Nat) (k:Int) (H:Heap),((j.items.length:Int)-k).toNat≤n→
  clD EE (.p (.fn 23)) [vJob j,vI k] H=some (vRes (fromX j k),none):=by
 intro n
 induction n with
 |zero=>
  intro k H hn
  rw [q002 _ _ _ _ _ _ (noP _) fn23]
  simp only [vJob,cGeom,List.cons_append,List.nil_append]
  by_cases e:k=j.items.length
  ·rw [e,q0er]
   simp [St.enter,q000,subs,q001]
  ·rw [q09f j k (by omega)]
   have c:(j.items.length:Int)<k:=by omega
   have c0: ¬k<0:=by omega
   simp [St.enter,q000,subs,q001,e,c,c0]
 |succ n ih=>
  intro k H hn
  rw [q002 _ _ _ _ _ _ (noP _) fn23]
  have tr:=fun H=>q0b6 j.items k n1 H
  by_cases e:k=j.items.length
  ·simp only [vJob,cGeom,List.cons_append,List.nil_append]
   rw [e,q0er]
   simp [St.enter,q000,subs,q001]
  ·by_cases c0:k<0
   ·simp only [vJob,cGeom,List.cons_append,List.nil_append]
    rw [q09f j k (.inl c0)]
    simp [St.enter,q000,subs,q001,e,c0]
   ·by_cases c1:(j.items.length:Int)<k
    ·simp only [vJob,cGeom,List.cons_append,List.nil_append]
     rw [q09f j k (.inr c1)]
     simp [St.enter,q000,subs,q001,e,c0,c1]
    ·rw [q0sq j k (by omega) (by omega)]
     by_cases t:(trimF j.items k:Int)=k
     ·have tx:trimX j.items k=true:=by unfold trimX;simp [t];omega
      have lp:=q0xn j n1 hf k (by omega) (by omega) H (fun m h1 h2 H'=>ih m H' (by omega))
      rw [q0sr j k (by omega) (by omega) tx] at lp
      rw [if_pos tx]
      generalize q053 ((brkF j.items k).filterMap (addO j k))=o at*
      have w:IntKind.i64.wrap (k+1)=k+1:=w64 (by omega) (by omega)
      simp only [rfrE,rfrX,cJobW,cGeom,List.cons_append,List.nil_append] at lp
      simp at lp
      simp only [vJob,cGeom,List.cons_append,List.nil_append]
      simp [St.enter,q000,subs,q001,e,c0,c1,tr,t,w,lp]
     ·have tx: ¬trimX j.items k=true:=by unfold trimX;simp [t]
      rw [if_neg tx]
      simp only [vJob,cGeom,List.cons_append,List.nil_append]
      simp [St.enter,q000,subs,q001,e,c0,c1,tr,t]
theorem q0pi (H:Heap):clD EE (.p (.fn 19)) [.p .nilp] H=some (.ptr (H.length+1) 0,some (H++[.map [],.box [.p .nilp,.map H.length]],[])):=by
 rw [q002 _ _ _ _ _ _ (noP _) fn19]
 simp [St.enter,q000,subs,q001]
theorem q0j3 (a b:Int) (H:Heap):clD EE (.p (.fn 21)) [.p .nilp,vI a,vI b] H=some (vCO none,none):=by
 rw [q002 _ _ _ _ _ _ (noP _) fn21]
 have t: ∀H,clD EE (.p (.fn 83)) [.p .nilp,vI a] H=some (vB false,none):=by
  intro H
  rw [q002 _ _ _ _ _ _ (noP _) fn83]
  simp [St.enter,q000]
 simp [St.enter,q000,subs,q001,t]
theorem relaxTells_ev (j:Job) (hj:jobI j) (a b:Int):clD EE (.p (.fn 3)) [vJob j,vI a,vI b] []=some (.p (.bool true),none):=by
 rw [q002 _ _ _ _ _ _ (noP _) fn3]
 have l1:=fun H=>q0rh j H
 have aw:=fun H=>q0qk H
 simp only [vJob,cGeom,List.cons_append,List.nil_append] at l1
 cases b1:q098 j with
 |true=>simp [St.enter,q000,subs,q001,l1,b1,aw]
 |false=>
  by_cases b2:(14:Int)<j.items.length
  ·simp [St.enter,q000,subs,q001,l1,b1,b2,aw]
  ·have sm:=q0rf b1
   have ok:=q0hg hj sm
   have sms:=q0l8 sm
   have okS:=q0hg (q0p6 hj) sms
   have hw:=q0vi j ok okS (fun n hn=>by have:=sms.each n hn;omega)
   have hx:=fun H=>q0p5 j ok H
   by_cases h:(q023 j).1=0
   ·have r:=(q0ed j).1 h
    have w:=q0xl r sms
    have hf:=q0eh r
    have k1:=fun H=>q0p9 (snapG j) w.n1 hf a b H
    have k2:=fun H=>q0cm (snapG j) w.n1 hf a b H
    have k3:=fun H=>q0ss (snapG j) w.n1 hf _ a H (Nat.le_refl _)
    obtain ⟨K,q,p,n1,n2,n3⟩:=q0vm (snapG j) w.n1 hf []
    have k4:=q0i5 K q p _ _ a n2 n3
    change clD EE _ _ _=some (vCO (fromX (snapG j) a),none) at k4
    simp only [if_pos h] at hw hx
    generalize fromX (snapG j) a=F at*
    generalize q04i (snapG j) a b=R at*
    generalize snapG j=J at*
    simp only [vJob,cJobW,cGeom,List.cons_append,List.nil_append] at hw hx k2 k3
    cases F<;>cases R<;>simp [St.enter,q000,subs,q001,solN,sd,l1,b1,b2,aw,hw,hx,k1,k2,k3,n1,k4]
   ·have n1:=q0pi []
    have n2:=fun H=>q0j3 a b H
    have n3:=q0i5 ([]++[.map [],.box [.p .nilp,.map 0]]) 1 0 [] (.p .nilp) a rfl rfl
    simp only [if_neg h] at hw hx
    simp only [vJob,cGeom,List.cons_append,List.nil_append] at hw hx
    simp at n1 n3
    simp [St.enter,q000,subs,q001,solN,sd,l1,b1,b2,aw,hw,hx,n1,n2,n3,lookT]
end Go.EnvOf
