/- The engine: values, instructions, their evaluation, and that it holds of the program. -/
import Derived.Great.BuildSlice
import Derived.Deep.AppendSrc
import Derived.Deep.Upon
import Derived.Test.YtjjdmlpdgcdehaaGreatEngAll4
namespace Go.Eng
open Go
section
variable {F:Fence} {n:Nat} {P:Program} {o:Oper} {a:Act} {w:World} {Q:Exit->Act->World->Prop}
variable {N:Nat} {G:Gh} {own:Own} {L:Nat->Option Nat} {S S':St} {next:Act->World->Prop}
theorem q0ef {off:Nat} {vs cells:Array Value} (h:off+vs.size<=cells.size):
  (vs.zipIdx.foldl (fun cs (c,j)=>cs.setIfInBounds (off+j) c) cells)=putAt cells off vs.toList:=by
 rw [<-Array.foldl_toList,Array.toList_zipIdx]
 obtain ⟨h1,h2⟩:=Great.foldl_set off vs.toList 0 cells
 apply Array.ext_getElem?
 intro k
 refine (h2 k).trans ?_
 simp only [Nat.add_zero,Array.length_toList]
 have hle:off+vs.toList.length<=cells.size:=by simpa using h
 show _=(putAt cells off vs.toList)[k]?
 refine Eq.trans ?_ (List.getElem?_toArray (xs:=cells.toList.take off++vs.toList++cells.toList.drop (off+vs.toList.length))).symm
 split
 ·rename_i hc
  rw [Zw (by simp;omega),ZD (by simp;omega)]
  congr 1;simp;omega
 ·rename_i hc
  rcases Z2 k off with hk|hk
  ·rw [Zx,Zw (by simp;omega)]
   simp [hk]
  ·by_cases hk2:k<off+vs.size
   ·omega
   ·rw [ZD (by simp;omega)]
    have e:k-(cells.toList.take off++vs.toList).length+(off+vs.toList.length)=k:=by simp;omega
    simp only [List.getElem?_drop]
    rw [Nat.add_comm,e];simp
theorem q0dg (h:Sim N G own L S a w) {places:Nat->Option (Nat×Nat)}: ∀ {ps:List (Nat×Operand)} {qs:List (Nat×Nat×Arg)} {cells:Array Value} {zs cs:List V},q04h places ps qs=true->
  cells.size=zs.length->CRep G (fun j=>cells.getD j undef) zs->fillV zs (qs.map fun (o,n,x)=>(o,n,S.arg x))=some cs->
  ∃cells',Instr.fill places cells (ps.map fun (i,x)=>(i,a.eval x))=some cells'/\cells'.size=cs.length/\CRep G (fun j=>cells'.getD j undef) cs
 |[],[],cells,zs,cs,_,hsz,hr,hf=>by cases hf;exact ⟨cells,rfl,hsz,hr⟩
 |(i,x)::r,(o',m,b)::s,cells,zs,cs,hok,hsz,hr,hf=>by
  simp only [q04h,Zb,beq_iff_eq] at hok
  obtain ⟨⟨hp,hx⟩,hrest⟩:=hok
  simp only [Zo,fillV] at hf
  split at hf
  ·rename_i hc
   cases hss:q001 zs o' (S.arg b).cells with
   |none=>rw [hss] at hf;cases hf
   |some z=>
    rw [hss] at hf
    simp only [Ze] at hf
    obtain ⟨c1,c2,c3⟩:=q07i (q008 h hx) hc.2
    obtain ⟨p1,p2⟩:=q0ad hr hsz c2 c1 hss
    have hle:=(q02x hss).1
    obtain ⟨cells',g1,g2,g3⟩:=q0dg h hrest p1 p2 hf
    refine ⟨cells',?_,g2,g3⟩
    simp only [Zo]
    unfold Instr.fill
    simp only [hp]
    have e1:(a.eval x).cells.size=m:=by rw [c1,hc.1]
    have e2: ¬(o'+(a.eval x).cells.size>cells.size):=by omega
    simp only [e1,ne_eq,not_true,decide_false,Bool.false_or]
    rw [e1] at e2
    simp only [e2,decide_false,if_false,Zh]
    rw [q0ef (by omega)]
    exact g1
  ·cases hf
 |[],_::_,_,_,_,hok,_,_,_=>by simp [q04h] at hok
 |_::_,[],_,_,_,hok,_,_,_=>by simp [q04h] at hok
theorem q0cr (w:World): ∀(fs:List Field),fs.all (fun f=>(P.info? f.type).isSome)=true->
  (fs.mapM fun f=>Prod.mk f.offset<$>sizeOf f.type).run P w= .ok (fs.map fun f=>(f.offset,P.cellsOf f.type)) w
 |[],_=>by simp
 |f::r,h=>by
  simp only [List.all_cons,Zb] at h
  obtain ⟨i,hi⟩:=Option.isSome_iff_exists.1 h.1
  have hs:(sizeOf f.type).run P w= .ok i.size w:=by simp [sizeOf,typeInfo,hi]
  have hc:P.cellsOf f.type=i.size:=by simp [Program.cellsOf,hi]
  simp [List.mapM_cons,hs,q0cr w r h.2,hc]
theorem q0eg (fs:Array Field) (i:Nat):(fs.toList.map fun f=>(f.offset,P.cellsOf f.type)).toArray[i]? =q072 P fs i:=by
 simp only [q072,List.getElem?_toArray,List.getElem?_map,Array.getElem?_toList]
 cases fs[i]? <;>rfl
theorem q0jg {p q:Nat->Option (Nat×Nat)} (h: ∀i,p i=q i) {ps:List (Nat×Operand)} {qs:List (Nat×Nat×Arg)} (hp:q04h p ps qs=true):q04h q ps qs=true:=by
 have:p=q:=funext h
 rw [<-this];exact hp
theorem q0dh {t:TypeId} {fs:Array Field} {i:TypeInfo} {z:Value} (hu:P.underlying t=some (.struct fs)) (hi:P.info? t=some i) (hz:i.zero=some z) {places:List (Nat×Nat)}
  (hp:(fs.toList.mapM fun f=>Prod.mk f.offset<$>sizeOf f.type).run P w= .ok places w) {parts:Array (Nat×Value)} {cells:Array Value} (h:Instr.fill (places.toArray[·]?) z.cells parts.toList=some cells):
  (Instr.build t parts).run P w= .ok (.agg cells) w:=by
 simp at h
 simp [Instr.build,run_underlying hu,zeroValue,typeInfo,hi,hz,Array.mapM_eq_mapM_toList,hp,h]
theorem q0Aa (hF: ∀f,F.fn f) (h:Sim N G own L S a w) (hd: ∀t,o.dst=some t->t<N) {zero:List V} {ps:List (Nat×Nat×Arg)} (hok:okIns P o.op (.bld zero ps)=true)
  {cl:ClT} (hev:evIns cl o.dst (.bld zero ps) S=some S') (hn: ∀a' w',Res N G own w a.defers S' a' w'->next a' w'):o.wpIn F n P a w next Q:=by
 obtain ⟨r,hr,hS⟩:=q00y hev
 simp only [okIns] at hok
 split at hok
 ·rename_i t parts hop
  simp only [Zb] at hok
  obtain ⟨hz,hk⟩:=hok
  unfold zeroB at hz
  split at hz
  ·rename_i i hi
   split at hz
   ·rename_i z hzz
    obtain ⟨z1,z2⟩:=q02u (G:=G) hz
    cases hf:fillV zero (ps.map fun (o,n,x)=>(o,n,S.arg x)) with
    |none=>rw [hf] at hr;cases hr
    |some cs=>
     rw [hf] at hr
     cases hr
     split at hk
     ·rename_i fs hu
      simp only [Zb] at hk
      obtain ⟨cells',g1,g2,g3⟩:=q0dg h (q0jg (fun i=>(q0eg (P:=P) fs i).symm) hk.1) z1 z2 hf
      refine q00f hF h hd (by rw [hop];intro c hc;cases hc) (v:= .agg cells') ?_ (.of (.agg _ _ g2 g3)) hS hn
      have e:=q0dh (w:=w) hu hi hzz (q0cr w fs.toList hk.2) (parts:=parts.map fun (i,x)=>(i,a.eval x)) (cells:=cells') (by simpa only [Array.toList_map] using g1)
      simp only [execOp,hop,Sem.run_bind,e];rfl
     ·rename_i m e hu
      split at hk
      ·rename_i ie hie
       obtain ⟨cells',g1,g2,g3⟩:=q0dg h hk z1 z2 hf
       refine q00f hF h hd (by rw [hop];intro c hc;cases hc) (v:= .agg cells') ?_ (.of (.agg _ _ g2 g3)) hS hn
       simp [execOp,hop,Instr.build,run_underlying hu,sizeOf,zeroValue,typeInfo,hi,hzz,hie,g1]
      ·cases hk
     ·cases hk
   ·cases hz
  ·cases hz
 ·cases hok
end
section
variable {F:Fence} {n:Nat} {P:Program} {o:Oper} {a:Act} {w:World} {Q:Exit->Act->World->Prop}
variable {N:Nat} {G:Gh} {own:Own} {L:Nat->Option Nat} {S S':St} {next:Act->World->Prop}
structure RowsP (I:Nat->Nat->Value->Prop) (f:Nat->Value) (s:Nat) (es:List (List PV)):Prop where
 len: ∀i (hi:i<es.length),(es[i]).length=s
 rep: ∀i j (hi:i<es.length) (hj:j<(es[i]).length),PRep I (f (i*s+j)) ((es[i])[j])
structure RowsV (G:Gh) (f:Nat->Value) (s:Nat) (es:List (List V)):Prop where
 len: ∀i (hi:i<es.length),(es[i]).length=s
 rep: ∀i j (hi:i<es.length) (hj:j<(es[i]).length),VRep G (f (i*s+j)) ((es[i])[j])
theorem q0sf {vs:List V} {xs:List PV} (h:q03s vs=some xs) {f:Nat->Value} (hf:CRep G f vs):xs.length=vs.length/\ ∀j (hj:j<xs.length),PRep G.I (f j) (xs[j]):=
 let ⟨h1,h2⟩:=q0ee (G:=G) h
 ⟨h1.symm,h2 f hf⟩
theorem q09x {s:Nat}: ∀ {es:List (List V)} {xs:List (List PV)} {f:Nat->Value},q02b es=some xs->RowsV G f s es->es.length=xs.length/\RowsP G.I f s xs
 |[],xs,f,h,_=>by cases h;exact ⟨rfl,⟨fun i hi=>absurd hi (Zz _),fun i _ hi=>absurd hi (Zz _)⟩⟩
 |e::r,xs,f,h,hr=>by
  simp only [q02b] at h
  split at h
  ·rename_i x ys hx hys
   cases h
   have h0:CRep G f e:=fun j hj=>by
    have:=hr.rep 0 j (by simp) hj
    simpa using this
   obtain ⟨p1,p2⟩:=q0sf hx h0
   have hes:e.length=s:=hr.len 0 (by simp)
   have hr':RowsV G (fun m=>f (s+m)) s r:=⟨fun i hi=>hr.len (i+1) (by simpa using hi),fun i j hi hj=>by
    have:=hr.rep (i+1) j (by simpa using hi) hj
    have e1:(i+1)*s+j=s+(i*s+j):=by rw [ZO];omega
    rw [e1] at this;exact this⟩
   obtain ⟨q1,q2⟩:=q09x hys hr'
   refine ⟨by simp [q1],⟨fun i hi=> ?_,fun i j hi hj=> ?_⟩⟩
   ·cases i with
    |zero=>simp;omega
    |succ i=>exact q2.len i (by simpa using hi)
   ·cases i with
    |zero=>have:=p2 j hj;simpa using this
    |succ i=>
     have:=q2.rep i j (by simpa using hi) hj
     have e1:(i+1)*s+j=s+(i*s+j):=by rw [ZO];omega
     rw [e1];exact this
  ·cases h
theorem RowsV.put {c:Array Value} {es:List (List V)} {s i:Nat} {vs:Array Value} {el:List V} (h:RowsV G (fun m=>c.getD m undef) s es) (hsz:c.size=es.length*s) (hi:i<es.length)
  (hv:CRep G (fun j=>vs.getD j undef) el) (hl:vs.size=el.length) (hel:el.length=s):
  RowsV G (fun m=>(putAt c (i*s) vs.toList).getD m undef) s (es.set i el)/\(putAt c (i*s) vs.toList).size=(es.set i el).length*s:=by
 have hcap:i*s+s<=c.size:=by rw [hsz,<-ZO];exact Zu _ (by omega)
 have hfit:i*s+vs.toList.length<=c.size:=by simp;omega
 refine ⟨⟨fun k hk=> ?_,fun k j hk hj=> ?_⟩,by rw [q06h hfit];simpa using hsz⟩
 ·simp only [List.length_set] at hk
  rw [List.getElem_set]
  split
  ·exact hel
  ·exact h.len k hk
 ·simp only [List.length_set] at hk
  by_cases ek:i=k
  ·subst ek
   simp only [List.getElem_set_self] at hj⊢
   rw [q090 hfit _ (by omega) (by simp;omega)]
   have e9:i*s+j-i*s=j:=by omega
   have:=hv j hj
   have hlt2:j<vs.size:=by omega
   simpa [e9,Zc,hlt2] using this
  ·have hek:(es.set i el)[k]'(by simpa using hk)=es[k]:=List.getElem_set_ne ek _
   simp only [hek] at hj⊢
   have hjs:j<s:=by rw [h.len k hk] at hj;exact hj
   rw [q068 hfit _ ?_]
   ·exact h.rep k j hk hj
   ·have hvl:vs.toList.length=s:=by simp;omega
    rw [hvl]
    rcases Nat.lt_or_gt_of_ne ek with hik|hik
    ·right
     have:i*s+s<=k*s:=by rw [<-ZO];exact Zu _ hik
     omega
    ·left
     have:k*s+s<=i*s:=by rw [<-ZO];exact Zu _ hik
     omega
theorem q0ae (h:Sim N G own L S a w) {s:Nat}: ∀ {ps:List (Nat×Operand)} {qs:List (Nat×Arg)} {cells:Array Value} {es rs:List (List V)},q05s ps qs=true->
  cells.size=es.length*s->RowsV G (fun j=>cells.getD j undef) s es->fillS s es (qs.map fun (i,x)=>(i,S.arg x))=some rs->
  ∃cells',Instr.fill (fun i=>some (i*s,s)) cells (ps.map fun (i,x)=>(i,a.eval x))=some cells'/\cells'.size=rs.length*s/\RowsV G (fun j=>cells'.getD j undef) s rs/\rs.length=es.length
 |[],[],cells,es,rs,_,hsz,hr,hf=>by cases hf;exact ⟨cells,rfl,hsz,hr,rfl⟩
 |(i,x)::r,(i',b)::q,cells,es,rs,hok,hsz,hr,hf=>by
  simp only [q05s,Zb,beq_iff_eq] at hok
  obtain ⟨⟨rfl,hx⟩,hrest⟩:=hok
  simp only [Zo,fillS] at hf
  split at hf
  ·rename_i hc
   obtain ⟨hc1,hc2,hc3⟩:=hc
   obtain ⟨c1,c2,c3⟩:=q07i (q008 h hx) hc3
   obtain ⟨p1,p2⟩:=hr.put hsz hc1 c2 c1 hc2
   obtain ⟨cells',g1,g2,g3,g4⟩:=q0ae h hrest p2 p1 hf
   have hcap:i*s+s<=cells.size:=by rw [hsz,<-ZO];exact Zu _ (by omega)
   refine ⟨cells',?_,g2,g3,by simpa using g4⟩
   simp only [Zo]
   unfold Instr.fill
   have e1:(a.eval x).cells.size=s:=by rw [c1,hc2]
   have e2: ¬(i*s+(a.eval x).cells.size>cells.size):=by omega
   simp only [e1,ne_eq,not_true,decide_false,Bool.false_or]
   rw [e1] at e2
   simp only [e2,decide_false,if_false,Zh]
   rw [q0ef (by omega)]
   exact g1
  ·cases hf
 |[],_::_,_,_,_,hok,_,_,_=>by simp [q05s] at hok
 |_::_,[],_,_,_,hok,_,_,_=>by simp [q05s] at hok
theorem q0ke {z:Array Value} {m k:Nat} (h:k<m) (hz:0<z.size):(madeCells z m).getD k undef=z.getD (k%z.size) undef:=by
 have h1:k%z.size<z.size:=Nat.mod_lt _ hz
 simp [madeCells,Zc,h,h1]
theorem q091 {z:Array Value} {s m:Nat} {zero:List V} (hs:0<s) (h1:z.size=zero.length) (h2:CRep G (fun j=>z.getD j undef) zero) (hl:zero.length=s):
  RowsV G (fun j=>(madeCells z (m*s)).getD j undef) s (List.replicate m zero):=by
 refine ⟨fun i hi=>by simpa using hl,fun i j hi hj=> ?_⟩
 simp only [ZM] at hi
 simp only [List.getElem_replicate] at hj⊢
 have hlt:i*s+j<m*s:=by
  have:i*s+s<=m*s:=by rw [<-ZO];exact Zu _ hi
  omega
 rw [q0ke hlt (by omega),h1,hl]
 have e:(i*s+j)%s=j:=by rw [Nat.mul_comm,Nat.mul_add_mod];exact Nat.mod_eq_of_lt (by omega)
 rw [e]
 exact h2 j hj
theorem q0eh {t e:TypeId} {len:Nat} {parts:Array (Nat×Value)} {cells:Array Value} {ie:TypeInfo} {z:Value}
  (hu:P.underlying t=some (.slice e)) (hie:P.info? e=some ie) (hz:ie.zero=some z) (hsmall: ¬len*ie.size>2^24) (hp:0<ie.size)
  (h:Instr.fill (fun i=>some (i*ie.size,ie.size)) (madeCells z.cells (len*ie.size)) parts.toList=some cells):
  (Instr.buildSlice t len parts).run P w= .ok (.slice (some ⟨w.heap.size,0,none⟩) len len) (w.alloc (.cells cells e)):=by
 by_cases h0:len*ie.size=0
 ·have hl:len=0:=by rcases Nat.mul_eq_zero.1 h0 with h|h<;>omega
  subst hl
  have hm:madeCells z.cells (0*ie.size)= #[]:=by simp [madeCells,Array.range_zero']
  rw [hm] at h
  simp [Instr.buildSlice,run_underlying hu,sizeOf,typeInfo,hie,newRow,Array.range_zero',h]
 ·exact run_buildSlice w t e len parts cells ie z hu hie hz hsmall h0 h
theorem q0w9 {es:List (List V)} {r:V} (h:slR (some es)=some r):(es=[]/\r= .nils)\/(es≠[]/\((∃xs,q02b es=some xs/\r= .p (.sl xs))\/r= .vsl es)):=by
 unfold slR at h
 split at h
 ·rename_i hh;cases hh;cases h;exact .inl ⟨rfl,rfl⟩
 ·rename_i hne hh
  cases hh
  refine .inr ⟨fun e=>hne (by rw [e]),?_⟩
  split at h
  ·rename_i xs hx;cases h;exact .inl ⟨xs,hx,rfl⟩
  ·cases h;exact .inr rfl
 ·rename_i hh;cases hh
theorem q0Ab (hF: ∀f,F.fn f) (h:Sim N G own L S a w) (hd: ∀t,o.dst=some t->t<N) {s len:Nat} {zero:List V} {ps:List (Nat×Arg)} (hok:okIns P o.op (.bsl s len zero ps)=true)
  {cl:ClT} (hev:evIns cl o.dst (.bsl s len zero ps) S=some S') (hn: ∀a' w',Res N G own w a.defers S' a' w'->next a' w'):o.wpIn F n P a w next Q:=by
 obtain ⟨r,hr,hS⟩:=q00y hev
 simp only [okIns] at hok
 split at hok
 ·rename_i t len' parts hop
  simp only [Zb,beq_iff_eq,decide_eq_true_eq] at hok
  obtain ⟨⟨rfl,hsm⟩,hk⟩:=hok
  split at hk
  ·rename_i e hu
   simp only [Zb,beq_iff_eq,bne_iff_ne] at hk
   obtain ⟨⟨⟨⟨k1,k2⟩,k3⟩,k4⟩,k5⟩:=hk
   obtain ⟨ie,hie,rfl⟩:=q017 k1
   have hpos:0<ie.size:=Nat.pos_of_ne_zero k2
   unfold zeroB at k3
   rw [hie] at k3
   simp only at k3
   split at k3
   ·rename_i z hzz
    obtain ⟨z1,z2⟩:=q02u (G:=G) k3
    cases hf:fillS ie.size (List.replicate len zero) (ps.map fun (i,x)=>(i,S.arg x)) with
    |none=>rw [hf] at hr;cases hr
    |some rs=>
     rw [hf] at hr
     obtain ⟨cells',g1,g2,g3,g4⟩:=q0ae h k5 (cells:=madeCells z.cells (len*ie.size)) (by simp [size_madeCells]) (q091 (m:=len) hpos z1 z2 k4) hf
     simp only [ZM] at g4
     have hrun:=q0eh (w:=w) (len:=len) (parts:=parts.map fun (i,x)=>(i,a.eval x)) hu hie hzz (by omega) hpos (by simpa only [Array.toList_map] using g1)
     refine q018 hF (by rw [hop];intro c hc;cases hc) (r:= .ok (.value (.slice (some ⟨w.heap.size,0,none⟩) len len)) (w.alloc (.cells cells' e))) (by simp only [execOp,hop,Sem.run_bind,hrun];rfl) ?_
     have hsim:Sim N (G.withI w.heap.size cells') own L S a (w.alloc (.cells cells' e)):=h.change (G.le_withI _ _) rfl (fun _ _ _ _=>rfl) (h.wok.allocI cells' e)
     have hle:=G.le_withI w.heap.size cells'
     have hI: ∀i j,i<len->j<ie.size->(G.withI w.heap.size cells').I w.heap.size (0+i*ie.size+j) (cells'.getD (i*ie.size+j) undef):=by
      intro i j hi hj
      refine .inr ⟨rfl,?_⟩
      have hlt:i*ie.size+j<cells'.size:=by
       have:i*ie.size+ie.size<=len*ie.size:=by rw [<-ZO];exact Zu _ hi
       rw [g2,g4];omega
      simp [Zc,hlt]
     have hv:SRep (G.withI w.heap.size cells') L (.slice (some ⟨w.heap.size,0,none⟩) len len) r:=by
      rcases q0w9 hr with ⟨h1,rfl⟩|⟨h1,⟨xs,hx,rfl⟩|rfl⟩
      ·subst h1
       simp only [Zq] at g4
       subst g4
       exact VRep.nils _
      ·obtain ⟨q1,q2⟩:=q09x hx g3
       have hl:xs.length=len:=by omega
       have hl0:0<xs.length:=by cases rs with|nil=>exact absurd rfl h1|cons _ _=>simp at q1;omega
       rw [<-hl]
       exact VRep.p (.sl _ 0 _ ie.size xs (fun i j=>cells'.getD (i*ie.size+j) undef) hl0 (Zm _) q2.len (fun i j hi hj=>hI i j (by omega) hj) (fun i j hi hj=>(q2.rep i j hi hj).mono hle.I))
      ·have hl0:0<rs.length:=List.length_pos_iff.2 h1
       rw [<-g4]
       exact VRep.vsl _ 0 _ ie.size rs (fun i j=>cells'.getD (i*ie.size+j) undef) hl0 (Zm _) g3.len (fun i j hi hj=>hI i j (by omega) hj) (fun i j hi hj=>(g3.rep i j hi hj).mono hle)
     subst hS
     exact hn _ _ ⟨_,own,L,hsim.put hd hv,Foot.allocI cells' e,q00x ..,.alloc rfl _⟩
   ·cases k3
  ·cases hk
 ·cases hok
theorem q063 {e:TypeId} (h:q071 P e=true): ∃i,P.info? e=some i/\i.bytes<=32768:=by
 unfold q071 at h
 split at h
 ·exact ⟨_,by assumption,by simpa using h⟩
 ·cases h
theorem q092 (h:Sim N G own L S a w) {w1:World} (hw1:w1.heap=w.heap) (h1:w1.os=w.os) (h2:w1.tape=w.tape) (h3:w1.output=w.output) {c:Array Value} {e:TypeId} {s cap:Nat} {es:List (List V)}
  (hsz:c.size=cap*s) (hcap:es.length<=cap) (hr:RowsV G (fun m=>c.getD m undef) s es) (hone: ∀e∈es,e.all V.oneB=true):
  ∃G' own',Sim N G' own' L {S with hp:=S.hp++[DObj.row s es]} a (w1.alloc (.cells c e))/\Foot G own w G' own' (w1.alloc (.cells c e))/\
   VRep G' (.slice (some ⟨w.heap.size,0,none⟩) es.length cap) (.row S.hp.length es.length 0 es.length):=by
 have hwok:WOK G own S.hp L S.loc w1:=h.wok.frame (by rw [hw1];exact Zm _) (fun b _=>by rw [hw1])
 have hf1:Foot G own w G own w1:= .frame (by rw [hw1];exact Zm _) (fun b _=>by rw [hw1]) h1 h2 h3
 have hsz1:w1.heap.size=w.heap.size:=by rw [hw1]
 have hn:=h.wok.row_new es.length
 have hle:=Gh.le_withRow (r:= .at w.heap.size s cap) hn
 refine ⟨G.withRow S.hp.length es.length (.at w.heap.size s cap),upd own w1.heap.size (.obj S.hp.length),h.change hle rfl (fun _ _ _ _=>rfl) ?_,hf1.trans (.newOwn _ _ c e hle rfl),?_⟩
 ·refine hwok.newObj (.row s es) _ c e hle rfl ?_ ?_ ?_ ?_ ?_
  ·intro i b hi;have:=h.wok.dom i b hi;omega
  ·intro i t r hi
   simp only [Gh.withRow] at hi
   split at hi
   ·rename_i hh;omega
   ·have:=h.wok.domr i t r hi;omega
  ·intro i t r hi hr
   simp only [Gh.withRow] at hr
   rw [if_neg (by omega)] at hr;exact hr
  ·intro s' es' hh t r hr
   cases hh
   simp only [Gh.withRow] at hr
   split at hr
   ·rename_i hh;omega
   ·rw [h.wok.row_new t] at hr;cases hr
  ·refine .inr ⟨w1.heap.size,cap,c,by simp [Gh.withRow,hsz1],q01n ..,q03t w1 c e,hsz,hcap,hr.len,fun i j hi hj=>(hr.rep i j hi hj).mono hle,hone⟩
 ·have:=VRep.row (G:=G.withRow S.hp.length es.length (.at w.heap.size s cap)) S.hp.length es.length 0 es.length w.heap.size s cap (by simp [Gh.withRow]) (by omega) hcap
  simpa using this
theorem q04z {S:St} {s:Nat} {es:Option (List (List V))} {r:V} {S1:St} (h:rowI S s es=some (r,S1)): ∃l,es=some l/\l.all (okEl s)=true/\r= .row S.hp.length l.length 0 l.length/\S1= {S with hp:=S.hp++[DObj.row s l]}:=by
 unfold rowI at h
 split at h
 ·split at h
  ·cases h;exact ⟨_,rfl,by assumption,rfl,rfl⟩
  ·cases h
 ·cases h
theorem q0Ac (hF: ∀f,F.fn f) (h:Sim N G own L S a w) (hd: ∀t,o.dst=some t->t<N) {s len:Nat} {zero:List V} {ps:List (Nat×Arg)} (hok:okIns P o.op (.bsr s len zero ps)=true)
  {cl:ClT} (hev:evIns cl o.dst (.bsr s len zero ps) S=some S') (hn: ∀a' w',Res N G own w a.defers S' a' w'->next a' w'):o.wpIn F n P a w next Q:=by
 obtain ⟨r,S1,hr,hS⟩:=q01v hev
 simp only [okIns] at hok
 split at hok
 ·rename_i t len' parts hop
  simp only [Zb,beq_iff_eq,decide_eq_true_eq] at hok
  obtain ⟨⟨rfl,hsm⟩,hk⟩:=hok
  split at hk
  ·rename_i e hu
   simp only [Zb,beq_iff_eq,bne_iff_ne] at hk
   obtain ⟨⟨⟨⟨k1,k2⟩,k3⟩,k4⟩,k5⟩:=hk
   obtain ⟨ie,hie,rfl⟩:=q017 k1
   have hpos:0<ie.size:=Nat.pos_of_ne_zero k2
   unfold zeroB at k3
   rw [hie] at k3
   simp only at k3
   split at k3
   ·rename_i z hzz
    obtain ⟨z1,z2⟩:=q02u (G:=G) k3
    obtain ⟨rs,hf,hall,rfl,rfl⟩:=q04z hr
    obtain ⟨cells',g1,g2,g3,g4⟩:=q0ae h k5 (cells:=madeCells z.cells (len*ie.size)) (by simp [size_madeCells]) (q091 (m:=len) hpos z1 z2 k4) hf
    simp only [ZM] at g4
    have hrun:=q0eh (w:=w) (len:=len) (parts:=parts.map fun (i,x)=>(i,a.eval x)) hu hie hzz (by omega) hpos (by simpa only [Array.toList_map] using g1)
    obtain ⟨G',own',q1,q2,q3⟩:=q092 h (w1:=w) rfl rfl rfl rfl (c:=cells') (e:=e) (s:=ie.size) (cap:=len) (es:=rs) (by rw [g2,g4]) (by omega) g3 (fun e he=>by
     have:=Zn.1 hall e he
     simp only [okEl,Zb] at this
     exact this.2)
    refine q018 hF (by rw [hop];intro c hc;cases hc) (r:= .ok (.value (.slice (some ⟨w.heap.size,0,none⟩) len len)) (w.alloc (.cells cells' e))) (by simp only [execOp,hop,Sem.run_bind,hrun];rfl) ?_
    subst hS
    rw [g4] at q3
    exact hn _ _ ⟨G',own',L,q1.put hd (.of (by rw [g4];exact q3)),q2,q00x ..,.alloc rfl _⟩
   ·cases k3
  ·cases hk
 ·cases hok
theorem q0Ad (hF: ∀f,F.fn f) (h:Sim N G own L S a w) (hd: ∀t,o.dst=some t->t<N) {s:Nat} {zero:List V} {x:Arg} (hok:okIns P o.op (.mks s zero x)=true)
  {cl:ClT} (hev:evIns cl o.dst (.mks s zero x) S=some S') (hn: ∀a' w',Res N G own w a.defers S' a' w'->next a' w'):o.wpIn F n P a w next Q:=by
 obtain ⟨r,S1,hr,hS⟩:=q01v hev
 simp only [okIns] at hok
 split at hok
 ·rename_i t l c hop
  simp only [Zb] at hok
  obtain ⟨⟨h1,h2⟩,hk⟩:=hok
  split at hk
  ·rename_i e hu
   simp only [Zb,beq_iff_eq,bne_iff_ne] at hk
   obtain ⟨⟨⟨⟨⟨k1,k2⟩,k3⟩,k4⟩,k5⟩,k6⟩:=hk
   obtain ⟨ie,hie,rfl⟩:=q017 k1
   have hpos:0<ie.size:=Nat.pos_of_ne_zero k2
   obtain ⟨ie',hie',hby⟩:=q063 k3
   rw [hie] at hie';cases hie'
   unfold zeroB at k4
   rw [hie] at k4
   simp only at k4
   split at k4
   ·rename_i z hzz
    unfold mksI at hr
    split at hr
    ·rename_i kk m hx
     split at hr
     ·rename_i hc
      obtain ⟨hc1,hc2⟩:=hc
      cases hr
      have r1:=q008 h h1
      have r2:=q008 h h2
      rw [hx] at r1 r2
      have e1:=q00t r1
      have e2:=q00t r2
      obtain ⟨m',rfl⟩:=Int.eq_ofNat_of_zero_le hc1
      simp only [Int.toNat_natCast] at hc2⊢
      obtain ⟨z1,z2⟩:=q02u (G:=G) k4
      simp only [most] at hc2
      have hb:(ie.bytes:Int)*(m':Int)<=281474976710656:=by
       have:ie.bytes*m'<=32768*4294967296:=Nat.mul_le_mul hby (by omega)
       have h':((ie.bytes*m':Nat):Int)<=281474976710656:=by omega
       rwa [Int.natCast_mul] at h'
      have hrun:=run_make (P:=P) w t e ie z hu hie hzz kk kk (m':Int) (m':Int) (by omega) (ZS _) hb (by omega)
      simp only [Int.toNat_natCast] at hrun
      have hrows:RowsV G (fun j=>(madeCells z.cells (m'*ie.size)).getD j undef) ie.size (List.replicate m' zero):=q091 hpos z1 z2 k5
      obtain ⟨G',own',q1,q2,q3⟩:=q092 h (w1:=w) rfl rfl rfl rfl (e:=e) (s:=ie.size) (cap:=m') (es:=List.replicate m' zero) (by simp [size_madeCells]) (by simp) hrows (fun e he=>by rw [(List.mem_replicate.1 he).2];exact k6)
      simp only [ZM] at q3
      refine q018 hF (by rw [hop];intro c hc;cases hc) (r:= .ok (.value (.slice (some ⟨w.heap.size,0,none⟩) m' m')) (w.alloc (.cells (madeCells z.cells (m'*ie.size)) e))) ?_ ?_
      ·simp only [execOp,hop,e1,e2,Sem.run_bind,hrun];rfl
      ·subst hS
       exact hn _ _ ⟨G',own',L,q1.put hd (.of q3),q2,q00x ..,.alloc rfl _⟩
     ·cases hr
    ·cases hr
   ·cases k4
  ·cases hk
 ·cases hok
theorem q0De {zero:List PV} {cs:List Value} (h:q040 cs (zero.map fun x=>match x with| .sl []=>V.nils|x=> .p x)=true):cs.length=zero.length/\ ∀j (hj:j<zero.length),PRep G.I (cs.getD j undef) (zero[j]):=by
 obtain ⟨h1,h2⟩:=q07w (G:=G) h
 refine ⟨by simpa using h1,fun j hj=> ?_⟩
 have:=h2 j (by simpa using hj)
 simp only [Z1] at this
 generalize cs.getD j undef=z at this⊢
 split at this
 ·rename_i hh
  rw [hh]
  cases this with|nils ad=>exact .sl0 ad 0
 ·cases this with|p hp=>exact hp
theorem q0Ae (hF: ∀f,F.fn f) (h:Sim N G own L S a w) (hd: ∀t,o.dst=some t->t<N) {s:Nat} {zero:List PV} {x:Arg} (hok:okIns P o.op (.mkz s zero x)=true)
  {cl:ClT} (hev:evIns cl o.dst (.mkz s zero x) S=some S') (hn: ∀a' w',Res N G own w a.defers S' a' w'->next a' w'):o.wpIn F n P a w next Q:=by
 have hev':retS S o.dst (mkzV zero (S.arg x))=some S':=hev
 obtain ⟨r,hr,hS⟩:=q00y hev'
 simp only [okIns] at hok
 split at hok
 ·rename_i t l c hop
  simp only [Zb] at hok
  obtain ⟨⟨h1,h2⟩,hk⟩:=hok
  split at hk
  ·rename_i e hu
   simp only [Zb,beq_iff_eq,bne_iff_ne] at hk
   obtain ⟨⟨⟨⟨k1,k2⟩,k3⟩,k4⟩,k5⟩:=hk
   obtain ⟨ie,hie,rfl⟩:=q017 k1
   have hpos:0<ie.size:=Nat.pos_of_ne_zero k2
   obtain ⟨ie',hie',hby⟩:=q063 k3
   rw [hie] at hie';cases hie'
   unfold q0s5 at k4
   rw [hie] at k4
   simp only at k4
   split at k4
   ·rename_i z hzz
    unfold mkzV at hr
    split at hr
    ·rename_i kk m hx
     split at hr
     ·rename_i hc
      obtain ⟨hc1,hc2⟩:=hc
      cases hr
      have r1:=q008 h h1
      have r2:=q008 h h2
      rw [hx] at r1 r2
      have e1:=q00t r1
      have e2:=q00t r2
      obtain ⟨m',rfl⟩:=Int.eq_ofNat_of_zero_le hc1
      simp only [Int.toNat_natCast] at hc2 hS
      obtain ⟨z1,z2⟩:=q0De (G:=G) k4
      simp only [most] at hc2
      have hb:(ie.bytes:Int)*(m':Int)<=281474976710656:=by
       have:ie.bytes*m'<=32768*4294967296:=Nat.mul_le_mul hby (by omega)
       have h':((ie.bytes*m':Nat):Int)<=281474976710656:=by omega
       rwa [Int.natCast_mul] at h'
      have hrun:=run_make (P:=P) w t e ie z hu hie hzz kk kk (m':Int) (m':Int) (by omega) (ZS _) hb (by omega)
      simp only [Int.toNat_natCast] at hrun
      have hle:=G.le_withI w.heap.size (madeCells z.cells (m'*ie.size))
      have hzs:z.cells.size=ie.size:=by rw [<-k5,<-z1];simp
      refine q018 hF (by rw [hop];intro c hc;cases hc) (r:= .ok (.value (.slice (some ⟨w.heap.size,0,none⟩) m' m')) (w.alloc (.cells (madeCells z.cells (m'*ie.size)) e))) ?_ ?_
      ·simp only [execOp,hop,e1,e2,Sem.run_bind,hrun];rfl
      ·have hsim:Sim N (G.withI w.heap.size (madeCells z.cells (m'*ie.size))) own L S a (w.alloc (.cells (madeCells z.cells (m'*ie.size)) e)):=h.change hle rfl (fun _ _ _ _=>rfl) (h.wok.allocI _ e)
       have hv:SRep (G.withI w.heap.size (madeCells z.cells (m'*ie.size))) L (.slice (some ⟨w.heap.size,0,none⟩) m' m') (.p (.sl (List.replicate m' zero))):=by
        by_cases hm0:m'=0
        ·subst hm0;exact VRep.p (.sl0 _ _)
        ·have key:PRep (G.withI w.heap.size (madeCells z.cells (m'*ie.size))).I (.slice (some ⟨w.heap.size,0,none⟩) (List.replicate m' zero).length m') (.sl (List.replicate m' zero)):=by
          refine .sl w.heap.size 0 m' ie.size _ (fun i j=>(madeCells z.cells (m'*ie.size)).getD (i*ie.size+j) undef) (by simp;omega) (by simp) (fun i hi=>by simpa using k5) (fun i j hi hj=> ?_) (fun i j hi hj=> ?_)
          ·simp only [ZM] at hi
           refine .inr ⟨rfl,?_⟩
           have hlt:i*ie.size+j<(madeCells z.cells (m'*ie.size)).size:=by
            have:i*ie.size+ie.size<=m'*ie.size:=by rw [<-ZO];exact Zu _ hi
            simp [size_madeCells];omega
           simp only [Zs]
           exact q0by hlt
          ·simp only [ZM] at hi
           simp only [List.getElem_replicate] at hj⊢
           have hlt:i*ie.size+j<m'*ie.size:=by
            have:i*ie.size+ie.size<=m'*ie.size:=by rw [<-ZO];exact Zu _ hi
            omega
           rw [q0ke hlt (by omega),hzs]
           have e9:(i*ie.size+j)%ie.size=j:=by rw [Nat.mul_comm,Nat.mul_add_mod];exact Nat.mod_eq_of_lt (by omega)
           rw [e9]
           have:=(z2 j hj).mono hle.I
           simpa [ZB,Zc] using this
         simp only [ZM] at key
         exact .p key
       subst hS
       exact hn _ _ ⟨_,own,L,hsim.put hd hv,Foot.allocI _ e,q00x ..,.alloc rfl _⟩
     ·cases hr
    ·cases hr
   ·cases k4
  ·cases hk
 ·cases hok
end
section
variable {F:Fence} {n:Nat} {P:Program} {o:Oper} {a:Act} {w:World} {Q:Exit->Act->World->Prop}
variable {N:Nat} {G:Gh} {own:Own} {L:Nat->Option Nat} {S S':St} {next:Act->World->Prop}
theorem PRep.one {I:Nat->Nat->Value->Prop} {v:Value} {x:PV} (h:PRep I v x):v.oneCell'=true:=by cases h<;>rfl
theorem VRep.one' {G:Gh} {v:Value} {x:V} (h:VRep G v x) (ho:x.oneB=true):v.oneCell'=true:=by
 cases h with
 |p hp=>exact hp.one
 |agg=>cases ho
 |tup=>cases ho
 |undef=>cases ho
 |_=>rfl
theorem RowsV.at {f:Nat->Value} {s:Nat} {es:List (List V)} (h:RowsV G f s es) (hone: ∀e∈es,e.all V.oneB=true) (hs:0<s) {m:Nat} (hm:m<es.length*s):(f m).oneCell'=true:=by
 have hi:m/s<es.length:=(Nat.div_lt_iff_lt_mul hs).2 hm
 have hj:m%s<(es[m/s]).length:=by rw [h.len _ hi];exact Nat.mod_lt _ hs
 have:=h.rep (m/s) (m%s) hi hj
 have e:m/s*s+m%s=m:=by rw [Nat.mul_comm];exact Nat.div_add_mod m s
 rw [e] at this
 exact this.one' (Zn.1 (hone _ (ZK hi)) _ (ZK hj))
theorem q0Af (es:List (List PV)):(upV es).length=es.length:=by simp [upV]
theorem q0Sh (es:List (List PV)): ∀e∈upV es,e.all V.oneB=true:=by
 intro e he
 obtain ⟨x,-,rfl⟩:=ZJ.1 he
 simp [Zn]
theorem RowsV.append {f g k:Nat->Value} {s:Nat} {es ys:List (List V)} (h1:RowsV G f s es) (h2:RowsV G g s ys) (e1: ∀m,m<es.length*s->k m=f m)
  (e2: ∀m,m<ys.length*s->k (es.length*s+m)=g m):RowsV G k s (es++ys):=by
 refine ⟨fun i hi=> ?_,fun i j hi hj=> ?_⟩
 ·rw [List.getElem_append]
  split
  ·exact h1.len _ _
  ·exact h2.len _ _
 ·rcases Z2 i es.length with hlt|hge
  ·have he:(es++ys)[i]=es[i]:=ZP hlt
   simp only [he] at hj⊢
   have hjs:j<s:=by rw [h1.len i hlt] at hj;exact hj
   have:i*s+s<=es.length*s:=by rw [<-ZO];exact Zu _ hlt
   rw [e1 _ (by omega)]
   exact h1.rep i j hlt hj
  ·have hi':i-es.length<ys.length:=by simp at hi;omega
   have he:(es++ys)[i]=ys[i-es.length]:=ZR hge
   simp only [he] at hj⊢
   have hjs:j<s:=by rw [h2.len _ hi'] at hj;exact hj
   have e3:i*s+j=es.length*s+((i-es.length)*s+j):=by
    have:i*s=es.length*s+(i-es.length)*s:=by rw [<-Nat.add_mul];congr 1;omega
    omega
   have:(i-es.length)*s+s<=ys.length*s:=by rw [<-ZO];exact Zu _ hi'
   rw [e3,e2 _ (by omega)]
   exact h2.rep _ j hi' hj
theorem q07j {t e':TypeId} (hk:P.underlying t=some (.slice e')) (b off n cap s:Nat) (f:Nat->Value) (hc: ∀m,m<n*s->w.cell? ⟨b,off+m,none⟩=some (f m))
  (h1: ∀m,m<n*s->(f m).oneCell'=true):Src P s t (.slice (some ⟨b,off,none⟩) n cap) n ((List.range (n*s)).map f) w:=by
 refine Src.ofSlice w hk ⟨b,off,none⟩ n cap _ (by simp) ?_ ?_
 ·intro j u hj
  simp only [List.getElem?_map] at hj
  by_cases hlt:j<n*s
  ·simp [hlt] at hj
   subst hj
   rw [Addr.add_lit]
   exact hc j hlt
  ·simp [hlt] at hj
 ·intro u hu
  simp at hu
  obtain ⟨m,hm,rfl⟩:=hu
  exact h1 m hm
theorem q0jh {f:Nat->Value} {k m:Nat} (h:m<k):((List.range k).map f).getD m undef=f m:=by simp [ZB,h]
theorem q0oh {H:Heap} {loc:List (Nat×List V)} (hw:WOK G own H L loc w) {t e':TypeId} (hk:P.underlying t=some (.slice e')) {s:Nat} (hs:0<s) {ys:List (List V)} {b off cap:Nat} {c:Nat->Nat->Value}
  (hlen: ∀i (hi:i<ys.length),(ys[i]).length=s) (hone: ∀e∈ys,e.all V.oneB=true) (hI: ∀i j,i<ys.length->j<s->G.I b (off+i*s+j) (c i j))
  (hR: ∀i j (hi:i<ys.length) (hj:j<(ys[i]).length),VRep G (c i j) ((ys[i])[j])):
  ∃news f,Src P s t (.slice (some ⟨b,off,none⟩) ys.length cap) ys.length news w/\news=(List.range (ys.length*s)).map f/\RowsV G f s ys:=by
 have hrow:RowsV G (fun m=>c (m/s) (m%s)) s ys:=by
  refine ⟨hlen,fun i j hi hj=> ?_⟩
  have hjs:j<s:=by rw [hlen i hi] at hj;exact hj
  have e1:(i*s+j)/s=i:=by rw [Nat.mul_comm,Nat.mul_add_div hs,Nat.div_eq_of_lt hjs];omega
  have e2:(i*s+j)%s=j:=by rw [Nat.mul_comm,Nat.mul_add_mod];exact Nat.mod_eq_of_lt hjs
  simp only [e1,e2]
  exact hR i j hi hj
 refine ⟨_,_,q07j hk b off ys.length cap s (fun m=>c (m/s) (m%s)) (fun m hm=> ?_) (fun m hm=>hrow.at hone hs hm),rfl,hrow⟩
 have hi:m/s<ys.length:=(Nat.div_lt_iff_lt_mul hs).2 hm
 have:=hw.imm _ _ _ (hI (m/s) (m%s) hi (Nat.mod_lt _ hs))
 have e:off+m/s*s+m%s=off+m:=by have:=Nat.div_add_mod m s;rw [Nat.mul_comm] at this;omega
 rw [e] at this
 exact this
theorem q0Ag {H:Heap} {loc:List (Nat×List V)} (hw:WOK G own H L loc w) {t e':TypeId} (hk:P.underlying t=some (.slice e')) {s:Nat} (hs:0<s) {v:Value} {y:V} {ys:List (List V)}
  (hv:SRep G L v y) (he:elems H y=some ys) (hall:ys.all (okEl s)=true):
  (∀e∈ys,e.all V.oneB=true)/\ ∃news f,Src P s t v ys.length news w/\news=(List.range (ys.length*s)).map f/\RowsV G f s ys:=by
 have nothing: ∀ {ad:Option Addr} {cap:Nat},Src P s t (.slice ad 0 cap) 0 [] w:=by
  intro ad cap
  cases ad with
  |none=>exact Src.ofNil w hk cap
  |some ad=>exact Src.ofSlice w hk ad 0 cap [] (by simp) (fun j u h=>by simp at h) (fun u h=>by cases h)
 have norows:RowsV G (fun _=>undef) s []:=⟨fun i hi=>absurd hi (Zz _),fun i _ hi=>absurd hi (Zz _)⟩
 have hlen: ∀i (hi:i<ys.length),(ys[i]).length=s:=fun i hi=>by
  have:=Zn.1 hall _ (ZK hi)
  simp only [okEl,Zb] at this
  simpa using this.1
 have hone: ∀e∈ys,e.all V.oneB=true:=fun e he'=>by
  have:=Zn.1 hall _ he'
  simp only [okEl,Zb] at this
  exact this.2
 refine ⟨hone,?_⟩
 unfold elems at he
 split at he
 ·rename_i es
  cases he
  cases hv with
  |p hp=>
   cases hp with
   |sl0 ad cap=>exact ⟨[],fun _=>undef,nothing,by simp [upV],norows⟩
   |sl b off cap s' _ c hn hc hs' hI hR=>
    have hl:(upV es).length=es.length:=q0Af es
    have hg: ∀i (hi:i<(upV es).length),(upV es)[i]=(es[i]'(by omega)).map .p:=fun i hi=>by simp [upV]
    have hss:s'=s:=by rw [<-hs' 0 hn,<-hlen 0 (by omega),hg 0 (by omega)];simp
    subst hss
    have:=q0oh (cap:=cap) hw hk hs (ys:=upV es) (b:=b) (off:=off) (c:=c) hlen hone (fun i j hi hj=>hI i j (by omega) hj) (fun i j hi hj=>by
     simp only [hg i hi] at hj⊢
     simp only [Z1]
     exact .p (hR i j (by omega) (by simpa using hj)))
    rw [hl] at this⊢
    exact this
 ·rename_i es
  cases he
  cases hv with
  |vsl0 ad cap=>exact ⟨[],fun _=>undef,nothing,by simp,norows⟩
  |vsl b off cap s' _ c hn hc hs' hI hR=>
   have hss:s'=s:=by rw [<-hs' 0 hn,hlen 0 hn]
   subst hss
   exact q0oh hw hk hs hlen hone hI hR
 ·cases he
  cases hv with|nils ad=>exact ⟨[],fun _=>undef,nothing,by simp,norows⟩
 ·cases he
  cases hv with
  |mtn c=>exact ⟨[],fun _=>undef,nothing,by simp,norows⟩
  |mts ad c=>exact ⟨[],fun _=>undef,nothing,by simp,norows⟩
 ·cases he
  cases hv;exact ⟨[],fun _=>undef,nothing,by simp,norows⟩
 ·rename_i id off len s0
  cases hbx:boxAt H id with
  |none=>rw [hbx] at he;cases he
  |some cs=>
   rw [hbx] at he
   simp only [Ze] at he
   split at he
   ·rename_i hfit
    cases he
    cases hv with
    |bvs _ _ _ _ b cap hb hcc hl=>
     obtain ⟨b',c,q1,q2,q3,q4,q5⟩:=hw.obj id _ (q05f hbx)
     rw [hb] at q1;cases q1
     have h0:=hlen 0 (by simpa using hl)
     have hs0:s0=s:=by
      have hle1:s0<=len*s0:=Nat.le_mul_of_pos_left _ hl
      simp at h0;omega
     subst hs0
     have hrow:RowsV G (fun m=>c.getD (off+m) undef) s0 ((List.range len).map fun i=>(cs.drop (off+i*s0)).take s0):=by
      refine ⟨hlen,fun i j hi hj=> ?_⟩
      simp only [Z0,List.length_range] at hi
      simp only [Z1,List.getElem_range,ZC,List.length_drop] at hj⊢
      have h9:i*s0+s0<=len*s0:=by rw [<-ZO];exact Zu _ hi
      have:=q5 (off+(i*s0+j)) (by omega)
      simp only [List.getElem_take,Z7]
      have e9:off+i*s0+j=off+(i*s0+j):=by omega
      simp only [e9]
      exact this
     refine ⟨_,_,?_,rfl,hrow⟩
     simp only [Z0,List.length_range]
     refine q07j hk b off len cap s0 (fun m=>c.getD (off+m) undef) (fun m hm=> ?_) (fun m hm=>hrow.at hone hs (by simpa using hm))
     rw [q3.cell]
     have hlt:off+m<c.size:=by omega
     simp [Zc,hlt]
   ·cases he
 ·rename_i id tot off len
  cases hro:rowAt H id with
  |none=>rw [hro] at he;cases he
  |some p=>
   obtain ⟨s',es⟩:=p
   rw [hro] at he
   simp only [Ze] at he
   split at he
   ·rename_i hc1
    cases he
    cases hv with
    |rown _ h0=>
     simp only [ZG,List.take_zero]
     exact ⟨[],fun _=>undef,nothing,by simp,norows⟩
    |rowz _ _ _ h0 ad cap=>
     simp only [List.take_zero]
     exact ⟨[],fun _=>undef,nothing,by simp,norows⟩
    |row _ _ _ _ b s'' cap hg h1 h2=>
     obtain ⟨rfl,c,e2,e3,e4,e5,e6,e7,e8⟩:=q04v hw hro (hc1▸hg)
     by_cases hz:len=0
     ·subst hz
      simp only [List.take_zero]
      exact ⟨[],fun _=>undef,nothing,by simp,norows⟩
     ·have hl:((es.drop off).take len).length=len:=by simp;omega
      have hi0:off<es.length:=by omega
      have hss:s''=s:=by
       have h5:=hlen 0 (by omega)
       simp only [List.getElem_take,Z7,Nat.add_zero] at h5
       rw [<-e6 off hi0,h5]
      subst hss
      have hrow:RowsV G (fun m=>c.getD (off*s''+m) undef) s'' ((es.drop off).take len):=by
       refine ⟨hlen,fun i j hi hj=> ?_⟩
       have hi':off+i<es.length:=by rw [hl] at hi;omega
       have he:((es.drop off).take len)[i]=es[off+i]:=by simp
       simp only [he] at hj⊢
       have:=e7 (off+i) j hi' hj
       have e9:off*s''+(i*s''+j)=(off+i)*s''+j:=by rw [Nat.add_mul];omega
       rw [e9];exact this
      rw [hl]
      refine ⟨_,_,q07j hk b (off*s'') len (cap-off) s'' (fun m=>c.getD (off*s''+m) undef) (fun m hm=> ?_) (fun m hm=>hrow.at hone hs (by rw [hl];exact hm)),rfl,hrow⟩
      rw [e3.cell]
      have hlt:off*s''+m<c.size:=by
       have:(off+len)*s''<=cap*s'':=Zu _ (by omega)
       rw [Nat.add_mul] at this;omega
      simp [Zc,hlt]
   ·cases he
 ·cases he
theorem q0kf {t ty e:TypeId} {i:TypeInfo} (ht:P.underlying t=some (.slice e)) (hi:P.info? e=some i) {g sLen sCap:Nat} {cur:Array Value} (hg:BlockIs w g cur)
  {x:Value} {m:Nat} {news:List Value} (hs:Src P i.size t x m news w) (hroom:sLen+m<=sCap) (hfit:sLen*i.size+news.length<=cur.size):
  (Builtin.append_ #[t,t] ty #[.slice (some ⟨g,0,none⟩) sLen sCap,x]).run P w= .ok (.slice (some ⟨g,0,none⟩) (sLen+m) sCap) (w.setRow g (putAt cur (sLen*i.size) news)):=by
 have hst:=q06i (P:=P) hg hfit hs.one
 simp [Builtin.append_,run_underlying ht,sizeOf,typeInfo,hi,hs.len,hroom,hs.cells,Addr.add_lit,hst]
theorem q0qa (z:Array Value) (m:Nat):(Builtin.zeroCells z m).size=m*z.size:=by simp [Builtin.zeroCells]
theorem q0Ah (h:Sim N G own L S a w) {id s tot b cap:Nat} {es ys:List (List V)} (hro:rowAt S.hp id=some (s,es)) (htot:es.length=tot) (hg:G.rows id tot=some (.at b s cap)) (_hs:0<s)
  {f:Nat->Value} (hy:RowsV G f s ys) (hye: ∀e∈ys,e.all V.oneB=true) (hes: ∀e∈es,e.all V.oneB=true) (hroom:tot+ys.length<=cap) {c:Array Value} (hb:BlockIs w b c) (hob:own b=some (.obj id)) (hsz:c.size=cap*s) (hrow:RowsV G (fun m=>c.getD m undef) s es):
  ∃G',Sim N G' own L {S with hp:=S.hp.set id (.row s (es++ys)),dirty:=addD S.base id S.dirty} a (w.setRow b (putAt c (tot*s) ((List.range (ys.length*s)).map f)))/\
   Foot G own w G' own (w.setRow b (putAt c (tot*s) ((List.range (ys.length*s)).map f)))/\VRep G' (.slice (some ⟨b,0,none⟩) (tot+ys.length) cap) (.row id (tot+ys.length) 0 (tot+ys.length)):=by
 subst htot
 have hlt:id<S.hp.length:=(Za.1 (q01r hro)).1
 have hle:G.Le (G.withRow id (es.length+ys.length) (.at b s cap)):=by
  by_cases h0:ys.length=0
  ·refine ⟨fun _ _ _ x=>x,fun _ _ x=>x,fun i t r x=> ?_,rfl⟩
   simp only [Gh.withRow]
   split
   ·rename_i hh
    obtain ⟨rfl,rfl⟩:=hh
    rw [h0,Nat.add_zero,hg] at x;exact x
   ·exact x
  ·refine Gh.le_withRow ?_
   cases hx:G.rows id (es.length+ys.length) with
   |none=>rfl
   |some r=>have:=h.wok.top id s es (q01r hro) _ _ hx;omega
 have hfit:es.length*s+((List.range (ys.length*s)).map f).length<=c.size:=by
  simp only [Z0,List.length_range]
  rw [hsz,<-Nat.add_mul];exact Zu _ hroom
 have hrows:RowsV G (fun m=>(putAt c (es.length*s) ((List.range (ys.length*s)).map f)).getD m undef) s (es++ys):=by
  refine hrow.append hy (fun m hm=>q068 hfit m (.inl hm)) (fun m hm=> ?_)
  rw [q090 hfit _ (by omega) (by simp;omega)]
  simp
 refine ⟨G.withRow id (es.length+ys.length) (.at b s cap),h.change hle rfl (fun _ _ _ _=>rfl) ?_,.write hob _ _ hle rfl,?_⟩
 ·refine h.wok.write hob _ _ hle rfl _ _ (by simp) h.wok.dom (fun i t r hi=> ?_) (fun i s' es' hi t r hr=> ?_) (fun i o hi=> ?_) (fun s' cs hc=> .inl ⟨hc,by simp⟩)
  ·simp only [Gh.withRow] at hi
   split at hi
   ·rename_i hh;omega
   ·exact h.wok.domr i t r hi
  ·by_cases e:i=id
   ·subst e
    simp [hlt] at hi
    obtain ⟨-,rfl⟩:=hi
    simp only [Gh.withRow] at hr
    split at hr
    ·rename_i hh;simp;omega
    ·have:=h.wok.top _ s es (q01r hro) _ _ hr;simp;omega
   ·rw [Zr (Ne.symm e)] at hi
    simp only [Gh.withRow] at hr
    rw [if_neg (by omega)] at hr
    exact h.wok.top i s' es' hi t r hr
  ·by_cases e:i=id
   ·subst e
    simp [hlt] at hi
    subst hi
    refine .inr (.inr ⟨b,cap,_,by simp [Gh.withRow],hob,q03e hb _,by rw [q06h hfit];exact hsz,by simpa using hroom,hrows.len,fun i j hi hj=>(hrows.rep i j hi hj).mono hle,fun e he=>(ZY.1 he).elim (hes e) (hye e)⟩)
   ·simp only [Zr (Ne.symm e)] at hi
    exact .inl ⟨hi,by intro hh;injection hh with hh;exact e hh.symm⟩
 ·have:=VRep.row (G:=G.withRow id (es.length+ys.length) (.at b s cap)) id (es.length+ys.length) 0 (es.length+ys.length) b s cap (by simp [Gh.withRow]) (by omega) hroom
  simpa using this
theorem q0di (h:Sim N G own L S a w) {w1:World} (hw1:w1.heap=w.heap) (h1:w1.os=w.os) (h2:w1.tape=w.tape) (h3:w1.output=w.output) {id s cap:Nat} {es ys:List (List V)} (hro:rowAt S.hp id=some (s,es))
  (hy0:0<ys.length) {c:Array Value} {e:TypeId} (hsz:c.size=cap*s) (hcap:es.length+ys.length<=cap) (hr:RowsV G (fun m=>c.getD m undef) s (es++ys)) (hone: ∀e∈es++ys,e.all V.oneB=true):
  ∃G' own',Sim N G' own' L {S with hp:=S.hp.set id (.row s (es++ys)),dirty:=addD S.base id S.dirty} a (w1.alloc (.cells c e))/\Foot G own w G' own' (w1.alloc (.cells c e))/\
   VRep G' (.slice (some ⟨w.heap.size,0,none⟩) (es.length+ys.length) cap) (.row id (es.length+ys.length) 0 (es.length+ys.length)):=by
 have hwok:WOK G own S.hp L S.loc w1:=h.wok.frame (by rw [hw1];exact Zm _) (fun b _=>by rw [hw1])
 have hf1:Foot G own w G own w1:= .frame (by rw [hw1];exact Zm _) (fun b _=>by rw [hw1]) h1 h2 h3
 have hsz1:w1.heap.size=w.heap.size:=by rw [hw1]
 have hlt:id<S.hp.length:=(Za.1 (q01r hro)).1
 have hn:G.rows id (es.length+ys.length)=none:=by
  cases hx:G.rows id (es.length+ys.length) with
  |none=>rfl
  |some r=>have:=h.wok.top id s es (q01r hro) _ _ hx;omega
 have hle:=Gh.le_withRow (r:= .at w.heap.size s cap) hn
 refine ⟨G.withRow id (es.length+ys.length) (.at w.heap.size s cap),upd own w1.heap.size (.obj id),h.change hle rfl (fun _ _ _ _=>rfl) ?_,hf1.trans (.newOwn _ _ c e hle rfl),?_⟩
 ·refine hwok.newOwn id (S.hp.set id (.row s (es++ys))) _ c e hle rfl ?_ ?_ ?_ ?_
  ·intro i b hi;have:=h.wok.dom i b hi;simpa using this
  ·intro i t r hi
   simp only [Gh.withRow] at hi
   split at hi
   ·rename_i hh;simp;omega
   ·have:=h.wok.domr i t r hi;simpa using this
  ·intro i s' es' hi t r hr
   by_cases e:i=id
   ·subst e
    simp [hlt] at hi
    obtain ⟨-,rfl⟩:=hi
    simp only [Gh.withRow] at hr
    split at hr
    ·rename_i hh;simp;omega
    ·have:=h.wok.top _ s es (q01r hro) _ _ hr;simp;omega
   ·rw [Zr (Ne.symm e)] at hi
    simp only [Gh.withRow] at hr
    rw [if_neg (by omega)] at hr
    exact h.wok.top i s' es' hi t r hr
  ·intro i o hi
   by_cases e:i=id
   ·subst e
    simp [hlt] at hi
    subst hi
    exact .inr (.inr ⟨w1.heap.size,cap,c,by simp [Gh.withRow,hsz1],q01n ..,q03t w1 c _,hsz,by simpa using hcap,hr.len,fun i j hi hj=>(hr.rep i j hi hj).mono hle,hone⟩)
   ·rw [Zr (Ne.symm e)] at hi;exact .inl hi
 ·have:=VRep.row (G:=G.withRow id (es.length+ys.length) (.at w.heap.size s cap)) id (es.length+ys.length) 0 (es.length+ys.length) w.heap.size s cap (by simp [Gh.withRow]) (by omega) hcap
  simpa using this
theorem q093 {s cap:Nat} {z:Array Value} (hz:z.size=s) {es ys:List (List V)} {olds:List Value} (ho:olds.length=es.length*s) (h1:RowsV G (fun m=>olds.getD m undef) s es)
  {f:Nat->Value} (h2:RowsV G f s ys) (hcap:es.length+ys.length<=cap):
  ((olds++(List.range (ys.length*s)).map f).toArray++Builtin.zeroCells z (cap-(es.length+ys.length))).size=cap*s/\
  RowsV G (fun m=>((olds++(List.range (ys.length*s)).map f).toArray++Builtin.zeroCells z (cap-(es.length+ys.length))).getD m undef) s (es++ys):=by
 refine ⟨?_,h1.append h2 (fun m hm=> ?_) (fun m hm=> ?_)⟩
 ·simp only [Array.size_append,List.size_toArray,Zt,Z0,List.length_range,q0qa,hz,ho]
  rw [<-Nat.add_mul,<-Nat.add_mul];congr 1;omega
 ·rw [Zc,Array.getElem?_append_left (by simp;omega),List.getElem?_toArray,Zw (by omega),ZB]
 ·rw [Zc,Array.getElem?_append_left (by simp;omega),List.getElem?_toArray,ZD (by omega)]
  have e:es.length*s+m-olds.length=m:=by omega
  rw [e];simp [hm]
theorem q0kg {v:Value} {x:V} (h:SRep G L v x):SRep G L v (nil1 x):=by
 cases x with
 |nil0=>
  have h':VRep G v .nil0:=h
  cases h';exact VRep.nils none
 |_=>exact h
theorem q0oi (hF: ∀f,F.fn f) (h:Sim N G own L S a w) (hd: ∀t,o.dst=some t->t<N) {s:Nat} {x y:Arg} (hok:okIns P o.op (.app x y s)=true)
  {cl:ClT} (hev:evIns cl o.dst (.app x y s) S=some S') (hn: ∀a' w',Res N G own w a.defers S' a' w'->next a' w'):o.wpIn F n P a w next Q:=by
 obtain ⟨r,S1,hr,hS⟩:=q01v hev
 simp only [okIns] at hok
 split at hok
 ·rename_i c hop
  split at hok
  ·rename_i x' y' t u hcal hargs htys
   simp only [Zb,beq_iff_eq] at hok
   obtain ⟨⟨⟨hx,hy⟩,rfl⟩,hk⟩:=hok
   split at hk
   ·rename_i e hu
    simp only [Zb,bne_iff_ne] at hk
    obtain ⟨⟨⟨k1,k2⟩,k3⟩,k4⟩:=hk
    obtain ⟨ie,hie,rfl⟩:=q017 k1
    have hpos:0<ie.size:=Nat.pos_of_ne_zero k2
    obtain ⟨ie',hie',hby⟩:=q063 k3
    rw [hie] at hie';cases hie'
    rw [hie] at k4
    simp only at k4
    split at k4
    ·rename_i z hzz
     simp only [beq_iff_eq] at k4
     have hrunop: ∀ {v:Value} {w':World},(Builtin.append_ #[t,t] o.type #[a.eval x',a.eval y']).run P w= .ok v w'->(execOp a.eval o).run P w= .ok (.value v) w':=by
      intro v w' hh
      have ha:c.args= #[x',y']:=by rw [<-Z5 (xs:=c.args),hargs]
      have hty:c.argTypes= #[t,t]:=by rw [<-Z5 (xs:=c.argTypes),htys]
      simp [execOp,hop,resolve,hcal,ha,hty,invoke,builtin,hh]
     have fin: ∀ {v:Value} {w':World},(Builtin.append_ #[t,t] o.type #[a.eval x',a.eval y']).run P w= .ok v w'->(∃G' own',Sim N G' own' L S1 a w'/\Foot G own w G' own' w'/\VRep G' v r/\Kp S1.base S1.dirty own w w')->o.wpIn F n P a w next Q:=by
      intro v w' hh ⟨G',own',q1,q2,q3,q4⟩
      refine q018 hF (by rw [hop];intro c hc;cases hc) (hrunop hh) ?_
      subst hS
      exact hn _ _ ⟨G',own',L,q1.put hd (.of q3),q2,q00x ..,by cases o.dst<;>exact q4⟩
     unfold appV at hr
     cases hel:elems S.hp (S.arg y) with
     |none=>rw [hel] at hr;cases hr
     |some ys=>
      rw [hel] at hr
      simp only [Ze] at hr
      split at hr
      ·rename_i hall
       obtain ⟨hone,news,f,hsrc,rfl,hrows⟩:=q0Ag h.wok hu hpos (q008 h hy) hel hall
       split at hr
       ·rename_i hx0
        have rx:=q0kg (q008 h hx)
        rw [hx0] at rx
        generalize hvx:a.eval x'=vx at rx
        rw [hvx] at fin
        cases rx with
        |nils ad=>
         split at hr
         ·rename_i hlt
          simp only [most] at hlt
          split at hr
          ·rename_i hemp
           cases hr
           have h0:ys=[]:=List.isEmpty_iff.1 hemp
           subst h0
           exact fin (run_append_nothing w t t o.type e ie hu hie ad 0 0 (Zm _) _ (by simpa using hsrc)) ⟨G,own,h,.refl ..,.nils ad,Kp.refl _ _ _ _⟩
          ·rename_i hemp
           cases hr
           have h0:0<ys.length:=by cases ys with|nil=>simp at hemp|cons _ _=>simp
           have hold:(Builtin.firstCells ie.size 0 (.slice ad 0 0)).run P w.drew= .ok ([]:List Value).toArray w.drew:=by
            cases ad with
            |none=>exact run_firstCells_none w.drew _ 0 0 0
            |some ad=>exact run_firstCells_some w.drew ie.size 0 ad 0 0 [] (by simp) (fun j v hj=>by simp at hj)
           have hby2:(0+ys.length)*ie.bytes<=140737488355328:=by
            have:ys.length*ie.bytes<=4294967296*32768:=Nat.mul_le_mul (by omega) hby
            simpa using this
           have hg0:0<0+ys.length:=by omega
           have hrun:=run_append_grow_src (P:=P) w t t o.type e ie z hu hie hzz ad 0 0 [] hold (a.eval y') ys.length _ hsrc hg0 (by omega) (growslice_fits hg0 hby2)
           have hge:=grownCap_ge w (0+ys.length) 0 e
           have norows:RowsV G (fun m=>([]:List Value).getD m undef) ie.size []:=⟨fun i hi=>absurd hi (Zz _),fun i _ hi=>absurd hi (Zz _)⟩
           obtain ⟨g1,g2⟩:=q093 (cap:=grownCap w (0+ys.length) 0 e) k4 (es:=[]) (olds:=[]) (by simp) norows hrows (by simpa using hge)
           simp only [Zq,Zf] at g1 g2
           obtain ⟨G',own',q1,q2,q3⟩:=q092 h (w1:=w.drew) rfl rfl rfl rfl (e:=e) g1 (by omega) g2 hone
           refine fin hrun ⟨G',own',q1,q2,?_,.alloc rfl _⟩
           simp only [Zs] at q3⊢
           exact q3
         ·cases hr
       ·rename_i id tot off len hx0
        cases hro:rowAt S.hp id with
        |none=>rw [hro] at hr;cases hr
        |some p=>
         obtain ⟨s',es⟩:=p
         rw [hro] at hr
         simp only [Ze] at hr
         split at hr
         ·rename_i hc1
          obtain ⟨htot,rfl,rfl,rfl,hlt⟩:=hc1
          simp only [most] at hlt
          cases hr
          have rx:=q0kg (q008 h hx)
          rw [hx0] at rx
          generalize hvx:a.eval x'=vx at rx
          rw [hvx] at fin
          have hby2:(len+ys.length)*ie.bytes<=140737488355328:=by
           have:(len+ys.length)*ie.bytes<=4294967296*32768:=Nat.mul_le_mul (by omega) hby
           simpa using this
          cases rx with
          |rown _ h0=>
           have hes:es=[]:=ZU.1 htot
           subst hes
           by_cases hy0:ys.length=0
           ·have:ys=[]:=ZU.1 hy0
            subst this
            refine fin (run_append_nothing w t t o.type e ie hu hie none 0 0 (Zm _) _ (by simpa using hsrc)) ⟨G,own,?_,.refl ..,?_,Kp.refl _ _ _ _⟩
            ·refine h.change (.refl G) rfl (fun _ _ _ _=>rfl) ?_
             have hset:S.hp.set id (.row ie.size ([]++[]))=S.hp:=by
              have h1:=q01r hro
              apply List.ext_getElem?
              intro i
              by_cases e:i=id
              ·subst e
               have:=(Za.1 h1).1
               rw [h1];simp [this]
              ·rw [Zr (Ne.symm e)]
             simp only [hset]
             exact h.wok
            ·exact VRep.rown _ h0
           ·have hold:(Builtin.firstCells ie.size 0 (.slice none 0 0)).run P w.drew= .ok ([]:List Value).toArray w.drew:=run_firstCells_none w.drew _ 0 0 0
            have hg0:0<0+ys.length:=by omega
            have hrun:=run_append_grow_src (P:=P) w t t o.type e ie z hu hie hzz none 0 0 [] hold (a.eval y') ys.length _ hsrc hg0 (by omega) (growslice_fits hg0 hby2)
            have hge:=grownCap_ge w (0+ys.length) 0 e
            have norows:RowsV G (fun m=>([]:List Value).getD m undef) ie.size []:=⟨fun i hi=>absurd hi (Zz _),fun i _ hi=>absurd hi (Zz _)⟩
            obtain ⟨g1,g2⟩:=q093 (cap:=grownCap w (0+ys.length) 0 e) k4 (es:=[]) (olds:=[]) (by simp) norows hrows (by simpa using hge)
            obtain ⟨G',own',q1,q2,q3⟩:=q0di h (w1:=w.drew) rfl rfl rfl rfl hro (by omega) (e:=e) g1 (by simpa using hge) g2 (by simpa using hone)
            exact fin hrun ⟨G',own',q1,q2,q3,.alloc rfl _⟩
          |rowz _ _ _ h0=>exact absurd h0 (Nat.lt_irrefl _)
          |row _ _ _ _ b s'' cap hg h1 h2=>
           obtain ⟨rfl,cc,e2,e3,e4,e5,e6,e7,e8⟩:=q04v h.wok hro (htot▸hg)
           simp only [Nat.zero_mul,Nat.sub_zero] at fin
           subst htot
           have hrow:RowsV G (fun m=>cc.getD m undef) ie.size es:=⟨e6,e7⟩
           by_cases hroom:es.length+ys.length<=cap
           ·have hfit:es.length*ie.size+((List.range (ys.length*ie.size)).map f).length<=cc.size:=by
             simp only [Z0,List.length_range]
             rw [e4,<-Nat.add_mul];exact Zu _ hroom
            obtain ⟨G',q1,q2,q3⟩:=q0Ah h hro rfl hg hpos hrows hone e8 hroom e3 e2 e4 hrow
            exact fin (q0kf hu hie e3 hsrc hroom hfit) ⟨G',own,q1,q2,q3,.write e2 (fun id' hh hlt=>by cases hh;exact q02w.2 (.inl ⟨rfl,hlt⟩)) _⟩
           ·have hg0:cap<es.length+ys.length:=by omega
            have hold:(Builtin.firstCells ie.size es.length (.slice (some ⟨b,0,none⟩) es.length cap)).run P w.drew= .ok ((List.range (es.length*ie.size)).map fun m=>cc.getD m undef).toArray w.drew:=by
             have:=q07j (P:=P) (w:=w) hu b 0 es.length cap ie.size (fun m=>cc.getD m undef) (fun m hm=> ?_) (fun m hm=>hrow.at e8 hpos hm)
             ·exact this.cellsD
             ·rw [e3.cell]
              have hlt:0+m<cc.size:=by
               have:es.length*ie.size<=cap*ie.size:=Zu _ e5
               omega
              simp at hlt
              simp [Zc,hlt]
            have hrun:=run_append_grow_src (P:=P) w t t o.type e ie z hu hie hzz (some ⟨b,0,none⟩) es.length cap _ hold (a.eval y') ys.length _ hsrc hg0 (by omega) (growslice_fits hg0 hby2)
            have hge:=grownCap_ge w (es.length+ys.length) cap e
            have hold2:RowsV G (fun m=>((List.range (es.length*ie.size)).map fun m=>cc.getD m undef).getD m undef) ie.size es:=by
             refine ⟨e6,fun i j hi hj=> ?_⟩
             have hjs:j<ie.size:=by rw [e6 i hi] at hj;exact hj
             have:i*ie.size+ie.size<=es.length*ie.size:=by rw [<-ZO];exact Zu _ hi
             rw [q0jh (by omega)]
             exact e7 i j hi hj
            obtain ⟨g1,g2⟩:=q093 (cap:=grownCap w (es.length+ys.length) cap e) k4 (by simp) hold2 hrows hge
            obtain ⟨G',own',q1,q2,q3⟩:=q0di h (w1:=w.drew) rfl rfl rfl rfl hro (by omega) (e:=e) g1 hge g2 (fun e he=>(ZY.1 he).elim (e8 e) (hone e))
            exact fin hrun ⟨G',own',q1,q2,q3,.alloc rfl _⟩
         ·cases hr
       ·cases hr
      ·cases hr
    ·cases k4
   ·cases hk
  ·cases hok
 ·cases hok
end
abbrev Fw (ro:Option Nat):Fence:= {Fence.wide with round:=ro}
theorem Fw.fn (ro:Option Nat) (f:FuncId):(Fw ro).fn f:=trivial
def q01x (own:Own) (n:Nat):Own:=fun b=>match own b with
 |some (.obj id)=>if id<n then some (.obj id) else none
 |_=>none
def q027 (own own':Own):Own:=fun b=>match own b with
 |some (.loc s)=>some (.loc s)
 |_=>match own' b with
  |some (.obj id)=>some (.obj id)
  |_=>none
theorem q02j {own:Own} {n b:Nat} {k:Key} (h:q01x own n b=some k): ∃id,k= .obj id/\id<n/\own b=some k:=by
 unfold q01x at h
 split at h
 ·rename_i id ho
  split at h
  ·cases h;exact ⟨id,rfl,by assumption,ho⟩
  ·cases h
 ·cases h
theorem q0ji {own:Own} {n b id:Nat} (h:own b=some (.obj id)) (hi:id<n):q01x own n b=some (.obj id):=by simp [q01x,h,hi]
theorem q09y {own:Own} {n b s:Nat} (h:own b=some (.loc s)):q01x own n b=none:=by simp [q01x,h]
theorem q087 {own:Own} {n b:Nat} (h:own b=none):q01x own n b=none:=by simp [q01x,h]
theorem q0kh {own own':Own} {b s:Nat} (h:own b=some (.loc s)):q027 own own' b=some (.loc s):=by simp [q027,h]
theorem q06e {own own':Own} {b:Nat} {k:Key} (h:q027 own own' b=some k):(∃s,k= .loc s/\own b=some k)\/(∃id,k= .obj id/\own' b=some k/\ ∀s,own b≠some (.loc s)):=by
 unfold q027 at h
 split at h
 ·rename_i s ho;cases h;exact .inl ⟨s,rfl,ho⟩
 ·rename_i ho
  split at h
  ·rename_i id ho';cases h;exact .inr ⟨id,rfl,ho',fun s=>ho s⟩
  ·cases h
theorem q0ki {own own':Own} {b id:Nat} (h:own' b=some (.obj id)) (hn: ∀s,own b≠some (.loc s)):q027 own own' b=some (.obj id):=by
 unfold q027
 split
 ·rename_i s ho;exact absurd ho (hn s)
 ·rw [h]
section
variable {P:Program} {w w':World} {N:Nat} {G G':Gh} {own own':Own} {L:Nat->Option Nat} {S:St} {a:Act} {H:Heap} {loc:List (Nat×List V)}
theorem WOK.forCall (h:WOK G own H L loc w):WOK G (q01x own H.length) H (fun _=>none) [] w where
 imm:=h.imm
 dom:=h.dom
 domr:=h.domr
 top:=h.top
 obj i o hi:=(h.obj i o hi).frame (.refl G) (fun b hb=>q0ji hb (Za.1 hi).1) (fun _ _=>rfl)
 locs s cs hs:=by simp at hs
 noI b o v hi:=q087 (h.noI b o v hi)
 lt b k hk:=let ⟨_,_,_,ho⟩:=q02j hk;h.lt b k ho
 ilt:=h.ilt
theorem WOK.fromCall (h:WOK G own H L loc w) {H':Heap} (hf:Foot G (q01x own H.length) w G' own' w') (h':WOK G' own' H' (fun _=>none) [] w'):
  WOK G' (q027 own own') H' L loc w' where
 imm:=h'.imm
 dom:=h'.dom
 domr:=h'.domr
 top:=h'.top
 obj i o hi:=(h'.obj i o hi).frame (.refl G') (fun b hb=>q0ki hb fun s hs=>by
  rcases hf.news b _ hb with h1|h1
  ·rw [q09y hs] at h1;cases h1
  ·have:=h.lt b _ hs;omega) (fun _ _=>rfl)
 locs s cs hs:=(h.locs s cs hs).frame hf.le rfl (fun b hb=>q0kh hb) (fun b hb=>hf.same b (h.lt b _ hb) (q09y hb))
 noI b o v hi:=by
  have h1:=h'.noI b o v hi
  cases hm:q027 own own' b with
  |none=>rfl
  |some k=>
   rcases q06e hm with ⟨s,-,h2⟩|⟨id,-,h2,-⟩
   ·rcases hf.imms b o v hi with h3|h3
    ·rw [h.noI b o v h3] at h2;cases h2
    ·have:=h.lt b _ h2;omega
   ·rw [h1] at h2;cases h2
 lt b k hk:=by
  rcases q06e hk with ⟨s,-,h2⟩|⟨id,-,h2,-⟩
  ·exact Nat.lt_of_lt_of_le (h.lt b _ h2) hf.size
  ·exact h'.lt b _ h2
 ilt:=h'.ilt
theorem Foot.fromCall {n:Nat} (hf:Foot G (q01x own n) w G' own' w'):Foot G own w G' (q027 own own') w':=
 ⟨hf.le,hf.size,fun b hb ho=>hf.same b hb (q087 ho),fun b k hk=>by
  rcases q06e hk with ⟨s,-,h2⟩|⟨id,-,h2,-⟩
  ·exact .inl h2
  ·rcases hf.news b k h2 with h3|h3
   ·obtain ⟨_,_,_,h4⟩:=q02j h3;exact .inl h4
   ·exact .inr h3,hf.imms,hf.os,hf.tape,hf.output⟩
def wrote:Option (Heap×List Nat)->List Nat
 |none=>[]
 |some (_,ds)=>ds
def q088 (H:Heap):Option (Heap×List Nat)->Heap
 |none=>H
 |some (H',_)=>H'
def CallP (w:World) (G:Gh) (own:Own) (H:Heap) (r:CR) (e:Ending) (w':World):Prop:=
 ∃val,e= .returned val/\(∀b,b<w.heap.size->(∀k,own b=some k-> ∃id,k= .obj id/\id∉wrote r.2)->w'.heap[b]? =w.heap[b]?)/\
  ∃G' own',Foot G own w G' own' w'/\VRep G' val r.1/\WOK G' own' (q088 H r.2) (fun _=>none) [] w'
def CallR (P:Program) (w:World) (G:Gh) (own:Own) (H:Heap) (r:CR) (f:FuncId) (args:Array Value):Prop:=
 ∀m,CallsIn Fence.wide m P f args w (CallP w G own H r)
def q0Df (P:Program) (w:World) (G:Gh) (own:Own) (H:Heap) (r:CR) (l:Nat) (f:FuncId) (tmps:Array Value) (assign body:Code):Prop:=
 ∀m,RoundIn Fence.wide m P l f tmps assign body w (CallP w G own H r)
def Kn (K:Gh->Prop) (G:Gh):Prop:= ∀G',G.Le G'->K G'
theorem Kn.le {K:Gh->Prop} {G G':Gh} (h:Kn K G) (hl:G.Le G'):Kn K G':=fun G'' h'=>h G'' (hl.trans h')
theorem Kn.here {K:Gh->Prop} {G:Gh} (h:Kn K G):K G:=h G (.refl G)
def ClOK (P:Program) (K:Gh->Prop) (cl:ClT):Prop:=((∀s o vs H,cl (.lptr s o) vs H=none)/\ ∀G,Kn K G->Kn K G.still)/\ ∀fv vs H r,cl fv vs H=some r-> ∀(G:Gh) (own:Own) (w:World) (fval:Value) (args:Array Value),Kn K G->VRep G fval fv->args.size=vs.length->
 (∀j (hj:j<vs.length),VRep G (args.getD j undef) (vs[j]))->WOK G own H (fun _=>none) [] w->(∀b k,own b=some k-> ∃id,k= .obj id/\id<H.length)->
 (∃f first cap,fval= .func (.func f) first cap/\(∀xs w1,(callFunc f xs).run P w1= .ok (.enter f xs) w1)/\CallR P w G own H r f (first++args++cap))\/
 (∃id l f tmps assign body,fv= .yld id/\fval= .func (.yield l) #[] #[]/\(Instr.yield l args).run P w= .ok (.round l f tmps assign body) w/\q0Df P w G own H r l f tmps assign body)
end
section
variable {n:Nat} {P:Program} {o:Oper} {a:Act} {w:World} {Q:Exit->Act->World->Prop} {ro:Option Nat}
variable {N:Nat} {G:Gh} {own:Own} {L:Nat->Option Nat} {S S':St} {next:Act->World->Prop}
theorem q0hi (hnd: ∀c,o.op≠ .defer c) {f:FuncId} {args:Array Value} (hr:(execOp a.eval o).run P w= .ok (.enter f args) w)
  (h:CallsIn Fence.wide (n-1) P f args w fun e w'=> ∃val,e= .returned val/\next (a.put o.dst val) w'):o.wpIn (Fw ro) n P a w next Q:=by
 refine ⟨fun f _=>trivial,?_⟩
 rw [Oper.semAt_eq _ a.eval o hnd,hr]
 rw [Oper.uponIn_enter]
 refine ⟨fun hh=>(by cases hh),?_⟩
 have h':CallsIn (Fw ro) (n-1) P f args w fun e w'=> ∃val,e= .returned val/\next (a.put o.dst val) w':=h
 refine CallsIn.mono h' fun e w' he=> ?_
 obtain ⟨val,rfl,hv⟩:=he
 exact hv
theorem q0qb (hnd: ∀c,o.op≠ .defer c) {l:Nat} {f:FuncId} {tmps:Array Value} {assign body:Code} (hr:(execOp a.eval o).run P w= .ok (.round l f tmps assign body) w)
  (h:RoundIn Fence.wide (n-1) P l f tmps assign body w fun e w'=> ∃val,e= .returned val/\next (a.put o.dst val) w'):o.wpIn (Fw ro) n P a w next Q:=by
 refine ⟨fun f _=>trivial,?_⟩
 rw [Oper.semAt_eq _ a.eval o hnd,hr]
 rw [Oper.uponIn_round]
 refine ⟨fun hh=>(by cases hh),?_⟩
 have h':RoundIn (Fw ro) (n-1) P l f tmps assign body w fun e w'=> ∃val,e= .returned val/\next (a.put o.dst val) w':=h
 refine RoundIn.mono h' fun e w' he=> ?_
 obtain ⟨val,rfl,hv⟩:=he
 exact hv
theorem q0hj (h:Sim N G own L S a w) (hd: ∀t,o.dst=some t->t<N) (hnd: ∀c,o.op≠ .defer c) {K:Gh->Prop} {cl:ClT} (hcl:ClOK P K cl) (hK:Kn K G) {pure:Bool} {fv:V} {vs:List V} {fval:Value} {args:Array Value}
  (hres2: ∀l f tmps assign body,fval= .func (.yield l) #[] #[]->(Instr.yield l args).run P w= .ok (.round l f tmps assign body) w->(execOp a.eval o).run P w= .ok (.round l f tmps assign body) w)
  (hres: ∀f first cap,fval= .func (.func f) first cap->(∀xs w1,(callFunc f xs).run P w1= .ok (.enter f xs) w1)->(execOp a.eval o).run P w= .ok (.enter f (first++args++cap)) w)
  (hfv:VRep G fval fv) (ha1:args.size=vs.length) (ha2: ∀j (hj:j<vs.length),VRep G (args.getD j undef) (vs[j]))
  (hev:callR S pure o.dst (cl fv vs S.hp)=some S') (hn: ∀a' w',Res N G own w a.defers S' a' w'->next a' w'):o.wpIn (Fw ro) n P a w next Q:=by
 cases hc:cl fv vs S.hp with
 |none=>rw [hc] at hev;cases hev
 |some r=>
  rw [hc] at hev
  have fin: ∀e w',CallP w G (q01x own S.hp.length) S.hp r e w'-> ∃val,e= .returned val/\next (a.put o.dst val) w':= ?_
  ·rcases hcl.2 fv vs S.hp r hc G (q01x own S.hp.length) w fval args hK hfv ha1 ha2 h.wok.forCall (fun b k hk=>let ⟨id,h1,h2,_⟩:=q02j hk;⟨id,h1,h2⟩) with ⟨f,first,cap,hf,hcf,hcr⟩|⟨id,l,f,tmps,assign,body,-,hf,hy,hcr⟩
   ·exact q0hi hnd (hres f first cap hf hcf) (CallsIn.mono (hcr (n-1)) fin)
   ·exact q0qb hnd (hres2 l f tmps assign body hf hy) (RoundIn.mono (hcr (n-1)) fin)
  rintro e w' ⟨val,rfl,hsame,G',own',hfoot,hval,hwok⟩
  refine ⟨val,rfl,hn _ _ ?_⟩
  obtain ⟨v,Hr⟩:=r
  cases Hr with
  |none=>
   have hev':S.put o.dst v=S':=by
    simp only [callR] at hev
    split at hev
    ·simpa using hev
    ·cases hev
   subst hev'
   have hsim:Sim N G' (q027 own own') L S a w':=h.change hfoot.le rfl (fun _ _ _ _=>rfl) (h.wok.fromCall hfoot hwok)
   exact ⟨G',_,L,hsim.put hd (.of hval),hfoot.fromCall,q00x ..,.of_same fun b hb=>hsame b hb fun k hk=>let ⟨id,h1,_⟩:=q02j hk;⟨id,h1,by simp [wrote]⟩⟩
  |some p=>
   obtain ⟨H',ds⟩:=p
   have hev':pure=false/\ {S with hp:=H',dirty:=ds.foldr (addD S.base) S.dirty}.put o.dst v=S':=by
    simp only [callR] at hev
    split at hev
    ·cases hev
    ·rename_i hp;exact ⟨by cases pure<;>simp_all,by simpa using hev⟩
   obtain ⟨-,rfl⟩:=hev'
   have hsim:Sim N G' (q027 own own') L {S with hp:=H',dirty:=ds.foldr (addD S.base) S.dirty} a w':=h.change hfoot.le rfl (fun _ _ _ _=>rfl) (h.wok.fromCall hfoot hwok)
   have hkp:Kp S.base (ds.foldr (addD S.base) S.dirty) own w w':=fun b hb hb'=>hsame b hb fun k hk=>by
    obtain ⟨id,rfl,h2,h3⟩:=q02j hk
    obtain ⟨id',e1,h4,h5⟩:=hb' _ h3
    cases e1
    exact ⟨id,rfl,fun hm=>h5 (q04y.2 (.inl ⟨hm,h4⟩))⟩
   refine ⟨G',_,L,hsim.put hd (.of hval),hfoot.fromCall,q00x ..,?_⟩
   cases o.dst<;>exact hkp
theorem q0Qg {v:V} (h:(normA v).outB=true): ∀s o,v≠ .lptr s o:=by rintro s o rfl;simp [normA,V.outB] at h
theorem q0wa (h:Sim N G own L S a w) (hd: ∀t,o.dst=some t->t<N) {f:FuncId} {as:List Arg} {pure:Bool} (hok:okIns P o.op (.call f as pure)=true)
  {K:Gh->Prop} {cl:ClT} (hcl:ClOK P K cl) (hK:Kn K G) (hev:evIns cl o.dst (.call f as pure) S=some S') (hn: ∀a' w',Res N G own w a.defers S' a' w'->next a' w'):o.wpIn (Fw ro) n P a w next Q:=by
 have hev':callI cl S o.dst pure (.p (.fn f)) (as.map fun b=>normA (S.arg b))=some S':=hev
 simp only [okIns] at hok
 split at hok
 ·rename_i c hop
  split at hok
  ·rename_i g hcal
   simp only [Zb,beq_iff_eq] at hok
   obtain ⟨rfl,h2⟩:=hok
   unfold callI at hev'
   split at hev'
   ·rename_i ho
    obtain ⟨a1,a2⟩:=q048 h h2 ho
    simp only [Z5] at a1 a2
    refine q0hj h hd (by rw [hop];intro c hc;cases hc) hcl hK (fval:= .func (.func f) #[] #[]) (args:=c.args.map a.eval) (fun l f tmps assign body hh=>by cases hh) (fun f' first cap hh hcf=> ?_) (.p (.fn f)) a1 a2 hev' hn
    cases hh
    simp [execOp,hop,resolve,hcal,Act.eval,Deferred.ofValue,invoke,hcf]
   ·cases hev'
  ·cases hok
 ·cases hok
theorem q0sg (h:Sim N G own L S a w) (hd: ∀t,o.dst=some t->t<N) {x:Arg} {as:List Arg} {pure:Bool} (hok:okIns P o.op (.callv x as pure)=true)
  {K:Gh->Prop} {cl:ClT} (hcl:ClOK P K cl) (hK:Kn K G) (hev:evIns cl o.dst (.callv x as pure) S=some S') (hn: ∀a' w',Res N G own w a.defers S' a' w'->next a' w'):o.wpIn (Fw ro) n P a w next Q:=by
 have hev':callI cl S o.dst pure (S.arg x) (as.map fun b=>normA (S.arg b))=some S':=hev
 simp only [okIns] at hok
 split at hok
 ·rename_i c hop
  split at hok
  ·rename_i y hcal
   simp only [Zb] at hok
   obtain ⟨h1,h2⟩:=hok
   unfold callI at hev'
   split at hev'
   ·rename_i ho
    obtain ⟨a1,a2⟩:=q048 h h2 ho
    simp only [Z5] at a1 a2
    have r1:=q008 h h1
    have hfv:VRep G (a.eval y) (S.arg x)\/ ∃s o,S.arg x= .lptr s o:=by
     cases hx:S.arg x with
     |lptr s o=>exact .inr ⟨s,o,rfl⟩
     |_=>rw [hx] at r1;exact .inl r1
    rcases hfv with hfv|⟨s,o',hx⟩
    ·refine q0hj h hd (by rw [hop];intro c hc;cases hc) hcl hK (args:=c.args.map a.eval) (fun l f tmps assign body hh hy=> ?_) (fun f' first cap hh hcf=> ?_) hfv a1 a2 hev' hn
     ·simp [execOp,hop,resolve,hcal,hh,Deferred.ofValue,invoke,hy]
     ·simp [execOp,hop,resolve,hcal,hh,Deferred.ofValue,invoke,hcf]
    ·rw [hx] at hev'
     rw [hcl.1.1] at hev';cases hev'
   ·cases hev'
  ·cases hok
 ·cases hok
end
end Go.Eng
