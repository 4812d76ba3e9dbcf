/- The engine, part 26: the library's sort of numbers. -/
import Derived.Shelf.Slices.In.SortNone
import Derived.Shelf.Sort.Plain
import Derived.Test.YtjjdmlpdgcdehaaGreatEngAll7
import Derived.Test.YtjjdmlpdgcdehaaGreatEngAll2
namespace Go.Eng
open Go Go.Sort
theorem q0as (x:Int): ∀l,(insI x l).Perm (x::l)
 |[]=> .refl _
 |y::r=>by
  unfold insI
  split
  ·exact .refl _
  ·exact ((q0as x r).cons y).trans (.swap x y r)
theorem q099: ∀l,(isort l).Perm l
 |[]=> .refl _
 |x::r=>(q0as x _).trans ((q099 r).cons x)
theorem q0Tu (x:Int): ∀l:List Int,l.Pairwise (· <= ·)->(insI x l).Pairwise (· <= ·)
 |[],_=>by simp [insI]
 |y::r,h=>by
  unfold insI
  obtain ⟨h1,h2⟩:=ZW.1 h
  split
  ·rename_i hxy
   refine ZW.2 ⟨fun z hz=> ?_,h⟩
   rcases ZI.1 hz with rfl|hz
   ·exact hxy
   ·exact Int.le_trans hxy (h1 z hz)
  ·rename_i hxy
   refine ZW.2 ⟨fun z hz=> ?_,q0Tu x r h2⟩
   rcases ZI.1 ((q0as x r).mem_iff.1 hz) with rfl|hz
   ·omega
   ·exact h1 z hz
theorem q0Ts: ∀l,(isort l).Pairwise (· <= ·)
 |[]=> .nil
 |x::r=>q0Tu x _ (q0Ts r)
theorem q0a1: ∀ {a b:List Int},a.Pairwise (· <= ·)->b.Pairwise (· <= ·)->a.Perm b->a=b
 |[],b,_,_,h=>(List.nil_perm.1 h).symm
 |x::a,[],_,_,h=>List.perm_nil.1 h
 |x::a,y::b,ha,hb,h=>by
  obtain ⟨a1,a2⟩:=ZW.1 ha
  obtain ⟨b1,b2⟩:=ZW.1 hb
  have hx:x∈y::b:=h.mem_iff.1 ZE
  have hy:y∈x::a:=h.mem_iff.2 ZE
  have e:x=y:=by
   rcases ZI.1 hx with rfl|hx
   ·rfl
   ·rcases ZI.1 hy with rfl|hy
    ·rfl
    ·exact Int.le_antisymm (a1 y hy) (b1 x hx)
  subst e
  rw [q0a1 a2 b2 (h.cons_inv)]
theorem isort_len (l:List Int):(isort l).length=l.length:=(q099 l).length_eq
theorem q0kz (l:List Int):(l.mergeSort fun x y=>decide (x<=y))=isort l:=by
 refine q0a1 ?_ (q0Ts l) ((List.mergeSort_perm l _).trans (q099 l).symm)
 have:=List.pairwise_mergeSort (le:=fun x y:Int=>decide (x<=y)) (fun a b c h1 h2=>by simp only [decide_eq_true_eq] at*;omega) (fun a b=>by simp only [Z4,decide_eq_true_eq];omega) l
 exact this.imp fun h=>by simpa using h
theorem q0ex: ∀ {es:List (List V)} {zs:List Int},readI es=some zs->es=zs.map intEl
 |[],zs,h=>by cases h;rfl
 |e::r,zs,h=>by
  unfold readI at h
  split at h
  ·rename_i hh;cases hh
  ·rename_i n r' hh
   cases hh
   split at h
   ·rename_i l hl;cases h;simp [intEl,q0ex hl]
   ·cases h
  ·cases h
theorem q0t6: ∀(zs:List Int),readI (zs.map intEl)=some zs
 |[]=>rfl
 |z::r=>by simp [intEl,readI] at*;rw [show (r.map intEl)=r.map (fun n=>[V.p (.int .i64 n)]) from rfl] at*;simp [show readI (r.map fun n=>[V.p (.int .i64 n)])=some r from q0t6 r]
theorem q0jl {w:World} {b:Nat} {c:Array Value} (hb:BlockIs w b c) (d:Array Int):putRow (Value.int .i64) w b 0 d=w.setRow b (putCells (Value.int .i64) 0 d c):=by
 obtain ⟨e,he⟩:=hb
 have hlt:b<w.heap.size:=(ZN.1 he).1
 unfold putRow mapBlock World.setRow
 congr 1
 apply Array.ext_getElem?
 intro k
 simp only [Array.getElem?_modify]
 by_cases hk:b=k
 ·subst hk
  simp only [if_true,he,ZH,onCells]
 ·simp [hk]
section
variable {P:Program} {w:World} {G:Gh} {own:Own} {H:Heap}
theorem q0t7 {P:Program} {ρ:Go.Shelf.Ren} (Ly:Go.Proofs.Lays.n189 P ρ) (hc: ∀xs w1,(callFunc (ρ.f 189) xs).run P w1= .ok (.enter (ρ.f 189) xs) w1) {vs:List V} {H:Heap} {r:CR} (h:sortP vs H=some r) {G:Gh} {own:Own} {w:World} {args:Array Value}
  (ha:args.size=vs.length) (hr: ∀j (hj:j<vs.length),VRep G (args.getD j undef) (vs[j])) (hw:WOK G own H (fun _=>none) [] w):(∀xs w1,(callFunc (ρ.f 189) xs).run P w1= .ok (.enter (ρ.f 189) xs) w1)/\CallR P w G own H r (ρ.f 189) args:=by
 refine ⟨hc,fun m=> ?_⟩
 have nothing: ∀p cap,args= #[.slice p 0 cap]->r=(.tup [],none)->CallsIn Fence.wide m P (ρ.f 189) args w (CallP w G own H r):=by
  rintro p cap rfl rfl
  refine callsIn_wide.2 (Calls.mono (Go.Proofs.Any.slices_Sort_int_none Ly p cap w) ?_)
  rintro e w' ⟨rfl,rfl⟩
  exact ⟨_,rfl,fun _ _ _=>rfl,G,own,.refl ..,.tup #[] [] rfl (fun j hj=>absurd hj (Zz _)),hw⟩
 have one: ∀x,vs=[x]-> ∃v,args= #[v]/\VRep G v x:=by
  rintro x rfl
  exact args1 ha hr
 unfold sortP at h
 split at h
 ·obtain ⟨v,e,hv⟩:=one _ rfl
  cases h
  cases hv with
  |p hp=>cases hp with
   |sl0 a cap=>exact nothing a cap e rfl
   |sl b off cap s es c hn=>simp at hn
 ·rename_i id tot off len
  obtain ⟨v,rfl,hv⟩:=one _ rfl
  unfold sortR at h
  split at h
  ·rename_i s es hro
   split at h
   ·rename_i hh
    obtain ⟨h1,rfl,rfl,rfl,hmost⟩:=hh
    split at h
    ·rename_i zs hz
     cases h
     have hes:=q0ex hz
     have hlz:zs.length=len+1:=by rw [<-h1,hes];simp
     have hid:id<H.length:=(Za.1 (q01r hro)).1
     rcases hw.obj id _ (q01r hro) with ⟨h0,-⟩|⟨b,cap,c,g1,g2,g3,g4,g5,g6,g7,g8⟩
     ·rw [h0] at h1;simp at h1
     cases hv with
     |row _ _ _ _ b' s' cap' hg hle1 hle2=>
      rw [<-h1,g1] at hg
      cases hg
      simp only [Nat.mul_one] at g4
      have hcell: ∀j (hj:j<zs.length),c[j]? =some (.int .i64 zs[j]):=by
       intro j hj
       have hj1:j<es.length:=by omega
       have hje:es[j]=intEl zs[j]:=by simp [hes]
       have hj0:0<(es[j]).length:=by rw [hje];simp [intEl]
       have h7:=g7 j 0 hj1 hj0
       simp only [Nat.mul_one,Nat.add_zero,hje,intEl,Z8] at h7
       have hjc:j<c.size:=by omega
       have:=q00t (L:=fun _=>none) (.of h7)
       simp [Zc,hjc] at this
       simp [hjc,this]
      have hH:Holds (Value.int .i64) w b 0 zs.toArray:=by
       intro j hj
       have hj':j<zs.length:=by simpa using hj
       obtain ⟨e,he⟩:=g3
       refine ⟨?_,?_⟩
       ·simp only [Zs]
        rw [BlockIs.cell ⟨e,he⟩,hcell j hj']
        simp [hj']
       ·unfold World.frozen?
        simp only [he]
        simp
      have hlt:b<w.heap.size:=g3.lt
      have harg:(#[Value.slice (some ⟨b,0*1,none⟩) (len+1) (cap-0)]:Array Value)= #[.slice (some ⟨b,0,none⟩) zs.length cap]:=by rw [hlz];simp
      rw [harg]
      refine callsIn_wide.2 (Calls.mono (Go.Proofs.Any.slices_Sort_int Ly b 0 cap zs w hH hlt (by unfold most at hmost;omega)) ?_)
      rintro e w' ⟨rfl,n,os,rfl⟩
      rw [q0kz]
      have hBA:BlockIs (Sort.ahead w n) b c:=g3
      rw [q0jl hBA]
      generalize hcc:putCells (Value.int .i64) 0 (isort zs).toArray c=c'
      have hw1:WOK G own H (fun _=>none) [] (Sort.ahead w n):=hw.frame (Zm _) (fun _ _=>rfl)
      have hsz':c'.size=c.size:=by rw [<-hcc];simp [putCells]
      have hc': ∀j (hj:j<zs.length),c'.getD j undef= .int .i64 ((isort zs)[j]'(by rw [isort_len];exact hj)):=by
       intro j hj
       have hjc:j<c.size:=by omega
       have hjs:j<(isort zs).length:=by rw [isort_len];exact hj
       rw [<-hcc]
       simp [putCells,Zc,hjc,hjs]
      have hbs:BlockIs ((Sort.ahead w n).setRow b c') b c':=q03e hBA c'
      have hwr:WOK G own (H.set id (.row 1 ((isort zs).map intEl))) (fun _=>none) [] ((Sort.ahead w n).setRow b c'):=by
       refine hw1.write g2 c' G (.refl G) rfl _ _ (by simp) hw1.dom hw1.domr ?_ ?_ (fun s cs hs=>by simp at hs)
       ·intro i s es' hi t r hr
        by_cases e:id=i
        ·subst e
         simp [hid] at hi
         obtain ⟨-,rfl⟩:=hi
         have:=hw1.top id 1 es (q01r hro) t r hr
         simp [isort_len];omega
        ·rw [Zr e] at hi;exact hw1.top i s es' hi t r hr
       ·intro i o hi
        by_cases e:id=i
        ·subst e
         simp [hid] at hi
         subst hi
         refine .inr (.inr ⟨b,cap,c',?_,g2,hbs,by rw [hsz',g4,Nat.mul_one],by simp [isort_len];omega,fun i hi=>by simp [intEl],fun i j hi hj=> ?_,fun e he=> ?_⟩)
         ·have:((isort zs).map intEl).length=es.length:=by simp [isort_len];omega
          rw [this];exact g1
         ·have hi':i<zs.length:=by simpa [isort_len] using hi
          simp only [Z1,intEl,Zg,Zq] at hj⊢
          have:j=0:=by omega
          subst this
          simp only [Nat.mul_one,Nat.add_zero,Z8]
          rw [hc' i hi']
          exact .p (.int _ _)
         ·obtain ⟨z,-,rfl⟩:=ZJ.1 he
          simp [intEl]
        ·rw [Zr e] at hi;exact .inl ⟨hi,by simpa using e⟩
      have hfr: ∀k,k<((Sort.ahead w n).setRow b c').heap.size->(grow ((Sort.ahead w n).setRow b c') os).heap[k]? =((Sort.ahead w n).setRow b c').heap[k]? :=by
       intro k hk
       simp only [grow]
       exact Array.getElem?_append_left hk
      have hgs:((Sort.ahead w n).setRow b c').heap.size<=(grow ((Sort.ahead w n).setRow b c') os).heap.size:=by simp [grow]
      refine ⟨_,rfl,fun k hk hko=> ?_,G,own,?_,.tup #[] [] rfl (fun j hj=>absurd hj (Zz _)),hwr.frame hgs hfr⟩
      ·have hkb:k≠b:=by
        rintro rfl
        obtain ⟨i,e1,e2⟩:=hko _ g2
        cases e1
        exact e2 (by simp [wrote])
       rw [hfr k (by rw [q062];exact hk),setRow_other _ _ _ _ hkb]
       rfl
      ·have f1:Foot G own w G own (Sort.ahead w n):= .frame (Zm _) (fun _ _=>rfl) rfl rfl rfl
       exact (f1.trans (.write g2 c' G (.refl G) rfl)).trans (.frame hgs hfr rfl rfl rfl)
    ·cases h
   ·cases h
  ·cases h
 ·obtain ⟨v,e,hv⟩:=one _ rfl
  cases h
  cases hv with
  |rown=>exact nothing none 0 e rfl
  |row=>exact nothing _ _ e rfl
  |rowz _ _ _ h0 a cap=>exact nothing a cap e rfl
 ·cases h
end
end Go.Eng
