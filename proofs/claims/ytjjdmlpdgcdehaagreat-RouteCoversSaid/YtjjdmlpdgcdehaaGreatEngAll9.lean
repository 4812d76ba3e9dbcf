/- The engine: values, instructions, their evaluation, and that it holds of the program. -/
import Derived.OpenShut
import Derived.Below
import Derived.DataReads
import Derived.WideShapes
import Derived.ChangeOld
import Derived.Test.YtjjdmlpdgcdehaaGreatEngAll7
import Derived.Test.YtjjdmlpdgcdehaaGreatEngAll2
namespace Go.Eng
open Go
def I0 (w:World):Nat->Nat->Value->Prop:=fun b o v=>w.cell? ⟨b,o,none⟩=some v
def Gh0 (P:Program) (w:World):Gh:=⟨I0 w,fun _=>none,fun _ _=>none,cOK P⟩
theorem wok0 (P:Program) (w:World):WOK (Gh0 P w) (fun _=>none) [] (fun _=>none) [] w where
 imm _ _ _ h:=h
 dom _ _ h:=by cases h
 domr _ _ _ h:=by cases h
 top i s es h:=by simp at h
 obj i o h:=by simp at h
 locs s cs h:=by simp at h
 noI _ _ _ _:=rfl
 lt _ _ h:=by cases h
 ilt b o v h:=World.block_lt_of_cell? w ⟨b,o,none⟩ h
def comps (P:Program) (t:TypeId):List (Nat×TypeId):=
 match P.underlying t with
 |some (.struct fs)=>fs.toList.map fun f=>(f.offset,f.type)
 |some (.array n e)=>(List.range n).map fun i=>(i*P.cellsOf e,e)
 |_=>[]
def tileB (P:Program):Nat->List (Nat×TypeId)->Nat->Bool
 |off,[],e=>off==e
 |off,(o,t)::r,e=>o==off&&tileB P (off+P.cellsOf t) r e
def dataT (P:Program):Nat->TypeId->Bool
 |0,_=>false
 |d+1,t=>
  match P.underlying t with
  |some .bool|some (.int _)|some .string=>P.cellsOf t==1
  |some (.slice e)=>P.cellsOf t==1&&P.cellsOf e !=0&&dataT P d e
  |some (.struct _)|some (.array _ _)=>tileB P 0 (comps P t) (P.cellsOf t)&&(comps P t).all fun c=>dataT P d c.2
  |_=>false
def Shp (P:Program):Nat->TypeId->List PV->Prop
 |0,_,_=>False
 |d+1,t,xs=>
  match P.underlying t with
  |some .bool=> ∃b,xs=[.bool b]
  |some (.int k)=> ∃n,xs=[.int k n]/\(Lit.int k n).wf=true
  |some .string=> ∃s,xs=[.str s]/\s.size<=maxLen
  |some (.slice e)=> ∃es,xs=[.sl es]/\es.length<=maxLen/\ ∀x∈es,Shp P d e x
  |some (.struct _)|some (.array _ _)=>xs.length=P.cellsOf t/\ ∀c∈comps P t,Shp P d c.2 ((xs.drop c.1).take (P.cellsOf c.2))
  |_=>False
def Szd (P:Program):Nat->TypeId->List PV->Prop
 |0,_,_=>True
 |d+1,t,xs=>
  match P.underlying t with
  |some (.slice e)=> ∃es,xs=[.sl es]/\es.length*P.bytesOf e<=reachBytes/\ ∀x∈es,Szd P d e x
  |some (.struct _)|some (.array _ _)=> ∀c∈comps P t,Szd P d c.2 ((xs.drop c.1).take (P.cellsOf c.2))
  |_=>True
def fitW {H:Type} (P:Program) (t:TypeId) (x:DataW H):Prop:=(x.weights P t).all (· <=reachBytes)=true
theorem q1ek {H:Type} {P:Program} {e:TypeId}: ∀ {l:List (DataW H)},(DataW.weightsAll P e l).all (· <=reachBytes)=true-> ∀x∈l,fitW P e x
 |[],_,_,h=>by cases h
 |y::r,h,x,hx=>by
  unfold DataW.weightsAll at h
  rw [List.all_append,Zb] at h
  rcases ZI.1 hx with rfl|hx
  ·exact h.1
  ·exact q1ek h.2 x hx
theorem q1en {H:Type} {P:Program}: ∀ {ts:List TypeId} {ds:List (DataW H)} {i:Nat} {t:TypeId} {d:DataW H},(DataW.weightsEach P ts ds).all (· <=reachBytes)=true->ts[i]? =some t->ds[i]? =some d->fitW P t d
 |[],_,_,_,_,_,h,_=>by cases h
 |_::_,[],_,_,_,_,_,h=>by cases h
 |t::ts,d::ds,i,_,_,h,h1,h2=>by
  unfold DataW.weightsEach at h
  rw [List.all_append,Zb] at h
  cases i with
  |zero=>cases h1;cases h2;exact h.1
  |succ i=>exact q1en h.2 h1 h2
def Reads (w:World) (f:Nat->Value) (xs:List PV):Prop:= ∀j (hj:j<xs.length),PRep (I0 w) (f j) (xs[j])
theorem q0hv {P:Program} {w:World} {f:Nat->Value} {Q:Nat×TypeId->List PV->Prop}: ∀ {cs:List (Nat×TypeId)} {off e:Nat},tileB P off cs e=true->
  (∀c∈cs,∃xs:List PV,xs.length=P.cellsOf c.2/\Reads w (fun j=>f (c.1+j)) xs/\Q c xs)->
  off<=e/\ ∃xs:List PV,xs.length=e-off/\Reads w (fun j=>f (off+j)) xs/\ ∀c∈cs,off<=c.1/\Q c ((xs.drop (c.1-off)).take (P.cellsOf c.2))
 |[],off,e,h,_=>by
  simp only [tileB,beq_iff_eq] at h
  subst h
  exact ⟨Zm _,[],by simp,fun j hj=>absurd hj (Zz _),fun c hc=>by cases hc⟩
 |(o,t)::r,off,e,h,hc=>by
  simp only [tileB,Zb,beq_iff_eq] at h
  obtain ⟨rfl,h⟩:=h
  obtain ⟨xs,x1,x2,x3⟩:=hc (o,t) ZE
  obtain ⟨hle,ys,y1,y2,y3⟩:=q0hv h (fun c hc'=>hc c (Zv _ hc'))
  simp only at x1 x2 x3
  refine ⟨by omega,xs++ys,by simp;omega,fun j hj=> ?_,fun c hc'=> ?_⟩
  ·rcases Z2 j xs.length with hlt|hge
   ·rw [ZP hlt];exact x2 j hlt
   ·rw [ZR hge]
    have:=y2 (j-xs.length) (by simp at hj;omega)
    have e1:o+P.cellsOf t+(j-xs.length)=o+j:=by omega
    simp only [e1] at this;exact this
  ·rcases ZI.1 hc' with rfl|hc'
   ·refine ⟨Zm _,?_⟩
    simp only [Nat.sub_self,ZG]
    rw [List.take_append_of_le_length (by omega),Zy (by omega)]
    exact x3
   ·obtain ⟨z1,z2⟩:=y3 c hc'
    refine ⟨by omega,?_⟩
    rw [List.drop_append]
    have e1:xs.drop (c.1-o)=[]:=by rw [List.drop_eq_nil_iff];omega
    have e2:c.1-o-xs.length=c.1-(o+P.cellsOf t):=by omega
    rw [e1,e2];exact z2
theorem q0dq {α β:Type} {f:α->Option β} {l:List α} {r:List β} (h:l.mapM f=some r): ∀x∈l,∃y,f x=some y:=by
 intro x hx
 obtain ⟨i,hi⟩:=List.mem_iff_getElem?.1 hx
 have h1:=mapM_some_get h i x hi
 have h2:=mapM_some_length h
 have hlt:i<r.length:=by rw [h2];exact (Za.1 hi).1
 exact ⟨r[i],by rw [h1];simp [hlt]⟩
theorem q1eo {α β:Type} {f:α->Option β} {l:List α} {r:List β} (h:l.mapM f=some r): ∀x∈l,∃(i:Nat) (y:β),l[i]? =some x/\r[i]? =some y/\f x=some y:=by
 intro x hx
 obtain ⟨i,hi⟩:=List.mem_iff_getElem?.1 hx
 have h1:=mapM_some_get h i x hi
 have h2:=mapM_some_length h
 have hlt:i<r.length:=by rw [h2];exact (Za.1 hi).1
 exact ⟨i,r[i],hi,Zl hlt,by rw [h1];simp [hlt]⟩
theorem q0t5 (cs:List Value) (o n j:Nat) (h:j<n):((cs.drop o).take n).getD j undef=cs.getD (o+j) undef:=by
 simp [ZB,h]
theorem q0qj {P:Program} {w:World} {H:Type} {enc:TypeId×Value->H} {spare:Nat->Bool} {held:Bool}: ∀(d:Nat) (n:Nat) (t:TypeId) (cs:List Value) (x:DataW H×List MemPlace),dataT P d t=true->
  DataW.trod enc P w 0 spare held n t cs=some x-> ∃xs:List PV,xs.length=cs.length/\cs.length=P.cellsOf t/\Reads w (fun j=>cs.getD j undef) xs/\Shp P d t xs/\(fitW P t x.1->Szd P d t xs):=by
 intro d
 induction d with
 |zero=>intro n t cs x hp;simp [dataT] at hp
 |succ d ih=>
  intro n t cs x hp ht
  cases n with
  |zero=>simp [DataW.trod] at ht
  |succ n=>
   have one: ∀ {v:Value} {y:PV},cs=[v]->PRep (I0 w) v y->Reads w (fun j=>cs.getD j undef) [y]:=by
    rintro v y rfl hy j hj
    have:j=0:=by simpa using hj
    subst this
    exact hy
   rw [DataW.trod_step] at ht
   unfold DataW.trodStep at ht
   have parts:(∀c∈comps P t,∃z,DataW.trod enc P w 0 spare held n c.2 ((cs.drop c.1).take (P.cellsOf c.2))=some z/\(fitW P t x.1->fitW P c.2 z.1))->cs.length=P.cellsOf t->tileB P 0 (comps P t) (P.cellsOf t)=true->((comps P t).all fun c=>dataT P d c.2)=true->
     ∃xs:List PV,xs.length=cs.length/\Reads w (fun j=>cs.getD j undef) xs/\xs.length=P.cellsOf t/\ ∀c∈comps P t,Shp P d c.2 ((xs.drop c.1).take (P.cellsOf c.2))/\(fitW P t x.1->Szd P d c.2 ((xs.drop c.1).take (P.cellsOf c.2))):=by
    intro h1 h2 h3 h4
    obtain ⟨-,xs,x1,x2,x3⟩:=q0hv (w:=w) (f:=fun j=>cs.getD j undef) (Q:=fun c xs=>Shp P d c.2 xs/\(fitW P t x.1->Szd P d c.2 xs)) h3 (fun c hc=>by
     obtain ⟨z,hz,hzf⟩:=h1 c hc
     obtain ⟨xs,y1,y2,y3,y4,y5⟩:=ih n c.2 _ z (Zn.1 h4 c hc) hz
     refine ⟨xs,y1.trans y2,fun j hj=> ?_,y4,fun h=>y5 (hzf h)⟩
     have:=y3 j hj
     simp only at this
     rw [q0t5 _ _ _ _ (by omega)] at this
     exact this)
    simp only [Nat.sub_zero,Zs] at x1 x2 x3
    exact ⟨xs,by omega,x2,x1,fun c hc=>(x3 c hc).2⟩
   split at ht
   case h_1 b hu=>
    have hc:P.cellsOf t=1:=by simpa [dataT,hu] using hp
    exact ⟨[.bool b],rfl,hc.symm,one rfl (.bool b),by simp only [Shp,hu];exact ⟨b,rfl⟩,fun _=>by simp only [Szd,hu]⟩
   case h_2 k k' m hu=>
    have hc:P.cellsOf t=1:=by simpa [dataT,hu] using hp
    split at ht
    ·rename_i hk
     obtain ⟨rfl,hw⟩:=hk
     exact ⟨[.int k' m],rfl,hc.symm,one rfl (.int k' m),by simp only [Shp,hu];exact ⟨m,rfl,hw⟩,fun _=>by simp only [Szd,hu]⟩
    ·cases ht
   case h_4 s hu=>
    have hc:P.cellsOf t=1:=by simpa [dataT,hu] using hp
    split at ht
    ·rename_i hk
     exact ⟨[.str s],rfl,hc.symm,one rfl (.str s),by simp only [Shp,hu];exact ⟨s,rfl,hk⟩,fun _=>by simp only [Szd,hu]⟩
    ·cases ht
   case h_7 e hu=>
    have hc:P.cellsOf t=1:=by simp [dataT,hu] at hp;exact hp.1.1
    exact ⟨[.sl []],rfl,hc.symm,one rfl (.sl0 none 0),by simp only [Shp,hu];exact ⟨[],rfl,Zj _,fun x hx=>by cases hx⟩,fun _=>by simp only [Szd,hu];exact ⟨[],rfl,by simp,fun x hx=>by cases hx⟩⟩
   case h_8 e a len cap hu=>
    have hp':(P.cellsOf t=1/\ ¬P.cellsOf e=0)/\dataT P d e=true:=by simpa [dataT,hu] using hp
    obtain ⟨⟨hc,he0⟩,hpe⟩:=hp'
    simp only at ht
    split at ht
    ·rename_i hb
     simp only [Option.map_eq_some_iff,Option.bind_eq_some_iff] at ht
     obtain ⟨elems,hel,rest,-,rfl⟩:=ht
     have hfw:fitW P t (DataW.slice (elems.map (·.1)) (rest.map (·.1)):DataW H)->len*P.bytesOf e<=reachBytes/\ ∀z∈elems,fitW P e z.1:=by
      intro h
      unfold fitW DataW.weights at h
      simp only [hu] at h
      simp only [List.all_cons,List.all_append,Zb,decide_eq_true_eq,Z0] at h
      obtain ⟨h1,h2,-⟩:=h
      have hle:elems.length=len:=by rw [mapM_some_length hel];simp
      rw [hle] at h1
      refine ⟨Nat.le_trans (Zu _ (Nat.le_add_right _ _)) h1,fun z hz=>q1ek h2 _ (List.mem_map_of_mem hz)⟩
     have el: ∀i,i<len-> ∃cs' xs,w.cells? 0 (a.add (i*P.cellsOf e)) (P.cellsOf e)=some cs'/\xs.length=cs'.length/\cs'.length=P.cellsOf e/\Reads w (fun j=>cs'.getD j undef) xs/\Shp P d e xs/\(fitW P t (DataW.slice (elems.map (·.1)) (rest.map (·.1)):DataW H)->Szd P d e xs):=by
      intro i hi
      obtain ⟨k,y,-,hky,hy⟩:=q1eo hel i (by simpa using hi)
      simp only [Option.bind_eq_some_iff] at hy
      obtain ⟨cs',hcs,hy⟩:=hy
      obtain ⟨xs,y1,y2,y3,y4,y5⟩:=ih n e cs' y hpe hy
      exact ⟨cs',xs,hcs,y1,y2,y3,y4,fun h=>y5 ((hfw h).2 y (Zp hky))⟩
     by_cases h0:len=0
     ·subst h0
      exact ⟨[.sl []],rfl,hc.symm,one rfl (.sl0 _ _),by simp only [Shp,hu];exact ⟨[],rfl,Zj _,fun x hx=>by cases hx⟩,fun _=>by simp only [Szd,hu];exact ⟨[],rfl,by simp,fun x hx=>by cases hx⟩⟩
     ·classical
      let C:Nat->List Value:=fun i=>if h:i<len then (el i h).choose else []
      let X:Nat->List PV:=fun i=>if h:i<len then (el i h).choose_spec.choose else []
      have hCX: ∀i,i<len->w.cells? 0 (a.add (i*P.cellsOf e)) (P.cellsOf e)=some (C i)/\(X i).length=(C i).length/\(C i).length=P.cellsOf e/\Reads w (fun j=>(C i).getD j undef) (X i)/\Shp P d e (X i)/\(fitW P t (DataW.slice (elems.map (·.1)) (rest.map (·.1)):DataW H)->Szd P d e (X i)):=by
       intro i hi
       have:=(el i hi).choose_spec.choose_spec
       simp only [C,X,dif_pos hi]
       exact this
      have hspot:a.spot=none:=by
       obtain ⟨h1,h2,h3,-⟩:=hCX 0 (by omega)
       obtain ⟨-,-,hg⟩:=World.cells?_some h1
       have hg0:=hg 0 (by omega)
       simp only [Nat.zero_mul] at hg0
       have e1:(a.add 0).add 0=a:=by simp [Addr.add]
       rw [e1] at hg0
       unfold World.cell? at hg0
       have hlt:0<(C 0).length:=by omega
       simp only [Zl hlt] at hg0
       split at hg0
       ·split at hg0
        ·cases hg0
        ·rename_i hns;simpa using hns
       ·cases hg0
      obtain ⟨b,off,sp⟩:=a
      simp only at hspot
      subst hspot
      have hlen:((List.range len).map X).length=len:=by simp
      refine ⟨[.sl ((List.range len).map X)],rfl,hc.symm,one rfl ?_,by
       simp only [Shp,hu]
       refine ⟨_,rfl,by rw [hlen];omega,fun x hx=> ?_⟩
       obtain ⟨i,hi,rfl⟩:=ZJ.1 hx
       exact (hCX i (by simpa using hi)).2.2.2.2.1,fun h=>by
       simp only [Szd,hu]
       refine ⟨_,rfl,by rw [hlen];exact (hfw h).1,fun x hx=> ?_⟩
       obtain ⟨i,hi,rfl⟩:=ZJ.1 hx
       exact (hCX i (by simpa using hi)).2.2.2.2.2 h⟩
      have key:=PRep.sl (I:=I0 w) b off cap (P.cellsOf e) ((List.range len).map X) (fun i j=>(C i).getD j undef) (by omega) (by omega) (fun i hi=> ?_) (fun i j hi hj=> ?_) (fun i j hi hj=> ?_)
      ·rw [hlen] at key;exact key
      ·rw [hlen] at hi
       simp only [Z1,List.getElem_range]
       obtain ⟨-,h2,h3,-⟩:=hCX i hi
       omega
      ·rw [hlen] at hi
       obtain ⟨h1,h2,h3,-⟩:=hCX i hi
       obtain ⟨-,-,hg⟩:=World.cells?_some h1
       have:=hg j hj
       rw [Addr.add_lit,Addr.add_lit] at this
       show w.cell? _=_
       rw [this]
       have hlt:j<(C i).length:=by omega
       simp [ZB,hlt]
      ·rw [hlen] at hi
       simp only [Z1,List.getElem_range] at hj⊢
       obtain ⟨-,-,-,h4,-⟩:=hCX i hi
       exact h4 j hj
    ·cases ht
   case h_9 cs' fs hu=>
    have hp':tileB P 0 (comps P t) (P.cellsOf t)=true/\((comps P t).all fun c=>dataT P d c.2)=true:=by
     unfold dataT at hp;simp only [hu] at hp;simpa only [Zb] using hp
    split at ht
    ·rename_i hl
     simp only [Option.map_eq_some_iff] at ht
     obtain ⟨ys,hy,rfl⟩:=ht
     have hcm:comps P t=fs.toList.map fun f=>(f.offset,f.type):=by unfold comps;rw [hu]
     obtain ⟨xs,x1,x2,x3,x4⟩:=parts (fun c hc=>by
      rw [hcm] at hc
      obtain ⟨f,hf,rfl⟩:=ZJ.1 hc
      obtain ⟨i,z,h1,h2,h3⟩:=q1eo hy f hf
      refine ⟨z,h3,fun h=> ?_⟩
      unfold fitW DataW.weights at h
      simp only [hu] at h
      exact q1en h (by rw [List.getElem?_map,h1];rfl) (by rw [List.getElem?_map,h2];rfl)) hl hp'.1 hp'.2
     exact ⟨xs,x1,hl,x2,by simp only [Shp,hu];exact ⟨x3,fun c hc=>(x4 c hc).1⟩,fun h=>by simp only [Szd,hu];exact fun c hc=>(x4 c hc).2 h⟩
    ·cases ht
   case h_10 cs' m e hu=>
    have hp':tileB P 0 (comps P t) (P.cellsOf t)=true/\((comps P t).all fun c=>dataT P d c.2)=true:=by
     unfold dataT at hp;simp only [hu] at hp;simpa only [Zb] using hp
    split at ht
    ·rename_i hl
     simp only [Option.map_eq_some_iff] at ht
     obtain ⟨ys,hy,rfl⟩:=ht
     have hcm:comps P t=(List.range m).map fun i=>(i*P.cellsOf e,e):=by unfold comps;rw [hu]
     obtain ⟨xs,x1,x2,x3,x4⟩:=parts (fun c hc=>by
      rw [hcm] at hc
      obtain ⟨i,hi,rfl⟩:=ZJ.1 hc
      obtain ⟨k,z,h1,h2,h3⟩:=q1eo hy i hi
      refine ⟨z,h3,fun h=> ?_⟩
      unfold fitW DataW.weights at h
      simp only [hu] at h
      exact q1ek h _ (List.mem_map_of_mem (Zp h2))) hl hp'.1 hp'.2
     exact ⟨xs,x1,hl,x2,by simp only [Shp,hu];exact ⟨x3,fun c hc=>(x4 c hc).1⟩,fun h=>by simp only [Szd,hu];exact fun c hc=>(x4 c hc).2 h⟩
    ·cases ht
   case h_21=>cases ht
   all_goals (rename_i hu;simp [dataT,hu] at hp)
def argV (P:Program) (t:TypeId) (xs:List PV):V:=
 match P.underlying t with
 |some (.struct _)|some (.array _ _)=> .agg (xs.map .p)
 |_=>match xs with|[x]=> .p x|_=> .undef
theorem q1eq {P:Program} {w:World} {H:Type} {enc:TypeId×Value->H} {spare:Nat->Bool} {held:Bool} (d:Nat) {t:TypeId} {v:Value} {x:DataW H} {ps:List MemPlace} (hp:dataT P d t=true)
  {r:Reach} {base:Nat} (hv:Value.okWide P w r base t v) (h:DataW.Trod enc P w 0 spare held t v x ps): ∃xs,Shp P d t xs/\VRep (Gh0 P w) v (argV P t xs)/\(fitW P t x->Szd P d t xs):=by
 obtain ⟨n,hn⟩:=h
 obtain ⟨xs,h1,h2,h3,h4,h5⟩:=q0qj d n t _ _ hp hn
 refine ⟨xs,h4,?_,h5⟩
 have ag:(∃cs,v= .agg cs)->VRep (Gh0 P w) v (.agg (xs.map .p)):=by
  rintro ⟨cs,rfl⟩
  simp only [Value.cells,Array.length_toList] at h1 h3
  refine .agg cs _ (by simp [h1]) fun j hj=> ?_
  simp only [Z0] at hj
  simp only [Z1]
  have:=h3 j hj
  refine .p ?_
  show PRep (I0 w) _ _
  simpa [ZB,Zc] using this
 have sc: ∀y:PV,xs=[y]->(∀cs,v≠ .agg cs)->VRep (Gh0 P w) v (.p y):=by
  rintro y rfl hna
  have hc:v.cells= #[v]:=by cases v<;>first|rfl|exact absurd rfl (hna _)
  have:=h3 0 (by simp)
  rw [hc] at this
  exact .p this
 unfold argV
 cases d with
 |zero=>simp [dataT] at hp
 |succ d=>
  unfold dataT at hp
  split at hp
  ·rename_i hu
   simp only [Shp,hu] at h4
   obtain ⟨b,rfl⟩:=h4
   simp only [hu]
   refine sc _ rfl fun cs e=> ?_
   subst e
   simp [Value.okWide,hu,Cell.okWide,Cell.ok] at hv
  ·rename_i k hu
   simp only [Shp,hu] at h4
   obtain ⟨m,rfl,-⟩:=h4
   simp only [hu]
   refine sc _ rfl fun cs e=> ?_
   obtain ⟨m',hm⟩:=WideShapes.okWide_int hu hv
   rw [hm] at e;cases e
  ·rename_i hu
   simp only [Shp,hu] at h4
   obtain ⟨m,rfl,-⟩:=h4
   simp only [hu]
   refine sc _ rfl fun cs e=> ?_
   obtain ⟨m',hm⟩:=WideShapes.okWide_string hu hv
   rw [hm] at e;cases e
  ·rename_i e hu
   simp only [Shp,hu] at h4
   obtain ⟨m,rfl,-⟩:=h4
   simp only [hu]
   refine sc _ rfl fun cs e=> ?_
   obtain ⟨a',l',c',hm⟩:=WideShapes.okWide_slice hu hv
   rw [hm] at e;cases e
  ·rename_i fs hu
   simp only [hu]
   obtain ⟨cs,hcs,-⟩:=WideShapes.okWide_struct hu hv
   exact ag ⟨cs,hcs⟩
  ·rename_i m e hu
   simp only [hu]
   simp only [Value.okWide,hu] at hv
   obtain ⟨cs,hcs,-⟩:=hv
   exact ag ⟨cs,hcs⟩
  ·cases hp
theorem q0dr {P:Program} {w:World} {H:Type} {enc:TypeId×Value->H} {spare:Nat->Bool} {held:Bool} (d:Nat) {t:TypeId} {v:Value} {x:DataW H} {ps:List MemPlace} (hp:dataT P d t=true)
  {r:Reach} {base:Nat} (hv:Value.okWide P w r base t v) (h:DataW.Trod enc P w 0 spare held t v x ps): ∃xs,Shp P d t xs/\VRep (Gh0 P w) v (argV P t xs):=by
 obtain ⟨xs,h1,h2,-⟩:=q1eq d hp hv h
 exact ⟨xs,h1,h2⟩
theorem q0ns {P:Program} {X:Gh->Prop} {E:Env} (hE:EnvOKX P X E) {f:FuncId} {vs:List V} {b:Bool} (hev:clD E (.p (.fn f)) vs []=some (.p (.bool b),none)) {args:Array Value} {W:World} (hX: ∀G,(Gh0 P W).Le G->X G) (ha:args.size=vs.length)
  (hr: ∀j (hj:j<vs.length),VRep (Gh0 P W) (args.getD j undef) (vs[j])):Calls P f args W fun e W'=>e= .returned (.bool b)/\Go.RowKit.Below W.heap.size W W':=by
 obtain ⟨k,hk⟩:=(q03d E _ _ _ _).1 hev
 rcases (sound hE k).2.2 _ _ _ _ hk (Gh0 P W) (fun _=>none) W (.func (.func f) #[] #[]) args (fun G hG=>⟨hG.C,hX G hG⟩) (.p (.fn f)) ha hr (wok0 P W) (fun b k h=>by cases h) with ⟨f',first,cap,hf,-,hc⟩|⟨id,l,g,tmps,assign,body,hy,-⟩
 ·cases hf
  simp only [Array.empty_append,Array.append_empty] at hc
  refine callsIn_wide.1 (CallsIn.mono (hc 0) ?_)
  rintro e w' ⟨val,rfl,hs,G',own',hfoot,hval,-⟩
  refine ⟨?_,hfoot.os,hfoot.tape,hfoot.output,hfoot.size,fun b hb=>hs b hb fun k hk=>(by cases hk)⟩
  cases hval with
  |p hp=>cases hp;rfl
 ·cases hy
theorem q0qk {P:Program} {E:Env} (hE:EnvOK P E) {f:FuncId} {vs:List V} {b:Bool} (hev:clD E (.p (.fn f)) vs []=some (.p (.bool b),none)) {args:Array Value} {W:World} (ha:args.size=vs.length)
  (hr: ∀j (hj:j<vs.length),VRep (Gh0 P W) (args.getD j undef) (vs[j])):Calls P f args W fun e W'=>e= .returned (.bool b)/\Go.RowKit.Below W.heap.size W W':=
 q0ns hE hev (fun _ _=>trivial) ha hr
def nmS (i:Int):ByteArray:=
 if i=0 then ⟨#[110,111,110,101]⟩ else if i=1 then ⟨#[116,97,108,108]⟩ else if i=2 then ⟨#[108,111,110,103]⟩ else if i=3 then ⟨#[115,116,117,99,107]⟩ else if i=4 then ⟨#[108,111,115,116]⟩ else if i=5 then ⟨#[105,100,108,101]⟩ else ⟨#[]⟩
def nameP (vs:List V) (_:Heap):Option CR:=
 match vs with
 |[.p (.int .i64 n)]=>some (.p (.str (nmS n)),none)
 |_=>none
theorem q0wp {P:Program} {E0:Env} (hE:EnvOK P E0) {f:FuncId} (hev:clD E0 (.p (.fn f)) [] []=some (.p (.bool true),none)) {vs:List V} {H:Heap} {r:CR} (h:sayP vs H=some r) {G:Gh} {own:Own} {w:World} {args:Array Value}
  (ha:args.size=vs.length) (hw:WOK G own H (fun _=>none) [] w):(∀xs w1,(callFunc f xs).run P w1= .ok (.enter f xs) w1)/\CallR P w G own H r f args:=by
 unfold sayP at h
 split at h
 ·cases h
  obtain rfl:args= #[]:=Array.size_eq_zero_iff.1 (by simpa using ha)
  obtain ⟨k,hk⟩:=(q03d E0 _ _ _ _).1 hev
  rcases (sound hE k).2.2 _ _ _ _ hk (Gh0 P w) (fun _=>none) w (.func (.func f) #[] #[]) #[] (fun G' hG=>⟨hG.C,trivial⟩) (.p (.fn f)) rfl (fun j hj=>absurd hj (Zz _)) (wok0 P w) (fun b k h=>by cases h) with ⟨f',first,cap,hf,hcall,hc⟩|⟨id,l,g,tmps,assign,body,hy,-⟩
  ·cases hf
   refine ⟨hcall,fun m=> ?_⟩
   have hc':=hc m
   simp only [Array.append_empty] at hc'
   refine CallsIn.mono hc' ?_
   rintro e w' ⟨val,rfl,hs,G',own',hfoot,hval,-⟩
   have same: ∀b,b<w.heap.size->w'.heap[b]? =w.heap[b]? :=fun b hb=>hs b hb fun k hk=>by cases hk
   have hv:val= .bool true:=by
    cases hval with
    |p hp=>cases hp;rfl
   subst hv
   exact ⟨_,rfl,fun b hb _=>same b hb,G,own,⟨.refl G,hfoot.size,fun b hb _=>same b hb,fun _ _ h=> .inl h,fun _ _ _ h=> .inl h,hfoot.os,hfoot.tape,hfoot.output⟩,.p (.bool _),hw.frame hfoot.size same⟩
  ·cases hy
 ·cases h
end Go.Eng
