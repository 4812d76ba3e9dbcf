/- Rules for evaluating functions: loops, lists, rows, numbers. -/
import Derived.Test.YtjjdmlpdgcdehaaGreatEngAll2
set_option linter.unusedSimpArgs false
set_option linter.unusedVariables false
namespace Go.Eng
open Go
theorem q0li (E:Env) (f:FuncId) (args:List V) (H:Heap) (g:List V->Heap->Option CR) (h:E.prims f=some g):clD E (.p (.fn f)) args H=g args H:=by
 rw [q085];simp only [clStep.go,h]
theorem q0ta {σ:Type} {E:Env} {ks kl:List Nat} {c:IC} (enc:σ->St) (Inv:σ->Prop) (μ:σ->Nat) (out:σ->Ex×St)
  (hk: ∀s,(enc s).keep ks kl=enc s)
  (h: ∀s,Inv s->(∃s',evD E c (enc s)=some (.normal,enc s')/\Inv s'/\μ s'<μ s/\out s'=out s)\/(evD E c (enc s)=some (out s)/\(out s).1≠ .normal)):
  ∀s,Inv s->evD E (.loop ks kl c) (enc s)=some (out s):=by
 intro s hs
 generalize hm:μ s=m
 induction m using Nat.strongRecOn generalizing s with
 |ind m ih=>
  rw [q003,hk]
  rcases h s hs with ⟨s',h1,h2,h3,h4⟩|⟨h1,h2⟩
  ·rw [h1,q061,<-h4];exact ih (μ s') (hm▸h3) s' h2 rfl
  ·rw [h1]
   cases ho:out s with
   |mk e S=>
    rw [ho] at h2
    cases e with
    |normal=>exact absurd rfl h2
    |_=>rfl
def rng {α τ ρ:Type} (f:τ->Nat->α->τ⊕ρ) (fin:τ->ρ):τ->Nat->List α->ρ
 |s,_,[]=>fin s
 |s,i,x::r=>match f s i x with| .inl s'=>rng f fin s' (i+1) r| .inr e=>e
theorem q013 {α τ:Type} {E:Env} {ks kl:List Nat} {c:IC} (L:List α) (enc:τ->Nat->St) (Inv:τ->Nat->Prop) (f:τ->Nat->α->τ⊕(Ex×St)) (fin:τ->Ex×St)
  (hk: ∀s i,(enc s i).keep ks kl=enc s i)
  (hstep: ∀s i x,Inv s i->L[i]? =some x->match f s i x with
   | .inl s'=>evD E c (enc s i)=some (.normal,enc s' (i+1))/\Inv s' (i+1)
   | .inr r=>evD E c (enc s i)=some r/\r.1≠ .normal)
  (hend: ∀s,Inv s L.length->evD E c (enc s L.length)=some (fin s)/\(fin s).1≠ .normal):
  ∀s i,Inv s i->i<=L.length->evD E (.loop ks kl c) (enc s i)=some (rng f fin s i (L.drop i)):=by
 intro s i hi hl
 refine q0ta (σ:=τ×Nat) (fun p=>enc p.1 p.2) (fun p=>Inv p.1 p.2/\p.2<=L.length) (fun p=>L.length-p.2) (fun p=>rng f fin p.1 p.2 (L.drop p.2)) (fun p=>hk p.1 p.2) ?_ (s,i) ⟨hi,hl⟩
 rintro ⟨s,i⟩ ⟨hi,hl⟩
 simp only at hi hl⊢
 rcases Z2 i L.length with hlt|hge
 ·have hx:L[i]? =some L[i]:=Zl hlt
  have hd:L.drop i=L[i]::L.drop (i+1):=ZA hlt
  have:=hstep s i _ hi hx
  cases hf:f s i L[i] with
  |inl s'=>
   rw [hf] at this
   refine .inl ⟨(s',i+1),this.1,⟨this.2,hlt⟩,by simp only;omega,?_⟩
   simp only [hd,rng,hf]
  |inr r=>
   rw [hf] at this
   refine .inr ?_
   simp only [hd,rng,hf]
   exact this
 ·have e:i=L.length:=by omega
  subst e
  refine .inr ?_
  rw [List.drop_length]
  exact hend s hi
def fold {α τ:Type} (f:τ->Nat->α->τ):τ->Nat->List α->τ
 |s,_,[]=>s
 |s,i,x::r=>fold f (f s i x) (i+1) r
theorem q0lj {α τ ρ:Type} (f:τ->Nat->α->τ) (fin:τ->ρ): ∀(l:List α) (s:τ) (i:Nat),rng (fun s i x=>(.inl (f s i x):τ⊕ρ)) fin s i l=fin (fold f s i l)
 |[],_,_=>rfl
 |x::r,s,i=>by simp only [rng,fold];exact q0lj f fin r _ _
theorem q00u {α τ:Type} {E:Env} {ks kl:List Nat} {c:IC} (L:List α) (enc:τ->Nat->St) (Inv:τ->Nat->Prop) (f:τ->Nat->α->τ) (fin:τ->Ex×St)
  (hk: ∀s i,(enc s i).keep ks kl=enc s i)
  (hstep: ∀s i x,Inv s i->L[i]? =some x->evD E c (enc s i)=some (.normal,enc (f s i x) (i+1))/\Inv (f s i x) (i+1))
  (hend: ∀s,Inv s L.length->evD E c (enc s L.length)=some (fin s)/\(fin s).1≠ .normal):
  ∀s i,Inv s i->i<=L.length->evD E (.loop ks kl c) (enc s i)=some (fin (fold f s i (L.drop i))):=by
 intro s i hi hl
 have:=q013 L enc Inv (fun s i x=> .inl (f s i x)) fin hk (fun s i x hi hx=>hstep s i x hi hx) hend s i hi hl
 rw [q0lj] at this
 exact this
theorem q00c {α:Type} (H:Heap) (enc:α->List PV) {L:List α} {k:IntKind} {i s:Nat} {x:α} (hx:L[i]? =some x) (hs:(enc x).length=s):
  ixsI H (.p (.sl (L.map enc))) (.p (.int k (i:Int))) s=some (.eptr ((enc x).map .p) 0):=by
 simp [ixsI,ixsV,hx,hs]
theorem q024 {α:Type} (H:Heap) (enc:α->List PV) {L:List α} {k:IntKind} {i:Int} {s:Nat} {x:α} (h0:0<=i) (hx:L[i.toNat]? =some x) (hs:(enc x).length=s):
  ixsI H (.p (.sl (L.map enc))) (.p (.int k i)) s=some (.eptr ((enc x).map .p) 0):=by
 simp [ixsI,ixsV,hx,hs,h0]
@[simp] theorem q0Sj:upV [] =[] :=rfl
@[simp] theorem q0Sk (a b:List (List PV)):upV (a++b)=upV a++upV b:=by simp [upV]
@[simp] theorem q09b (a:List (List PV)):(upV a).length=a.length:=by simp [upV]
theorem q04x (e:List PV) (r:List (List PV)):upV (e::r)=e.map .p::upV r:=rfl
theorem q05v (a:List (List PV)) (i:Nat):(upV a)[i]? =(a[i]?).map (·.map .p):=by simp [upV]
@[simp] theorem q0Qi (H:Heap) (es:List (List PV)):elems H (.p (.sl es))=some (upV es):=_root_.id rfl
@[simp] theorem q0N5 (H:Heap) (es:List (List V)):elems H (.vsl es)=some es:=_root_.id rfl
@[simp] theorem q0Ia (H:Heap):elems H .nil0=some [] :=_root_.id rfl
@[simp] theorem q0Ib (H:Heap):elems H .nils=some [] :=_root_.id rfl
theorem okEl_upV (s:Nat) (es:List (List PV)):(upV es).all (okEl s)=es.all (fun e=>e.length==s):=by
 simp only [upV,List.all_map]
 congr 1
 funext e
 simp [okEl,List.all_map,Zn]
theorem q0lk {α:Type} (enc:α->List PV) (s:Nat) (h: ∀x,(enc x).length=s) (L:List α):(upV (L.map enc)).all (okEl s)=true:=by
 rw [okEl_upV];simp [List.all_map,h]
@[simp] theorem q0Fp (a k:Nat):(a+k<a)=False:=by simp
@[simp] theorem q0Sl (f:Fn) (a b:List V):mkfV f a b=if a.all V.outB=true/\b.all V.outB=true then some (.fn f a b) else none:=_root_.id rfl
@[simp] theorem q0Ic (H l:Heap):rowAt (H++l) H.length=rowAt l 0:=by simp only [rowAt,ZD (Zm _),Nat.sub_self]
@[simp] theorem q0hw (H l:Heap) (k:Nat):rowAt (H++l) (H.length+k)=rowAt l k:=by simp [rowAt,ZD]
@[simp] theorem q0Id (H l:Heap):boxAt (H++l) H.length=boxAt l 0:=by simp only [boxAt,ZD (Zm _),Nat.sub_self]
@[simp] theorem q0b0 (H l:Heap) (k:Nat):boxAt (H++l) (H.length+k)=boxAt l k:=by simp [boxAt,ZD]
@[simp] theorem q0Qj {α:Type} (H l:List α) (o:α):(H++l).set H.length o=H++l.set 0 o:=by simp
@[simp] theorem q0p5 {α:Type} (H l:List α) (k:Nat) (o:α):(H++l).set (H.length+k) o=H++l.set k o:=by simp
@[simp] theorem q0Ie (s:Nat) (es:List (List V)) (r:Heap):rowAt (.row s es::r) 0=some (s,es):=_root_.id rfl
@[simp] theorem q0If (o:DObj) (r:Heap) (k:Nat):rowAt (o::r) (k+1)=rowAt r k:=_root_.id rfl
@[simp] theorem q0Ig (cs:List V) (r:Heap):boxAt (.box cs::r) 0=some cs:=_root_.id rfl
@[simp] theorem q0Ih (o:DObj) (r:Heap) (k:Nat):boxAt (o::r) (k+1)=boxAt r k:=_root_.id rfl
theorem q0ws (base:Nat) (H:Heap) (d:Nat) (es:List (List PV)):allO (allO (frz base H d)) (upV es)=some es:=by
 have h1: ∀e:List PV,allO (frz base H d) (e.map .p)=some e:=by
  intro e
  induction e with
  |nil=>rfl
  |cons x r ih=>simp only [Zo,allO,ih];cases d<;>rfl
 induction es with
 |nil=>rfl
 |cons e r ih=>simp only [q04x,allO,h1,ih]
theorem q0ll (base:Nat) (H:Heap) (d:Nat) (es:List (List PV)):(upV es).flatMap (fun e=>e.flatMap (q00w base H d))=[]:=by
 simp only [upV,List.flatMap_map,List.flatMap_eq_nil_iff]
 intro e _ x _
 cases d<;>rfl
def appR (S:St) (id tot off len s:Nat) (ys:List (List V)):Option (Nat×List (List V))->Option (V×St)
 |some (s',es)=>if es.length=tot/\s'=s/\off=0/\len=tot/\tot+ys.length<most then
   some (.row id (tot+ys.length) 0 (tot+ys.length),{S with hp:=S.hp.set id (.row s (es++ys)),dirty:=addD S.base id S.dirty}) else none
 |none=>none
def appX (S:St) (s:Nat) (ys:List (List V)):V->Option (V×St)
 | .nil0| .nils=>if ys.length<most then (if ys.isEmpty=true then some (.nils,S) else some (.row S.hp.length ys.length 0 ys.length,{S with hp:=S.hp++[DObj.row s ys]})) else none
 | .row id tot off len=>appR S id tot off len s ys (rowAt S.hp id)
 |_=>none
def appE (S:St) (x:V) (s:Nat):Option (List (List V))->Option (V×St)
 |some ys=>if ys.all (okEl s)=true then appX S s ys x else none
 |none=>none
theorem q0B8 (S:St) (x y:V) (s:Nat):appV S x y s=appE S x s (elems S.hp y):=by
 unfold appV appE
 cases elems S.hp y with
 |none=>rfl
 |some ys=>
  simp only [Ze]
  split
  ·cases x with
   |nils=>rfl
   |row id tot off len=>
    simp only [nil1,appX,appR]
    cases rowAt S.hp id with
    |none=>rfl
    |some p=>obtain ⟨s',es⟩:=p;rfl
   |_=>rfl
  ·rfl
section
variable (env:List (Nat×V)) (loc:List (Nat×List V)) (hp:Heap) (base:Nat) (dirty:List Nat)
@[simp] theorem q08l (x y:V) (s:Nat):appV ⟨env,loc,hp,base,dirty⟩ x y s=appE ⟨env,loc,hp,base,dirty⟩ x s (elems hp y):=q0B8 ..
@[simp] theorem q0N6 (S:St) (x:V) (s:Nat) (ys:List (List V)):appE S x s (some ys)=if ys.all (okEl s)=true then appX S s ys x else none:=_root_.id rfl
@[simp] theorem q0Qk (s:Nat) (ys:List (List V)) (id tot off len:Nat):appX ⟨env,loc,hp,base,dirty⟩ s ys (.row id tot off len)=appR ⟨env,loc,hp,base,dirty⟩ id tot off len s ys (rowAt hp id):=_root_.id rfl
@[simp] theorem q0N7 (s:Nat) (ys:List (List V)):appX ⟨env,loc,hp,base,dirty⟩ s ys .nil0=if ys.length<most then (if ys.isEmpty=true then some (.nils,⟨env,loc,hp,base,dirty⟩) else some (.row hp.length ys.length 0 ys.length,⟨env,loc,hp++[DObj.row s ys],base,dirty⟩)) else none:=_root_.id rfl
@[simp] theorem q0N8 (s:Nat) (ys:List (List V)):appX ⟨env,loc,hp,base,dirty⟩ s ys .nils=if ys.length<most then (if ys.isEmpty=true then some (.nils,⟨env,loc,hp,base,dirty⟩) else some (.row hp.length ys.length 0 ys.length,⟨env,loc,hp++[DObj.row s ys],base,dirty⟩)) else none:=_root_.id rfl
@[simp] theorem q0N9 (id tot off len s s':Nat) (ys es:List (List V)):appR ⟨env,loc,hp,base,dirty⟩ id tot off len s ys (some (s',es))=
  if es.length=tot/\s'=s/\off=0/\len=tot/\tot+ys.length<most then some (.row id (tot+ys.length) 0 (tot+ys.length),⟨env,loc,hp.set id (.row s (es++ys)),base,addD base id dirty⟩) else none:=_root_.id rfl
def frzK (tot off len:Nat) (base:Nat) (H:Heap) (d:Nat):Option (Nat×List (List V))->Option PV
 |some (_,es)=>if es.length=tot then (allO (allO (frz base H d)) ((es.drop off).take len)).map .sl else none
 |none=>none
theorem q056 (b:Nat) (H:Heap) (d id tot off len:Nat):frz b H (d+1) (.row id tot off len)=if b<=id then frzK tot off len b H d (rowAt H id) else none:=by
 simp only [frz,frzK,elems]
 split
 ·cases rowAt H id with
  |none=>rfl
  |some p=>obtain ⟨s,es⟩:=p;simp only [Ze];split<;>rfl
 ·rfl
def pOf:Option PV->Option V
 |some x=>some (.p x)
 |none=>none
@[simp] theorem q0Ql (x:PV):pOf (some x)=some (.p x):=_root_.id rfl
@[simp] theorem q0cy (id tot off len:Nat):freeze ⟨env,loc,hp,base,dirty⟩ (.row id tot off len)=if base<=id then pOf (frzK tot off len base hp 2 (rowAt hp id)) else some (.row id tot off len):=by
  simp only [freeze,deep,q056]
  split
  ·cases frzK tot off len base hp 2 (rowAt hp id)<;>rfl
  ·rfl
@[simp] theorem q0Do (id tot off len:Nat):freezeR ⟨env,loc,hp,base,dirty⟩ (.row id tot off len)=if base<=id then pOf (frzK tot off len base hp 2 (rowAt hp id)) else some (.row id tot off len):=q0cy ..
theorem q0lm (es:List (List PV)) (n:Nat):(upV es).drop n=upV (es.drop n):=by simp [upV,List.map_drop]
theorem q0ln (es:List (List PV)) (n:Nat):(upV es).take n=upV (es.take n):=by simp [upV,List.map_take]
@[simp] theorem q09c (tot off len b d s:Nat) (H:Heap) (es:List (List PV)):frzK tot off len b H d (some (s,upV es))=if es.length=tot then some (.sl ((es.drop off).take len)) else none:=by
  simp only [frzK,q09b,q0lm,q0ln,q0ws]
  split<;>rfl
@[simp] theorem q0Dp {α β:Type} (f:α->β) (l:List α):(l.map f).take l.length=l.map f:=by simp [Zy]
def idsK (id tot off len:Nat) (base:Nat) (H:Heap) (d:Nat):Option (Nat×List (List V))->List Nat
 |some (_,es)=>if es.length=tot then id::((es.drop off).take len).flatMap (fun e=>e.flatMap (q00w base H d)) else [id]
 |none=>[id]
theorem q0cz (b:Nat) (H:Heap) (d id tot off len:Nat):q00w b H (d+1) (.row id tot off len)=if b<=id then idsK id tot off len b H d (rowAt H id) else []:=by
 simp only [q00w,idsK,elems]
 split
 ·cases rowAt H id with
  |none=>rfl
  |some p=>obtain ⟨s,es⟩:=p;simp only [Ze];split<;>simp
 ·rfl
@[simp] theorem q0Fq (b:Nat) (H:Heap) (id tot off len:Nat):q00w b H deep (.row id tot off len)=if b<=id then idsK id tot off len b H 2 (rowAt H id) else [] :=q0cz ..
@[simp] theorem q0Qm (id tot off len b d s:Nat) (H:Heap) (es:List (List PV)):idsK id tot off len b H d (some (s,upV es))=[id] :=by
  simp only [idsK,q09b,q0lm,q0ln,q0ll]
  split<;>rfl
@[simp] theorem q0wt (b d:Nat) (H:Heap) (x:PV):q00w b H d (.p x)=[] :=by cases d<;>rfl
@[simp] theorem q0nt (b d:Nat) (H:Heap):q00w b H d .nils=[] :=by cases d<;>rfl
@[simp] theorem q0tb (b d:Nat) (H:Heap) (f:Fn) (u v:List V):q00w b H d (.fn f u v)=[] :=by cases d<;>rfl
@[simp] theorem q0qm (b d:Nat) (H:Heap) (i o:Nat):q00w b H d (.ptr i o)=[] :=by cases d<;>rfl
@[simp] theorem q0qn (b d:Nat) (H:Heap) (es:List (List V)):q00w b H d (.vsl es)=[] :=by cases d<;>rfl
@[simp] theorem q0nu (b d:Nat) (H:Heap):q00w b H d .nil0=[] :=by cases d<;>rfl
@[simp] theorem q0qo (b d:Nat) (H:Heap) (i:Nat):q00w b H d (.map i)=[] :=by cases d<;>rfl
@[simp] theorem q0Ii (b d:Nat) (H:Heap) (i:Nat):q00w b H d (.yld i)=[] :=by cases d<;>rfl
@[simp] theorem q0lo (b d:Nat) (H:Heap):q00w b H d .undef=[] :=by cases d<;>rfl
@[simp] theorem q0Fr (cs:List V):q01d ⟨env,loc,hp,base,dirty⟩ (.agg cs)=cs.flatMap (q00w base hp deep):=_root_.id rfl
@[simp] theorem q0Na (S:St) (x:PV):q01d S (.p x)=[] :=q0wt ..
@[simp] theorem q0Dq (S:St):q01d S .nils=[] :=q0nt ..
@[simp] theorem q0Ij (S:St) (f:Fn) (u v:List V):q01d S (.fn f u v)=[] :=q0tb ..
@[simp] theorem q0Fs (S:St) (i o:Nat):q01d S (.ptr i o)=[] :=q0qm ..
@[simp] theorem q0Ft (S:St) (es:List (List V)):q01d S (.vsl es)=[] :=q0qn ..
@[simp] theorem q0Dr (S:St):q01d S .nil0=[] :=q0nu ..
@[simp] theorem q0Fu (S:St) (i:Nat):q01d S (.map i)=[] :=q0qo ..
@[simp] theorem q0Cy (S:St):q01d S .undef=[] :=q0lo ..
@[simp] theorem q0Fv (id tot off len:Nat):q01d ⟨env,loc,hp,base,dirty⟩ (.row id tot off len)=if base<=id then idsK id tot off len base hp 2 (rowAt hp id) else [] :=q0cz ..
@[simp] theorem q0Ik (S:St):q02e S [] =[] :=_root_.id rfl
@[simp] theorem q0Il (t:Nat) (rs:List RV):q02e ⟨env,loc,hp,base,dirty⟩ (.tmp t::rs)=q01d ⟨env,loc,hp,base,dirty⟩ (getE env t)++q02e ⟨env,loc,hp,base,dirty⟩ rs:=_root_.id rfl
def rawK (S:St):Option V->List Nat
 |some v=>q01d S v
 |none=>[]
@[simp] theorem q0Nb (S:St) (v:V):rawK S (some v)=q01d S v:=_root_.id rfl
@[simp] theorem q0Fw (a n:Nat) (agg:Bool) (rs:List RV):q02e ⟨env,loc,hp,base,dirty⟩ (.cell a n agg::rs)=rawK ⟨env,loc,hp,base,dirty⟩ ((q011 ⟨env,loc,hp,base,dirty⟩ (getE env a) n).bind (aggOr agg))++q02e ⟨env,loc,hp,base,dirty⟩ rs:=by
  simp only [q02e,rawK];rfl
end
@[simp] theorem q0Nc (s:Nat) (es:List (List V)):fillS s es [] =some es:=_root_.id rfl
@[simp] theorem q0Im (s i:Nat) (es:List (List V)) (v:V) (r:List (Nat×V)):fillS s es ((i,v)::r)=if i<es.length/\v.cells.length=s/\v.cells.all V.oneB=true then fillS s (es.set i v.cells) r else none:=_root_.id rfl
@[simp] theorem q0Nd (z:List V):fillV z [] =some z:=_root_.id rfl
@[simp] theorem q0In (z:List V) (o n:Nat) (v:V) (r:List (Nat×Nat×V)):fillV z ((o,n,v)::r)=if v.cells.length=n/\v.cells.all V.oneB=true then (q001 z o v.cells).bind fun z=>fillV z r else none:=_root_.id rfl
def consP:Option PV->Option (List PV)->Option (List PV)
 |some x,some xs=>some (x::xs)
 |_,_=>none
def consL:Option (List PV)->Option (List (List PV))->Option (List (List PV))
 |some x,some xs=>some (x::xs)
 |_,_=>none
@[simp] theorem q0Io (x:PV) (xs:List PV):consP (some x) (some xs)=some (x::xs):=_root_.id rfl
@[simp] theorem q0Ip (x:Option (List PV)):consP none x=none:=_root_.id rfl
@[simp] theorem q0Fx (x:Option PV):consP x none=none:=by cases x<;>rfl
@[simp] theorem q0Iq (x:List PV) (xs:List (List PV)):consL (some x) (some xs)=some (x::xs):=_root_.id rfl
@[simp] theorem q0Ir (x:Option (List (List PV))):consL none x=none:=_root_.id rfl
@[simp] theorem q0Fy (x:Option (List PV)):consL x none=none:=by cases x<;>rfl
@[simp] theorem q0Is:q03s [] =some [] :=_root_.id rfl
@[simp] theorem q0Fz (v:V) (r:List V):q03s (v::r)=consP (PV.ofV v) (q03s r):=by simp only [q03s,consP];cases PV.ofV v<;>cases q03s r<;>rfl
@[simp] theorem ofV_p (x:PV):PV.ofV (.p x)=some x:=_root_.id rfl
@[simp] theorem q0Qn:PV.ofV .nils=some (.sl []):=_root_.id rfl
@[simp] theorem q0Sm (a b c d:Nat):PV.ofV (.row a b c d)=none:=_root_.id rfl
@[simp] theorem q0Th (f:Fn) (a b:List V):PV.ofV (.fn f a b)=none:=_root_.id rfl
@[simp] theorem q0Sn (a b:Nat):PV.ofV (.ptr a b)=none:=_root_.id rfl
@[simp] theorem q0Qo (a b c d:Nat):PV.ofV (.rptr a b c d)=none:=_root_.id rfl
@[simp] theorem q0Qp (cs:List V) (o:Nat):PV.ofV (.eptr cs o)=none:=_root_.id rfl
@[simp] theorem q0So (es:List (List V)):PV.ofV (.vsl es)=none:=_root_.id rfl
@[simp] theorem q0Sp (a b c d:Nat):PV.ofV (.bvs a b c d)=none:=_root_.id rfl
@[simp] theorem q0Cz:q02b [] =some [] :=_root_.id rfl
@[simp] theorem q0B9 (v:List V) (r:List (List V)):q02b (v::r)=consL (q03s v) (q02b r):=by simp only [q02b,consL];cases q03s v<;>cases q02b r<;>rfl
def slK (es:List (List V)):Option (List (List PV))->Option V
 |some xs=>some (.p (.sl xs))
 |none=>some (.vsl es)
@[simp] theorem q0Qq (es:List (List V)) (xs:List (List PV)):slK es (some xs)=some (.p (.sl xs)):=_root_.id rfl
@[simp] theorem q0Qr (es:List (List V)):slK es none=some (.vsl es):=_root_.id rfl
@[simp] theorem q0Sq:slR (some [])=some .nils:=_root_.id rfl
@[simp] theorem q0Qs (e:List V) (r:List (List V)):slR (some (e::r))=slK (e::r) (q02b (e::r)):=by
  simp only [slR,slK];cases q02b (e::r)<;>rfl
@[simp] theorem q0Qt:slR none=none:=_root_.id rfl
@[simp] theorem q0Sr (s:Nat) (es:List (List PV)):(upV es).all (okEl s)=es.all (fun e=>e.length==s):=okEl_upV s es
@[simp] theorem q0Ne (es:List (List PV)):(upV es).isEmpty=es.isEmpty:=by cases es<;>rfl
def ldR (tot i j n:Nat):Option (Nat×List (List V))->Option (List V)
 |some (_,es)=>if es.length=tot then (es[i]?).bind fun e=>subs e j n else none
 |none=>none
def stR (S:St) (id tot i j:Nat) (vs:List V):Option (Nat×List (List V))->Option St
 |some (s,es)=>if es.length=tot then (es[i]?).bind fun e=>(q001 e j vs).map fun e'=> {S with hp:=S.hp.set id (.row s (es.set i e')),dirty:=addD S.base id S.dirty} else none
 |none=>none
def ixR (id tot off len i s:Nat):Option (Nat×List (List V))->Option V
 |some (s',es)=>if es.length=tot/\s'=s/\i<len then some (.rptr id tot (off+i) 0) else none
 |none=>none
section
variable (env:List (Nat×V)) (loc:List (Nat×List V)) (hp:Heap) (base:Nat) (dirty:List Nat)
@[simp] theorem q0Ss (id tot i j n:Nat):q011 ⟨env,loc,hp,base,dirty⟩ (.rptr id tot i j) n=ldR tot i j n (rowAt hp id):=by
  simp only [q011,ldR];cases rowAt hp id with
  |none=>rfl
  |some p=>obtain ⟨s,es⟩:=p;rfl
@[simp] theorem q0St (id tot i j:Nat) (vs:List V):q00l ⟨env,loc,hp,base,dirty⟩ (.rptr id tot i j) vs=stR ⟨env,loc,hp,base,dirty⟩ id tot i j vs (rowAt hp id):=by
  simp only [q00l,stR];cases rowAt hp id with
  |none=>rfl
  |some p=>obtain ⟨s,es⟩:=p;rfl
@[simp] theorem q0Qu (tot i j n s:Nat) (es:List (List V)):ldR tot i j n (some (s,es))=if es.length=tot then (es[i]?).bind fun e=>subs e j n else none:=_root_.id rfl
@[simp] theorem q0Qv (id tot i j s:Nat) (vs:List V) (es:List (List V)):stR ⟨env,loc,hp,base,dirty⟩ id tot i j vs (some (s,es))=
  if es.length=tot then (es[i]?).bind fun e=>(q001 e j vs).map fun e'=>⟨env,loc,hp.set id (.row s (es.set i e')),base,addD base id dirty⟩ else none:=_root_.id rfl
end
theorem q01f (H:Heap) (id tot off len s:Nat) (k:IntKind) (i:Nat):ixsI H (.row id tot off len) (.p (.int k (i:Int))) s=ixR id tot off len i s (rowAt H id):=by
 simp only [ixsI,ixsV,ixR,Int.natCast_nonneg,if_true]
 cases rowAt H id with
 |none=>rfl
 |some p=>
  obtain ⟨s',es⟩:=p
  simp only [Ze,Int.toNat_natCast]
  by_cases h:i<len
  ·simp [h]
  ·simp [h]
@[simp] theorem q0Qw (id tot off len i s s':Nat) (es:List (List V)):ixR id tot off len i s (some (s',es))=if es.length=tot/\s'=s/\i<len then some (.rptr id tot (off+i) 0) else none:=_root_.id rfl
theorem q0hx (H:Heap) (id s:Nat) (es:List (List V)) (h:id<H.length):rowAt (H.set id (.row s es)) id=some (s,es):=by simp [rowAt,List.getElem?_set,h]
theorem q05l (H:Heap) (id k:Nat) (o:DObj) (h:id≠k):rowAt (H.set id o) k=rowAt H k:=by simp [rowAt,Zr h]
theorem q07o (H:Heap) (id:Nat) (cs:List V) (h:id<H.length):boxAt (H.set id (.box cs)) id=some cs:=by simp [boxAt,List.getElem?_set,h]
theorem q01p (H:Heap) (id k:Nat) (o:DObj) (h:id≠k):boxAt (H.set id o) k=boxAt H k:=by simp [boxAt,Zr h]
theorem q03h {H:Heap} (T:Heap) {id:Nat} (h:id<H.length):rowAt (H++T) id=rowAt H id:=by simp only [rowAt,Zw h]
theorem q077 {H:Heap} (T:Heap) {id:Nat} (h:id<H.length):boxAt (H++T) id=boxAt H id:=by simp only [boxAt,Zw h]
theorem q09d {H:Heap} {id s:Nat} {es:List (List V)} (h:rowAt H id=some (s,es)):id<H.length:=by
 unfold rowAt at h;split at h
 ·rename_i h1;exact (Za.1 h1).1
 ·cases h
theorem q0wu (env:List (Nat×V)) (loc:List (Nat×List V)) (hp:Heap) (base:Nat) (dirty:List Nat) (s:Nat) (z:List V) (k:IntKind) (n:Nat):
  mksI ⟨env,loc,hp,base,dirty⟩ s z (.p (.int k (n:Int)))=if n<most then some (.row hp.length n 0 n,⟨env,loc,hp++[DObj.row s (List.replicate n z)],base,dirty⟩) else none:=by simp [mksI]
theorem q09e {α:Type} (g:α->α): ∀(l done:List α),fold (fun (M:List α) i x=>M.set i (g x)) (done++l) done.length l=done++l.map g
 |[],done=>by simp [fold]
 |x::r,done=>by
  have e:(done++x::r).set done.length (g x)=(done++[g x])++r:=by simp
  have:=q09e g r (done++[g x])
  simp only [fold,e,Zo]
  rw [show done.length+1=(done++[g x]).length by simp,this]
  simp
theorem q06r {α:Type} (enc:α->List PV) (L:List α) (i:Nat) (y:α):(upV (L.map enc)).set i ((enc y).map .p)=upV ((L.set i y).map enc):=by
 simp [upV,List.map_set]
@[simp] theorem q0Nf:V.outB .nils=true:=_root_.id rfl
@[simp] theorem q0It (a b c d:Nat):V.plainR (.row a b c d)=false:=_root_.id rfl
@[simp] theorem q0G0 (a b c d:Nat):V.plainR (.rptr a b c d)=false:=_root_.id rfl
@[simp] theorem q0Su (b:Bool):V.outB (.mt b)=true:=_root_.id rfl
@[simp] theorem q0Qx (H:Heap) (b:Bool):elems H (.mt b)=some [] :=_root_.id rfl
def q05m (s:Nat) (z:List V):IFn:=⟨(.seq (.reg false [⟨some 2,none,.mov (.c .nils)⟩] [0] [])
 (.seq (.seq (.reg false [⟨some 3,none,.mov (.t 0)⟩,⟨some 4,none,.eqn .sl false (.t 3)⟩] [0,4] [])
 (.cond (.t 4) (.seq (.reg false [⟨some 2,none,.mov (.c .nils)⟩] [2] []) .ret) .skip))
 (.seq (.reg false [⟨some 5,none,.bsl s 0 z []⟩,⟨some 6,none,.mov (.t 0)⟩,⟨some 7,none,.app (.t 5) (.t 6) s⟩,⟨some 2,none,.mov (.t 7)⟩] [2] []) .ret))),[.tmp 2],true⟩
theorem q0f0 (E:Env) (f:FuncId) (s:Nat) (z:List V) (H:Heap) (x:V) (hp:E.prims f=none) (hf:E.fns f=some (q05m s z)) (hx:q05c [x]=true):clD E (.p (.fn f)) [x] H=some (.nils,none):=by
 have hm:(0:Nat)<most:=by unfold most;omega
 refine q0q7 E f _ _ [x] H hp hf hx ?_ ?_<;>simp [zEa,hm]
theorem q0wv (E:Env) (f:FuncId) (s:Nat) (z:List V) (H:Heap) (e:List PV) (es:List (List PV)) (hp:E.prims f=none) (hf:E.fns f=some (q05m s z)) (hs:(e::es).all (fun e=>e.length==s)=true) (hm:(e::es).length<most):
  clD E (.p (.fn f)) [.p (.sl (e::es))] H=some (.row H.length (e::es).length 0 (e::es).length,some (H++[.row s (upV (e::es))],[])):=by
 rw [q0k1 E f _ _ [.p (.sl (e::es))] H hp hf rfl]
 simp only [List.all_cons,Zb] at hs
 simp at hm
 simp [-List.all_eq_true,zEa,q09b,hs.1,hs.2,hm]
theorem w64 {n:Int} (h0: -9223372036854775808<=n) (h1:n<=9223372036854775807):IntKind.wrap .i64 n=n:=q01b n h0 h1
def encI (n:Int):List PV:=[.int .i64 n]
@[simp] theorem q0Qy (n:Int):(encI n).length=1:=rfl
abbrev sli (l:List Int):V:= .p (.sl (l.map encI))
abbrev vI (n:Int):V:= .p (.int .i64 n)
abbrev vB (b:Bool):V:= .p (.bool b)
end Go.Eng
