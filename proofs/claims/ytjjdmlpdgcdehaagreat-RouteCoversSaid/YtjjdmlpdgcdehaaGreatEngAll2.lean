/- The engine: values, instructions, their evaluation, and that it holds of the program. -/
import Derived.Test.YtjjdmlpdgcdehaaGreatEngAll1
namespace Go.Eng
open Go
section
variable (E:Env) (S:St)
theorem q0vr:evD E .skip S=some (.normal,S):=by rw [q02o];rfl
theorem q0ru (l:Nat):evD E (.label l) S=some (.normal,S):=by rw [q02o];rfl
theorem q0vs (ts:List Nat) (c:IC):evD E (.prep ts c) S=evD E c {S with loc:=prepL S.loc ts}:=by rw [q02o];rfl
theorem q0zh (ss:List Nat) (c:IC):evD E (.rsv ss c) S=evD E c {S with hp:=S.hp++ss.map fun s=>DObj.row s []}:=by rw [q02o];rfl
noncomputable def escK (E:Env) (c:IC):Option St->Option (Ex×St)
 |some S=>evD E c S
 |none=>none
theorem q0zi (ts:List Nat) (c:IC):evD E (.esc ts c) S=escK E c (escS S ts):=by
 rw [q02o];simp only [q00m];cases escS S ts<;>rfl
theorem q0rv (c:IC):escK E c (some S)=evD E c S:=_root_.id rfl
theorem q0rw (c:IC):evD E (.scope c) S=evD E (.scopeR c c) S:=by rw [q02o];rfl
noncomputable def scopeK (E:Env) (b:IC):Option (Ex×St)->Option (Ex×St)
 |some (.goto l,S)=>match q019 b l with
  |some r=>evD E (.scopeR r b) S
  |none=>some (.goto l,S)
 |r=>r
theorem q0q1 (c b:IC):evD E (.scopeR c b) S=scopeK E b (evD E c S):=by
 rw [q02o];simp only [q00m]
 cases evD E c S with
 |none=>rfl
 |some x=>
  obtain ⟨e,S'⟩:=x
  cases e<;>rfl
theorem q0jc (b:IC):scopeK E b (some (.normal,S))=some (.normal,S):=_root_.id rfl
theorem q0q2 (b:IC):scopeK E b (some (.ret,S))=some (.ret,S):=_root_.id rfl
theorem q0nf (b:IC) (i:Nat):scopeK E b (some (.exit i,S))=some (.exit i,S):=_root_.id rfl
theorem q0vt (l:Nat):evD E (.goto l) S=some (.goto l,S):=by rw [q02o];rfl
theorem q0vu (i:Nat):evD E (.exit i) S=some (.exit i,S):=by rw [q02o];rfl
theorem q0zj:evD E .ret S=some (.ret,S):=by rw [q02o];rfl
def regK (ks kl:List Nat):Option St->Option (Ex×St)
 |some S=>some (.normal,S.keep ks kl)
 |none=>none
theorem q0zk (d:Bool) (ops:List GIns) (ks kl:List Nat):evD E (.reg d ops ks kl) S=regK ks kl (evOps (clD E) ops S):=by
 rw [q02o];simp only [q00m];cases evOps (clD E) ops S<;>rfl
theorem q0rx (ks kl:List Nat):regK ks kl (some S)=some (.normal,S.keep ks kl):=_root_.id rfl
noncomputable def seqK (E:Env) (b:IC):Option (Ex×St)->Option (Ex×St)
 |some (.normal,S)=>evD E b S
 |r=>r
theorem q0zl (a b:IC):evD E (.seq a b) S=seqK E b (evD E a S):=by
 rw [q02o];simp only [q00m]
 cases evD E a S with
 |none=>rfl
 |some x=>obtain ⟨e,S'⟩:=x;cases e<;>rfl
noncomputable def condK (E:Env) (S:St) (a b:IC):V->Option (Ex×St)
 | .p (.bool t)=>if t=true then evD E a S else evD E b S
 |_=>none
theorem q0vv (c:Arg) (a b:IC):evD E (.cond c a b) S=condK E S a b (S.arg c):=by
 rw [q02o];simp only [q00m,condK]
 split<;>simp_all
def q0a9 (id:Nat):Option (Ex×St)->Option (Ex×St)
 |some (.exit i,S)=>if i=id then some (.normal,S) else some (.exit i,S)
 |r=>r
theorem q0ry (id:Nat) (c:IC):evD E (.block id c) S=q0a9 id (evD E c S):=by
 rw [q02o];simp only [q00m]
 cases evD E c S with
 |none=>rfl
 |some x=>
  obtain ⟨e,S'⟩:=x
  cases e<;>simp [q0a9]
  split<;>rfl
theorem q003 (ks kl:List Nat) (c:IC):evD E (.loop ks kl c) S=seqK E (.loop ks kl c) (evD E c (S.keep ks kl)):=by
 rw [q02o];simp only [q00m]
 cases evD E c (S.keep ks kl) with
 |none=>rfl
 |some x=>obtain ⟨e,S'⟩:=x;cases e<;>rfl
theorem q061 (b:IC):seqK E b (some (.normal,S))=evD E b S:=_root_.id rfl
theorem q0rz (b:IC) (i:Nat):seqK E b (some (.exit i,S))=some (.exit i,S):=_root_.id rfl
theorem q0vw (b:IC):seqK E b (some (.ret,S))=some (.ret,S):=_root_.id rfl
theorem q0q3 (a b:IC) (t:Bool):condK E S a b (.p (.bool t))=if t=true then evD E a S else evD E b S:=_root_.id rfl
theorem q0jd (id:Nat):q0a9 id (some (.normal,S))=some (.normal,S):=_root_.id rfl
theorem q0q4 (id:Nat):q0a9 id (some (.ret,S))=some (.ret,S):=_root_.id rfl
theorem q0ng (id i:Nat):q0a9 id (some (.exit i,S))=if i=id then some (.normal,S) else some (.exit i,S):=_root_.id rfl
def opsK (cl:ClT) (l:List GIns):Option St->Option St
 |some S=>evOps cl l S
 |none=>none
theorem q0q5 (cl:ClT) (g:GIns) (l:List GIns):evOps cl (g::l) S=opsK cl l (evG cl g S):=by
 simp only [evOps];cases evG cl g S<;>rfl
theorem q0s0 (cl:ClT) (l:List GIns):opsK cl l (some S)=evOps cl l S:=_root_.id rfl
theorem q0s1 (cl:ClT):evOps cl [] S=some S:=_root_.id rfl
theorem q0vx (cl:ClT) (d:Option Nat) (i:Ins):evG cl ⟨d,none,i⟩ S=evIns cl d i S:=_root_.id rfl
def q0e9 (cl:ClT) (d:Option Nat) (i:Ins) (S:St) (want:Bool):V->Option St
 | .p (.bool b)=>if b=want then evIns cl d i S else some (S.put d (.tup []))
 | .tup []=>some (S.put d (.tup []))
 |_=>none
theorem q0vy (cl:ClT) (d:Option Nat) (i:Ins) (t:Nat) (want:Bool):evG cl ⟨d,some (t,want),i⟩ S=q0e9 cl d i S want (getE S.env t):=by
 simp only [evG,wanted,q0e9]
 cases getE S.env t with
 |p x=>cases x<;>simp;rename_i b;cases b<;>cases want<;>simp
 |tup vs=>cases vs<;>simp
 |_=>simp
theorem q0nh (cl:ClT) (d:Option Nat) (i:Ins) (want b:Bool):q0e9 cl d i S want (.p (.bool b))=if b=want then evIns cl d i S else some (S.put d (.tup [])):=_root_.id rfl
theorem q0q6 (cl:ClT) (d:Option Nat) (i:Ins) (want:Bool):q0e9 cl d i S want (.tup [])=some (S.put d (.tup [])):=_root_.id rfl
end
theorem q085 (E:Env) (f:FuncId) (args:List V) (H:Heap):clD E (.p (.fn f)) args H=clStep.go E (evD E) f args H:=by rw [q0k0];rfl
theorem q02m (E:Env) (f:FuncId) (a c args:List V) (H:Heap):clD E (.fn (.func f) a c) args H=clD E (.p (.fn f)) (a++args++c) H:=by rw [q0k0,q085];rfl
def finK (th:Bool) (rs:List RV):Option (Ex×St)->Option CR
 |some (.normal,S)|some (.ret,S)=>q045 th rs S
 |_=>none
theorem q0vz (th:Bool) (rs:List RV) (S:St):finK th rs (some (.ret,S))=q045 th rs S:=_root_.id rfl
theorem q0ni (th:Bool) (rs:List RV) (S:St):finK th rs (some (.normal,S))=q045 th rs S:=_root_.id rfl
theorem q0fu (e:EvT) (fn:IFn) (args:List V) (H:Heap):runF e fn args H=finK fn.thaw fn.results (e fn.body (St.enter args H)):=by
 unfold runF
 cases e fn.body (St.enter args H) with
 |none=>rfl
 |some x=>obtain ⟨x,S⟩:=x;cases x<;>rfl
theorem q002 (E:Env) (f:FuncId) (body:IC) (rs:List RV) (args:List V) (H:Heap) (hp:E.prims f=none) (hf:E.fns f=some ⟨body,rs,false⟩):
  clD E (.p (.fn f)) args H=finK false rs (evD E body (St.enter args H)):=by
 rw [q085];simp only [clStep.go,hp,hf,Bool.false_and,Zh,if_false,q0fu]
theorem q0k1 (E:Env) (f:FuncId) (body:IC) (rs:List RV) (args:List V) (H:Heap) (hp:E.prims f=none) (hf:E.fns f=some ⟨body,rs,true⟩) (hh:q05c args=false):
  clD E (.p (.fn f)) args H=finK true rs (evD E body (St.enter args H)):=by
 rw [q085];simp only [clStep.go,hp,hf,hh,Bool.and_false,Zh,if_false,q0fu]
theorem q0q7 (E:Env) (f:FuncId) (body:IC) (rs:List RV) (args:List V) (H:Heap) (hp:E.prims f=none) (hf:E.fns f=some ⟨body,rs,true⟩) (hh:q05c args=true)
  (h1:finK true rs (evD E body (St.enter [.mt true] H))=some (.nils,none)) (h2:finK true rs (evD E body (St.enter [.mt false] H))=some (.nils,none)):
  clD E (.p (.fn f)) args H=some (.nils,none):=by
 rw [q085];simp only [clStep.go,hp,hf,hh,Bool.and_self,if_true,q0fu];rw [h1,h2];rfl
def finR (S:St):Option (List V)->Option CR
 |some vs=>some (outR S (oneOr vs))
 |none=>none
@[simp] theorem q0Jh (th:Bool) (rs:List RV) (S:St):q045 th rs S=finR (q0a6 th rs S) (resVs th S rs):=by unfold q045 finR;cases resVs th S rs<;>rfl
@[simp] theorem q0Ji (S:St) (vs:List V):finR S (some vs)=some (outR S (oneOr vs)):=_root_.id rfl
@[simp] theorem q0Jj (rs:List RV) (env:List (Nat×V)) (loc:List (Nat×List V)) (hp:Heap) (base:Nat) (dirty:List Nat):
  q0a6 false rs ⟨env,loc,hp,base,dirty⟩=⟨env,loc,bury hp (q02e ⟨env,loc,hp,base,dirty⟩ rs),base,dirty⟩:=_root_.id rfl
@[simp] theorem q0Jk (rs:List RV) (S:St):q0a6 true rs S=S:=_root_.id rfl
@[simp] theorem q0Nz (H:Heap):bury H [] =H:=_root_.id rfl
@[simp] theorem q0Jl (H:Heap) (i:Nat) (r:List Nat):bury H (i::r)=bury (H.set i .dead) r:=_root_.id rfl
@[simp] theorem q0Jm (v:V):oneOr [v] =v:=_root_.id rfl
@[simp] theorem q0Jn (u v:V) (r:List V):oneOr (u::v::r)= .tup (u::v::r):=_root_.id rfl
@[simp] theorem q0Jo:oneOr [] = .tup [] :=_root_.id rfl
def consO:Option V->Option (List V)->Option (List V)
 |some x,some xs=>some (x::xs)
 |_,_=>none
@[simp] theorem q0Jp (th:Bool) (S:St):resVs th S [] =some [] :=_root_.id rfl
@[simp] theorem q0Gt (th:Bool) (S:St) (r:RV) (rs:List RV):resVs th S (r::rs)=consO (resV th S r) (resVs th S rs):=by
  simp only [resVs,consO];cases resV th S r<;>cases resVs th S rs<;>rfl
@[simp] theorem q0Gu (x:V) (xs:List V):consO (some x) (some xs)=some (x::xs):=_root_.id rfl
@[simp] theorem q0O0 (th:Bool) (env:List (Nat×V)) (loc:List (Nat×List V)) (hp:Heap) (base:Nat) (dirty:List Nat) (t:Nat):
  resV th ⟨env,loc,hp,base,dirty⟩ (.tmp t)=fzR th ⟨env,loc,hp,base,dirty⟩ (getE env t):=_root_.id rfl
@[simp] theorem q0Jq (th:Bool) (env:List (Nat×V)) (loc:List (Nat×List V)) (hp:Heap) (base:Nat) (dirty:List Nat) (a n:Nat) (agg:Bool):
  resV th ⟨env,loc,hp,base,dirty⟩ (.cell a n agg)=((q011 ⟨env,loc,hp,base,dirty⟩ (getE env a) n).bind (aggOr agg)).bind (fzR th ⟨env,loc,hp,base,dirty⟩):=_root_.id rfl
@[simp] theorem q0Jr (S:St) (v:V):fzR false S v=freezeR S v:=_root_.id rfl
@[simp] theorem q0O1 (S:St) (v:V):fzR true S v=rawR v:=_root_.id rfl
@[simp] theorem q0Rb (v:V):rawR v=if v.outB=true then some v else none:=_root_.id rfl
@[simp] theorem q0Js (S:St) (x:PV):freezeR S (.p x)=some (.p x):=_root_.id rfl
@[simp] theorem q0D7 (S:St):freezeR S .nils=some (.p (.sl [])):=_root_.id rfl
@[simp] theorem q0Gv (S:St) (f:Fn) (a b:List V):freezeR S (.fn f a b)=some (.fn f a b):=_root_.id rfl
@[simp] theorem q0F0 (S:St) (i:Nat):freezeR S (.map i)=some (.map i):=_root_.id rfl
@[simp] theorem q0F1 (S:St) (i:Nat):freezeR S (.yld i)=some (.yld i):=_root_.id rfl
@[simp] theorem q0D8 (S:St):freezeR S .nil0=some (.p (.sl [])):=_root_.id rfl
@[simp] theorem q0F2 (S:St) (i o:Nat):freezeR S (.ptr i o)=some (.ptr i o):=_root_.id rfl
@[simp] theorem q0F3 (S:St) (es:List (List V)):freezeR S (.vsl es)=some (.vsl es):=_root_.id rfl
def aggO:Option (List V)->Option V
 |some cs=>some (.agg cs)
 |none=>none
@[simp] theorem q0F4 (S:St) (cs:List V):freezeR S (.agg cs)=aggO (q02z S cs):=by simp only [freezeR];cases q02z S cs<;>rfl
@[simp] theorem q0Jt (cs:List V):aggO (some cs)=some (.agg cs):=_root_.id rfl
@[simp] theorem q0F5 (S:St):q02z S [] =some [] :=_root_.id rfl
@[simp] theorem q0D9 (S:St) (v:V) (r:List V):q02z S (v::r)=consO (freeze S v) (q02z S r):=by
  simp only [q02z,consO];cases freeze S v<;>cases q02z S r<;>rfl
@[simp] theorem q0O2 (S:St) (x:PV):freeze S (.p x)=some (.p x):=_root_.id rfl
@[simp] theorem q0F6 (S:St):freeze S .nils=some (.p (.sl [])):=_root_.id rfl
@[simp] theorem q0Ju (S:St) (f:Fn) (a b:List V):freeze S (.fn f a b)=some (.fn f a b):=_root_.id rfl
@[simp] theorem q0Gw (S:St) (i:Nat):freeze S (.map i)=some (.map i):=_root_.id rfl
@[simp] theorem q0Gx (S:St) (i:Nat):freeze S (.yld i)=some (.yld i):=_root_.id rfl
@[simp] theorem q0F7 (S:St):freeze S .nil0=some (.p (.sl [])):=_root_.id rfl
@[simp] theorem q0Gy (S:St) (i o:Nat):freeze S (.ptr i o)=some (.ptr i o):=_root_.id rfl
@[simp] theorem q0Gz (S:St) (es:List (List V)):freeze S (.vsl es)=some (.vsl es):=_root_.id rfl
@[simp] theorem q0Rc (env:List (Nat×V)) (loc:List (Nat×List V)) (hp:Heap) (base:Nat) (dirty:List Nat) (v:V):
  outR ⟨env,loc,hp,base,dirty⟩ v=(v,if v.plainR=true/\dirty=[] then none else some (hp,dirty)):=_root_.id rfl
@[simp] theorem q0O3 (x:PV):V.plainR (.p x)=true:=_root_.id rfl
@[simp] theorem q0F8:V.plainR .nils=true:=_root_.id rfl
@[simp] theorem q0Jv (f:Fn) (a b:List V):V.plainR (.fn f a b)=false:=_root_.id rfl
@[simp] theorem q0H0 (i:Nat):V.plainR (.map i)=false:=_root_.id rfl
@[simp] theorem q0H1 (i:Nat):V.plainR (.yld i)=false:=_root_.id rfl
@[simp] theorem q0F9:V.plainR .nil0=false:=_root_.id rfl
@[simp] theorem q0H2 (i o:Nat):V.plainR (.ptr i o)=false:=_root_.id rfl
@[simp] theorem q0H3 (es:List (List V)):V.plainR (.vsl es)=false:=_root_.id rfl
@[simp] theorem q0H4 (cs:List V):V.plainR (.agg cs)=cs.all V.plainB:=_root_.id rfl
@[simp] theorem q0O4 (x:PV):V.plainB (.p x)=true:=_root_.id rfl
def q06z (v:V):Bool:=match v with| .agg cs=>cs.all V.plainB|v=>v.plainB
@[simp] theorem q0H5 (vs:List V):V.plainR (.tup vs)=vs.all q06z:=_root_.id rfl
@[simp] theorem q0O5 (x:PV):q06z (.p x)=true:=_root_.id rfl
@[simp] theorem q0H6 (cs:List V):q06z (.agg cs)=cs.all V.plainB:=_root_.id rfl
section
variable (cl:ClT) (S:St) (d:Option Nat) (env:List (Nat×V)) (loc:List (Nat×List V)) (hp:Heap) (base:Nat) (dirty:List Nat)
@[simp] theorem arg_t (n:Nat):St.arg ⟨env,loc,hp,base,dirty⟩ (.t n)=getE env n:=_root_.id rfl
@[simp] theorem arg_c (v:V):St.arg S (.c v)=v:=_root_.id rfl
@[simp] theorem q0Rd (base id:Nat) (d:List Nat):addD base id d=if id<base then id::d else d:=_root_.id rfl
@[simp] theorem q02c (k t:Nat) (v:V) (r:List (Nat×V)):getE ((k,v)::r) t=if k==t then v else getE r t:=_root_.id rfl
@[simp] theorem q0O6 (t:Nat):getE [] t= .undef:=_root_.id rfl
@[simp] theorem q0aa (k t:Nat) (v:List V) (r:List (Nat×List V)):getL ((k,v)::r) t=if k==t then some v else getL r t:=_root_.id rfl
@[simp] theorem q0O7 (t:Nat):getL [] t=none:=_root_.id rfl
@[simp] theorem q046 (k t:Nat) (u v:List V) (r:List (Nat×List V)):setL ((k,u)::r) t v=if k==t then (k,v)::r else (k,u)::setL r t v:=_root_.id rfl
@[simp] theorem q0O8 (t:Nat) (v:List V):setL [] t v=[(t,v)] :=_root_.id rfl
@[simp] theorem q0O9 (t:Nat) (v:V):St.put ⟨env,loc,hp,base,dirty⟩ (some t) v=⟨(t,v)::env,loc,hp,base,dirty⟩:=_root_.id rfl
@[simp] theorem q0Oa (v:V):St.put S none v=S:=_root_.id rfl
@[simp] theorem q0Jw (v:V):retS S d (some v)=some (S.put d v):=_root_.id rfl
@[simp] theorem q0Jx:retS S d none=none:=_root_.id rfl
@[simp] theorem q0Jy (v:V) (S':St):retP d (some (v,S'))=some (S'.put d v):=_root_.id rfl
@[simp] theorem q0Jz:retP d none=none:=_root_.id rfl
@[simp] theorem q0Re (ks kl:List Nat):St.keep ⟨env,loc,hp,base,dirty⟩ ks kl=⟨keepE env ks,keepL loc kl,hp,base,dirty⟩:=_root_.id rfl
@[simp] theorem q0K0:keepE env [] =[] :=_root_.id rfl
@[simp] theorem q0H7 (k:Nat) (ks:List Nat):keepE env (k::ks)=(k,getE env k)::keepE env ks:=_root_.id rfl
def q0k2 (s:Nat):Option (List V)->List (Nat×List V)->List (Nat×List V)
 |some c,r=>(s,c)::r
 |none,r=>r
@[simp] theorem q0K1:keepL loc [] =[] :=_root_.id rfl
@[simp] theorem q0H8 (k:Nat) (ks:List Nat):keepL loc (k::ks)=q0k2 k (getL loc k) (keepL loc ks):=by
  simp only [keepL,List.filterMap_cons];cases getL loc k<;>rfl
@[simp] theorem q0Fa (s:Nat) (c:List V) (r:List (Nat×List V)):q0k2 s (some c) r=(s,c)::r:=_root_.id rfl
@[simp] theorem q0Fb (s:Nat) (r:List (Nat×List V)):q0k2 s none r=r:=_root_.id rfl
@[simp] theorem q0K2 (x:Arg):evIns cl d (.mov x) S=some (S.put d (S.arg x)):=_root_.id rfl
@[simp] theorem q0H9 (s:Nat):evIns cl d (.nrow s) ⟨env,loc,hp,base,dirty⟩=some (St.put ⟨env,loc,hp++[DObj.row s []],base,dirty⟩ d (.row hp.length 0 0 0)):=_root_.id rfl
@[simp] theorem q0K3 (op:BinOp) (x y:Arg):evIns cl d (.bin op x y) S=retS S d (binV op (S.arg x) (S.arg y)):=_root_.id rfl
@[simp] theorem q0K4 (ng:Bool) (x y:Arg):evIns cl d (.eqb ng x y) S=retS S d (eqbV ng (S.arg x) (S.arg y)):=_root_.id rfl
@[simp] theorem q0K5 (k:NK) (ng:Bool) (x:Arg):evIns cl d (.eqn k ng x) S=retS S d (eqnV k ng (S.arg x)):=_root_.id rfl
@[simp] theorem q0K6 (ng:Bool) (sh:List Bool) (x y:Arg):evIns cl d (.eqa ng sh x y) S=retS S d (eqaV ng sh (S.arg x) (S.arg y)):=_root_.id rfl
@[simp] theorem q0K7 (ng:Bool) (x y:Arg):evIns cl d (.eqs ng x y) S=retS S d (eqsV ng (S.arg x) (S.arg y)):=_root_.id rfl
@[simp] theorem q0Ha (x:Arg) (lo:Option Arg) (s n:Nat):evIns cl d (.slca x lo s n) S=retS S d (slcaV s n (S.arg x) (lo.map S.arg)):=_root_.id rfl
@[simp] theorem q0K8 (x:Arg) (s:Nat) (zero:List V):evIns cl d (.clr x s zero) S=retP d (clrI S s zero (S.arg x)):=_root_.id rfl
@[simp] theorem q0Ob (op:UnOp) (x:Arg):evIns cl d (.un op x) S=retS S d (unV op (S.arg x)):=_root_.id rfl
@[simp] theorem q0Hb (k:IntKind) (x:Arg):evIns cl d (.conv k x) S=retS S d (convV k (S.arg x)):=_root_.id rfl
@[simp] theorem q0K9 (x:Arg):evIns cl d (.len x) S=retS S d (lenR (lenV (S.arg x))):=_root_.id rfl
@[simp] theorem q0Hc (m:Bool) (x y:Arg):evIns cl d (.mnmx m x y) S=retS S d (mnmxV m (S.arg x) (S.arg y)):=_root_.id rfl
@[simp] theorem q0Hd (c a b:Arg):evIns cl d (.pick c a b) S=retS S d (pickV (S.arg c) (S.arg a) (S.arg b)):=_root_.id rfl
@[simp] theorem q0Ka (x:Arg) (k:Nat):evIns cl d (.off x k) S=retS S d (q007 (S.arg x) k):=_root_.id rfl
@[simp] theorem q0Kb (x i:Arg) (s n:Nat):evIns cl d (.ixa x i s n) S=retS S d (ixaV (S.arg x) (S.arg i) s n):=_root_.id rfl
@[simp] theorem q0Kc (x i:Arg) (s:Nat):evIns cl d (.ixs x i s) ⟨env,loc,hp,base,dirty⟩=retS ⟨env,loc,hp,base,dirty⟩ d (ixsI hp (St.arg ⟨env,loc,hp,base,dirty⟩ x) (St.arg ⟨env,loc,hp,base,dirty⟩ i) s):=_root_.id rfl
@[simp] theorem q0Kd (x i:Arg) (s n:Nat) (agg:Bool):evIns cl d (.ixv x i s n agg) S=retS S d (ixvV (S.arg x) (S.arg i) s n agg):=_root_.id rfl
@[simp] theorem q0Ke (x i:Arg):evIns cl d (.ixc x i) S=retS S d (ixcV (S.arg x) (S.arg i)):=_root_.id rfl
@[simp] theorem q0He (x:Arg) (o n:Nat) (agg:Bool):evIns cl d (.fldv x o n agg) S=retS S d (fldvV (S.arg x) o n agg):=_root_.id rfl
@[simp] theorem q0Oc (x:Arg) (n:Nat) (agg:Bool):evIns cl d (.ld x n agg) S=retS S d ((q011 S (S.arg x) n).bind (aggOr agg)):=_root_.id rfl
@[simp] theorem q0Od (x v:Arg) (n:Nat):evIns cl d (.st x v n) S=retP d (stI S (S.arg x) (S.arg v) n):=_root_.id rfl
@[simp] theorem q0Oe (zero:List V) (l:Bool):evIns cl d (.al zero l) S=retP d (boxI S d zero l):=_root_.id rfl
@[simp] theorem q0Of (x:Arg) (n:Nat) (l:Bool):evIns cl d (.bx x n l) S=retP d (bxI S d (S.arg x) n l):=_root_.id rfl
@[simp] theorem q0Kf (k:Nat) (x:Arg) (n:Nat) (agg:Bool):evIns cl d (.ldl k x n agg) S=retS S d (ldlV S k n agg (S.arg x)):=_root_.id rfl
@[simp] theorem q0Kg (k:Nat) (x v:Arg) (n:Nat):evIns cl d (.stl k x v n) S=retP d (stlI S k (S.arg v) n (S.arg x)):=_root_.id rfl
@[simp] theorem q0Kh (s:Nat) (zero:List PV) (n:Arg):evIns cl d (.mkz s zero n) S=retS S d (mkzV zero (S.arg n)):=_root_.id rfl
@[simp] theorem q0Ki (k n s o:Nat) (agg:Bool):ldlV S k n agg (.lptr s o)=if s=k then (q011 S (.lptr s o) n).bind (aggOr agg) else none:=_root_.id rfl
@[simp] theorem q0Kj (k n s o:Nat) (v:V):stlI S k v n (.lptr s o)=if s=k then stI S (.lptr s o) v n else none:=_root_.id rfl
@[simp] theorem q0Og (zero:List PV) (k:IntKind) (n:Int):mkzV zero (.p (.int k n))=if 0<=n/\n.toNat<most then some (.p (.sl (List.replicate n.toNat zero))) else none:=_root_.id rfl
@[simp] theorem q0Kk (zero:List V):evIns cl d (.alp zero) S=retP d (alpI S d zero):=_root_.id rfl
@[simp] theorem q0Kl (x:Arg) (n:Nat):evIns cl d (.bxp x n) S=retP d (bxpI S d (S.arg x) n):=_root_.id rfl
@[simp] theorem q0Rf (t:Nat) (cs:List V):alpI ⟨env,loc,hp,base,dirty⟩ (some t) cs=if q012 env t=true/\(getL loc t).isSome=true/\cs≠[] then some (.lptr t 0,⟨env,setL loc t cs,hp,base,dirty⟩) else none:=_root_.id rfl
@[simp] theorem q0Rg (x:V) (n:Nat):bxpI S d x n=if x.cells.length=n/\x.cells.all V.oneB=true then alpI S d x.cells else none:=_root_.id rfl
@[simp] theorem q0Km:prepL loc [] =loc:=_root_.id rfl
@[simp] theorem q0Hf (t:Nat) (ts:List Nat):prepL loc (t::ts)=prepL (if (getL loc t).isSome=true then loc else loc++[(t,[])]) ts:=_root_.id rfl
@[simp] theorem q0Kn (zero:List V) (parts:List (Nat×Nat×Arg)):evIns cl d (.bld zero parts) S=retS S d (aggR (fillV zero (parts.map fun (o,n,x)=>(o,n,S.arg x)))):=_root_.id rfl
@[simp] theorem q0Ko (s len:Nat) (zero:List V) (parts:List (Nat×Arg)):evIns cl d (.bsl s len zero parts) S=retS S d (slR (fillS s (List.replicate len zero) (parts.map fun (i,x)=>(i,S.arg x)))):=_root_.id rfl
@[simp] theorem q0Kp (x y:Arg) (s:Nat):evIns cl d (.app x y s) S=retP d (appV S (S.arg x) (S.arg y) s):=_root_.id rfl
@[simp] theorem q0Kq (x:Arg) (lo hi:Option Arg) (s:Nat):evIns cl d (.slc x lo hi s) S=retS S d (slcI S.hp s (S.arg x) (lo.map S.arg) (hi.map S.arg)):=_root_.id rfl
@[simp] theorem q0Kr (s len:Nat) (zero:List V) (parts:List (Nat×Arg)):evIns cl d (.bsr s len zero parts) S=retP d (rowI S s (fillS s (List.replicate len zero) (parts.map fun (i,x)=>(i,S.arg x)))):=_root_.id rfl
@[simp] theorem q0Ks (s:Nat) (zero:List V) (n:Arg):evIns cl d (.mks s zero n) S=retP d (mksI S s zero (S.arg n)):=_root_.id rfl
@[simp] theorem q0Kt (x:Arg) (i:Nat):evIns cl d (.ext x i) S=retS S d (extV (S.arg x) i):=_root_.id rfl
@[simp] theorem q0Hg (f:FuncId) (args:List Arg) (p:Bool):evIns cl d (.call f args p) S=callI cl S d p (.p (.fn f)) (args.map fun a=>normA (S.arg a)):=_root_.id rfl
@[simp] theorem q0Fc (x:Arg) (args:List Arg) (p:Bool):evIns cl d (.callv x args p) S=callI cl S d p (S.arg x) (args.map fun a=>normA (S.arg a)):=_root_.id rfl
@[simp] theorem q0Ku (f:Fn) (a b:List Arg):evIns cl d (.mkf f a b) S=retS S d (mkfV f (a.map fun x=>normA (S.arg x)) (b.map fun x=>normA (S.arg x))):=_root_.id rfl
@[simp] theorem q0Kv (x:Arg):evIns cl d (.nck x) S=retS S d (nckV (S.arg x)):=_root_.id rfl
@[simp] theorem q0Oh (op:MOp) (args:List Arg):evIns cl d (.mp op args) S=callI (fun _ vs H=>mpH op vs H) S d op.pure .undef (args.map fun a=>normA (S.arg a)):=_root_.id rfl
@[simp] theorem q0Fd (f:FuncId) (args:List Arg):evIns cl d (.callz f args) S=callZ cl S d f (args.map fun a=>normA (S.arg a)):=_root_.id rfl
@[simp] theorem q0Kw (j s:Nat) (zero:List V) (n:Arg):evIns cl d (.mkh j s zero n) S=retP d (mkhI S j s zero (S.arg n)):=_root_.id rfl
@[simp] theorem q0Kx (x y:Arg) (s:Nat) (n:Arg) (c:Nat):evIns cl d (.apo x y s n c) S=if apoB S.base (S.arg x) (S.arg y) (S.arg n) c=true then retP d (appV S (S.arg x) (S.arg y) s) else none:=_root_.id rfl
@[simp] theorem q0Ky (x:Arg) (n:Nat) (agg:Bool):evIns cl d (.ldh x n agg) S=retS S d (ldhV S n agg (S.arg x)):=_root_.id rfl
@[simp] theorem q0Rh (n:Nat) (agg:Bool) (x:V):ldhV S n agg x=if x.notL=true then (q011 S x n).bind (aggOr agg) else none:=_root_.id rfl
@[simp] theorem q0Oi (f:FuncId) (vs:List V):callZ cl S d f vs=if vs.all (solN sd)=true then retS S d (zR (cl (.p (.fn f)) vs [])) else none:=_root_.id rfl
@[simp] theorem q0Oj (j s:Nat) (zero:List V) (k:IntKind) (n:Int):mkhI ⟨env,loc,hp,base,dirty⟩ j s zero (.p (.int k n))=if 0<n/\n.toNat<most/\0<j/\j<=hp.length/\base<=hp.length-j then mkhR ⟨env,loc,hp,base,dirty⟩ (hp.length-j) n.toNat s zero (rowAt hp (hp.length-j)) else none:=_root_.id rfl
@[simp] theorem q0Kz (id n s s':Nat) (zero:List V):mkhR ⟨env,loc,hp,base,dirty⟩ id n s zero (some (s',[]))=if s'=s then some (.row id n 0 n,⟨env,loc,hp.set id (.row s (List.replicate n zero)),base,dirty⟩) else none:=_root_.id rfl
@[simp] theorem q0Ok (p:Bool) (f:V) (vs:List V):callI cl ⟨env,loc,hp,base,dirty⟩ d p f vs=if vs.all V.outB=true then callR ⟨env,loc,hp,base,dirty⟩ p d (cl f vs hp) else none:=_root_.id rfl
@[simp] theorem q0Hh (p:Bool) (v:V):callR S p d (some (v,none))=if v.notL=true then some (S.put d v) else none:=_root_.id rfl
@[simp] theorem q0Hi (v:V) (H:Heap) (ds:List Nat):callR ⟨env,loc,hp,base,dirty⟩ false d (some (v,some (H,ds)))=if v.notL=true then some (St.put ⟨env,loc,H,base,ds.foldr (addD base) dirty⟩ d v) else none:=by simp only [callR];cases v.notL<;>simp
end
@[simp] theorem q0Hj (E:Env) (env:List (Nat×V)) (loc:List (Nat×List V)) (hp:Heap) (base:Nat) (dirty:List Nat) (ss:List Nat) (c:IC):evD E (.rsv ss c) ⟨env,loc,hp,base,dirty⟩=evD E c ⟨env,loc,hp++ss.map (fun s=>DObj.row s []),base,dirty⟩:=q0zh ..
@[simp] theorem q0Fe (E:Env) (env:List (Nat×V)) (loc:List (Nat×List V)) (hp:Heap) (base:Nat) (dirty:List Nat) (ts:List Nat) (c:IC):evD E (.prep ts c) ⟨env,loc,hp,base,dirty⟩=evD E c ⟨env,prepL loc ts,hp,base,dirty⟩:=q0vs ..
def escR (S:St) (t:Nat) (ts:List Nat):Option (List V)->Option St
 |some (c::cs)=>escS {S with env:=escE t S.hp.length S.env,loc:=setL S.loc t [],hp:=S.hp++[DObj.box (c::cs)]} ts
 |_=>none
@[simp] theorem q0Ol (S:St):escS S [] =some S:=_root_.id rfl
@[simp] theorem q0L0 (env:List (Nat×V)) (loc:List (Nat×List V)) (hp:Heap) (base:Nat) (dirty:List Nat) (t:Nat) (ts:List Nat):escS ⟨env,loc,hp,base,dirty⟩ (t::ts)=escR ⟨env,loc,hp,base,dirty⟩ t ts (getL loc t):=by
  simp only [escS,escR];rfl
@[simp] theorem q0L1 (env:List (Nat×V)) (loc:List (Nat×List V)) (hp:Heap) (base:Nat) (dirty:List Nat) (t:Nat) (ts:List Nat) (c:V) (cs:List V):escR ⟨env,loc,hp,base,dirty⟩ t ts (some (c::cs))=escS ⟨escE t hp.length env,setL loc t [],hp++[DObj.box (c::cs)],base,dirty⟩ ts:=_root_.id rfl
@[simp] theorem q0Om (t id:Nat):escE t id [] =[] :=_root_.id rfl
@[simp] theorem q0s2 (t id k:Nat) (v:V) (r:List (Nat×V)):escE t id ((k,v)::r)=(k,escV t id v)::escE t id r:=_root_.id rfl
@[simp] theorem q0L2 (t id s o:Nat):escV t id (.lptr s o)=if s=t then .ptr id o else .lptr s o:=_root_.id rfl
@[simp] theorem q0T4 (t id:Nat) (x:PV):escV t id (.p x)=(.p x):=_root_.id rfl
@[simp] theorem q0On (t id:Nat) (cs:List V):escV t id (.agg cs)=(.agg cs):=_root_.id rfl
@[simp] theorem q0Oo (t id:Nat) (cs:List V):escV t id (.tup cs)=(.tup cs):=_root_.id rfl
@[simp] theorem q0L3 (t id:Nat):escV t id .nils= .nils:=_root_.id rfl
@[simp] theorem q0Op (t id:Nat) (a tot off n:Nat):escV t id (.row a tot off n)=(.row a tot off n):=_root_.id rfl
@[simp] theorem q0Oq (t id:Nat) (i o n s:Nat):escV t id (.bvs i o n s)=(.bvs i o n s):=_root_.id rfl
@[simp] theorem q0Or (t id:Nat) (es:List (List V)):escV t id (.vsl es)=(.vsl es):=_root_.id rfl
@[simp] theorem q0Os (t id:Nat) (i o:Nat):escV t id (.ptr i o)=(.ptr i o):=_root_.id rfl
@[simp] theorem q0L4 (t id:Nat) (i u n o:Nat):escV t id (.rptr i u n o)=(.rptr i u n o):=_root_.id rfl
@[simp] theorem q0L5 (t id:Nat) (cs:List V) (o:Nat):escV t id (.eptr cs o)=(.eptr cs o):=_root_.id rfl
@[simp] theorem q0Ri (t id:Nat) (f:Fn) (u v:List V):escV t id (.fn f u v)=(.fn f u v):=_root_.id rfl
@[simp] theorem q0Ot (t id i:Nat):escV t id (.map i)= .map i:=_root_.id rfl
@[simp] theorem q0Ou (t id i:Nat):escV t id (.yld i)= .yld i:=_root_.id rfl
@[simp] theorem q0L6 (t id:Nat):escV t id .nil0= .nil0:=_root_.id rfl
@[simp] theorem q0Hk (t id:Nat):escV t id .undef= .undef:=_root_.id rfl
attribute [simp] q0zi q0rv q0vt q0rw q0q1 q0jc q0q2 q0nf
attribute [simp] q0rx q0s0 q0vz q0ni q0vr q0ru q0vu q0zj q0zk q0zl q0vv q0ry q061 q0rz q0vw q0q3 q0jd q0q4 q0ng q0q5 q0s1 q0vx q0vy q0nh q0q6 q02m
section
variable (k:IntKind) (a b:Int) (x y:Bool)
@[simp] theorem q0Rj:binV .add (.p (.int k a)) (.p (.int k b))=some (.p (.int k (k.wrap (a+b)))):=by simp [binV,intOp]
@[simp] theorem q0Rk:binV .sub (.p (.int k a)) (.p (.int k b))=some (.p (.int k (k.wrap (a-b)))):=by simp [binV,intOp]
@[simp] theorem q0Rl:binV .mul (.p (.int k a)) (.p (.int k b))=some (.p (.int k (k.wrap (a*b)))):=by simp [binV,intOp]
@[simp] theorem q0Rm:binV .lss (.p (.int k a)) (.p (.int k b))=some (.p (.bool (decide (a<b)))):=by simp [binV,intOp]
@[simp] theorem q0Rn:binV .leq (.p (.int k a)) (.p (.int k b))=some (.p (.bool (decide (a<=b)))):=by simp [binV,intOp]
@[simp] theorem q0Ro:binV .gtr (.p (.int k a)) (.p (.int k b))=some (.p (.bool (decide (b<a)))):=by simp [binV,intOp]
@[simp] theorem q0Rp:binV .geq (.p (.int k a)) (.p (.int k b))=some (.p (.bool (decide (b<=a)))):=by simp [binV,intOp]
@[simp] theorem q0Rq:binV .eql (.p (.int k a)) (.p (.int k b))=some (.p (.bool (decide (a=b)))):=by simp [binV,intOp]
@[simp] theorem q0Rr:binV .neq (.p (.int k a)) (.p (.int k b))=some (.p (.bool (!decide (a=b)))):=by simp [binV,intOp]
@[simp] theorem q0Rs (h:b≠0):binV .quo (.p (.int k a)) (.p (.int k b))=some (.p (.int k (k.wrap (a.tdiv b)))):=by simp [binV,intOp,h]
@[simp] theorem q0Rt (h:b≠0):binV .rem (.p (.int k a)) (.p (.int k b))=some (.p (.int k (a.tmod b))):=by simp [binV,intOp,h]
@[simp] theorem q0Ru (ng:Bool):eqbV ng (.p (.bool x)) (.p (.bool y))=some (.p (.bool ((x==y) !=ng))):=_root_.id rfl
@[simp] theorem q0L7 (ng:Bool):eqnV .ptr ng (.p .nilp)=some (.p (.bool (true !=ng))):=_root_.id rfl
@[simp] theorem q0L8 (ng:Bool):eqnV .fn ng (.p .nilf)=some (.p (.bool (true !=ng))):=_root_.id rfl
@[simp] theorem q0Ov (ng:Bool) (i o:Nat):eqnV .ptr ng (.ptr i o)=some (.p (.bool (false !=ng))):=_root_.id rfl
@[simp] theorem q0L9 (ng:Bool) (i tt m c:Nat):eqnV .ptr ng (.rptr i tt m c)=some (.p (.bool (false !=ng))):=_root_.id rfl
@[simp] theorem q0Ow (i c:Nat):nckV (.ptr i c)=some (.ptr i c):=_root_.id rfl
@[simp] theorem q0La (i tt m c:Nat):nckV (.rptr i tt m c)=some (.rptr i tt m c):=_root_.id rfl
@[simp] theorem q0Lb (cs:List V) (c:Nat):nckV (.eptr cs c)=some (.eptr cs c):=_root_.id rfl
@[simp] theorem q0Lc (s c:Nat):nckV (.lptr s c)=some (.lptr s c):=_root_.id rfl
@[simp] theorem q0Ld (ng:Bool) (cs:List V) (o:Nat):eqnV .ptr ng (.eptr cs o)=some (.p (.bool (false !=ng))):=_root_.id rfl
@[simp] theorem q0Ox (ng:Bool) (f:FuncId):eqnV .fn ng (.p (.fn f))=some (.p (.bool (false !=ng))):=_root_.id rfl
@[simp] theorem q0Rv (ng:Bool) (f:Fn) (u v:List V):eqnV .fn ng (.fn f u v)=some (.p (.bool (false !=ng))):=_root_.id rfl
@[simp] theorem q0Oy (ng:Bool) (i:Nat):eqnV .fn ng (.yld i)=some (.p (.bool (false !=ng))):=_root_.id rfl
@[simp] theorem q0Le (ng:Bool):eqnV .sl ng .nil0=some (.p (.bool (true !=ng))):=_root_.id rfl
@[simp] theorem q0Lf (ng:Bool):eqnV .map ng (.p .nilm)=some (.p (.bool (true !=ng))):=_root_.id rfl
@[simp] theorem q0Oz (ng:Bool) (i:Nat):eqnV .map ng (.map i)=some (.p (.bool (false !=ng))):=_root_.id rfl
@[simp] theorem q0Rw (ng:Bool) (e:List PV) (es:List (List PV)):eqnV .sl ng (.p (.sl (e::es)))=some (.p (.bool (false !=ng))):=_root_.id rfl
@[simp] theorem q0P0 (ng:Bool) (i a b n:Nat):eqnV .sl ng (.row i a b (n+1))=some (.p (.bool (false !=ng))):=_root_.id rfl
@[simp] theorem q0P1 (ng:Bool) (e:List V) (es:List (List V)):eqnV .sl ng (.vsl (e::es))=some (.p (.bool (false !=ng))):=_root_.id rfl
@[simp] theorem q0Rx (ng b:Bool):eqnV .sl ng (.mt b)=some (.p (.bool (b !=ng))):=_root_.id rfl
def eqaK (ng:Bool):Option Bool->Option V
 |some b=>some (.p (.bool (b !=ng)))
 |none=>none
@[simp] theorem q0P2 (ng:Bool) (sh:List Bool) (xs ys:List V):eqaV ng sh (.agg xs) (.agg ys)=eqaK ng (q00h sh xs ys):=by simp only [eqaV,eqaK];cases q00h sh xs ys<;>rfl
@[simp] theorem q0P3 (ng:Bool) (a b:ByteArray):eqsV ng (.p (.str a)) (.p (.str b))=some (.p (.bool ((a==b) !=ng))):=_root_.id rfl
@[simp] theorem q0Lg (ng b:Bool):eqaK ng (some b)=some (.p (.bool (b !=ng))):=_root_.id rfl
@[simp] theorem q0Ff:q00h [] [] [] =some true:=_root_.id rfl
def andO:Option Bool->Option Bool->Option Bool
 |some a,some b=>some (a&&b)
 |_,_=>none
@[simp] theorem q00p (s:Bool) (sh:List Bool) (u v:V) (us vs:List V):q00h (s::sh) (u::us) (v::vs)=andO (q02l s u v) (q00h sh us vs):=by
  simp only [q00h,andO];cases q02l s u v<;>cases q00h sh us vs<;>rfl
@[simp] theorem q0Lh (p q:Bool):andO (some p) (some q)=some (p&&q):=_root_.id rfl
@[simp] theorem q0Hl:q02l true (.p (.int k a)) (.p (.int k b))=some (decide (a=b)):=by simp [q02l]
@[simp] theorem q0Fg:q02l false (.p (.bool x)) (.p (.bool y))=some (x==y):=_root_.id rfl
@[simp] theorem q0T5:unV .not (.p (.bool x))=some (.p (.bool (!x))):=_root_.id rfl
@[simp] theorem q0T6:unV .neg (.p (.int k a))=some (.p (.int k (k.wrap (0-a)))):=_root_.id rfl
@[simp] theorem q0Li (k':IntKind):convV k (.p (.int k' a))=some (.p (.int k (k.wrap a))):=_root_.id rfl
@[simp] theorem q0Lj (n:Nat):lenR (some n)=some (.p (.int .i64 n)):=_root_.id rfl
@[simp] theorem q0Ry (es:List (List PV)):lenV (.p (.sl es))=some es.length:=_root_.id rfl
@[simp] theorem q0P4 (es:List (List V)):lenV (.vsl es)=some es.length:=_root_.id rfl
@[simp] theorem q0Lk:lenV .nil0=some 0:=_root_.id rfl
@[simp] theorem q0Ll:lenV .nils=some 0:=_root_.id rfl
@[simp] theorem q0P5 (i o n s:Nat):lenV (.bvs i o n s)=some n:=_root_.id rfl
@[simp] theorem q0P6 (id tot off n:Nat):lenV (.row id tot off n)=some n:=_root_.id rfl
def mapsK (x:Option (List (V×V))) (f:List (V×V)->Option V):Option V:=match x with|some es=>f es|none=>none
@[simp] theorem q0Hm (es:List (V×V)) (f:List (V×V)->Option V):mapsK (some es) f=f es:=_root_.id rfl
@[simp] theorem q0Lm (H:Heap):mapEs H (.p .nilm)=some [] :=_root_.id rfl
@[simp] theorem q0Ln (H:Heap) (id:Nat):mapEs H (.map id)=mapAt H id:=_root_.id rfl
@[simp] theorem q0Rz (H:Heap) (x k:V) (ag:Option (List Bool)) (zero:V) (ok:Bool):lkmV H x k ag zero ok=if keyB ag k=true then mapsK (mapEs H x) fun es=>lkmK zero ok (findM ag k es 0) else none:=by
  unfold lkmV mapsK;cases mapEs H x<;>rfl
@[simp] theorem q0P7 (H:Heap) (x:V):lenmV H x=mapsK (mapEs H x) fun es=>some (.p (.int .i64 es.length)):=by
  unfold lenmV mapsK;cases mapEs H x<;>rfl
@[simp] theorem q0P8 (zero:V) (ok:Bool) (i:Nat) (v:V):lkmK zero ok (some (some (i,v)))=some (if ok=true then .tup [v,.p (.bool true)] else v):=_root_.id rfl
@[simp] theorem q0Lo (zero:V) (ok:Bool):lkmK zero ok (some none)=some (if ok=true then .tup [zero,.p (.bool false)] else zero):=_root_.id rfl
@[simp] theorem q0P9 (m:Bool):mnmxV m (.p (.int k a)) (.p (.int k b))=some (.p (.int k (if m=true then max a b else min a b))):=by simp [mnmxV]
@[simp] theorem q0Hn (t:Bool) (u v:V):pickV (.p (.bool t)) u v=some (if t=true then u else v):=_root_.id rfl
@[simp] theorem q0Fh (s o n:Nat):q007 (.lptr s o) n=some (.lptr s (o+n)):=_root_.id rfl
@[simp] theorem q0Ho (s o n:Nat):q007 (.ptr s o) n=some (.ptr s (o+n)):=_root_.id rfl
@[simp] theorem q0Fi (cs:List V) (o n:Nat):q007 (.eptr cs o) n=some (.eptr cs (o+n)):=_root_.id rfl
@[simp] theorem q0Fj (id tot i j n:Nat):q007 (.rptr id tot i j) n=some (.rptr id tot i (j+n)):=_root_.id rfl
@[simp] theorem q0Hp (cs:List V):aggOr true cs=some (.agg cs):=_root_.id rfl
@[simp] theorem q0Lp (v:V):aggOr false [v] =if v.notL=true then some v else none:=_root_.id rfl
@[simp] theorem q0Lq (cs:List V):aggR (some cs)=some (.agg cs):=_root_.id rfl
@[simp] theorem q0Pa (vs:List V) (i:Nat):extV (.tup vs) i=(vs[i]?).bind fun v=>if v.notL=true then some v else none:=_root_.id rfl
@[simp] theorem q0Lr (cs:List V):V.cells (.agg cs)=cs:=_root_.id rfl
@[simp] theorem q0S0 (x:PV):V.cells (.p x)=[.p x] :=_root_.id rfl
@[simp] theorem q0Hq:V.cells .nils=[.nils] :=_root_.id rfl
@[simp] theorem q0Ls (id tot off n:Nat):V.cells (.row id tot off n)=[.row id tot off n] :=_root_.id rfl
@[simp] theorem q0Lt (es:List (List V)):V.cells (.vsl es)=[.vsl es] :=_root_.id rfl
@[simp] theorem q0Lu (i o n s:Nat):V.cells (.bvs i o n s)=[.bvs i o n s] :=_root_.id rfl
@[simp] theorem q0Lv (i o:Nat):V.cells (.ptr i o)=[.ptr i o] :=_root_.id rfl
@[simp] theorem q0Hr (i t n o:Nat):V.cells (.rptr i t n o)=[.rptr i t n o] :=_root_.id rfl
@[simp] theorem q0Hs (cs:List V) (o:Nat):V.cells (.eptr cs o)=[.eptr cs o] :=_root_.id rfl
@[simp] theorem q0Pb (f:Fn) (u v:List V):V.cells (.fn f u v)=[.fn f u v] :=_root_.id rfl
@[simp] theorem q0Lw (i:Nat):V.cells (.map i)=[.map i] :=_root_.id rfl
@[simp] theorem q0Lx (i:Nat):V.cells (.yld i)=[.yld i] :=_root_.id rfl
@[simp] theorem q0Ht:V.cells .nil0=[.nil0] :=_root_.id rfl
@[simp] theorem q0T7 (x:PV):V.oneB (.p x)=true:=_root_.id rfl
@[simp] theorem q0Ly:V.oneB .nils=true:=_root_.id rfl
@[simp] theorem q0Pc (id tot off n:Nat):V.oneB (.row id tot off n)=true:=_root_.id rfl
@[simp] theorem q0Pd (es:List (List V)):V.oneB (.vsl es)=true:=_root_.id rfl
@[simp] theorem q0Pe (i o n s:Nat):V.oneB (.bvs i o n s)=true:=_root_.id rfl
@[simp] theorem q0Pf (i o:Nat):V.oneB (.ptr i o)=true:=_root_.id rfl
@[simp] theorem q0Lz (i t n o:Nat):V.oneB (.rptr i t n o)=true:=_root_.id rfl
@[simp] theorem q0M0 (cs:List V) (o:Nat):V.oneB (.eptr cs o)=true:=_root_.id rfl
@[simp] theorem q0S1 (f:Fn) (u v:List V):V.oneB (.fn f u v)=true:=_root_.id rfl
@[simp] theorem q0Pg (i:Nat):V.oneB (.map i)=true:=_root_.id rfl
@[simp] theorem q0Ph (i:Nat):V.oneB (.yld i)=true:=_root_.id rfl
@[simp] theorem q0M1:V.oneB .nil0=true:=_root_.id rfl
@[simp] theorem q0T8 (x:PV):V.outB (.p x)=true:=_root_.id rfl
@[simp] theorem q0Pi (cs:List V):V.outB (.agg cs)=true:=_root_.id rfl
@[simp] theorem q0Pj (id tot off n:Nat):V.outB (.row id tot off n)=true:=_root_.id rfl
@[simp] theorem q0Pk (es:List (List V)):V.outB (.vsl es)=true:=_root_.id rfl
@[simp] theorem q0Pl (i o n s:Nat):V.outB (.bvs i o n s)=true:=_root_.id rfl
@[simp] theorem q0Pm (i o:Nat):V.outB (.ptr i o)=true:=_root_.id rfl
@[simp] theorem q0M2 (i t n o:Nat):V.outB (.rptr i t n o)=true:=_root_.id rfl
@[simp] theorem q0M3 (cs:List V) (o:Nat):V.outB (.eptr cs o)=true:=_root_.id rfl
@[simp] theorem q0S2 (f:Fn) (u v:List V):V.outB (.fn f u v)=true:=_root_.id rfl
@[simp] theorem q0Pn (i:Nat):V.outB (.map i)=true:=_root_.id rfl
@[simp] theorem q0Po (i:Nat):V.outB (.yld i)=true:=_root_.id rfl
@[simp] theorem q0M4:V.outB .nil0=true:=_root_.id rfl
@[simp] theorem q0S3 (x:PV):normA (.p x)= .p x:=_root_.id rfl
@[simp] theorem q0Hu:normA .nils= .p (.sl []):=_root_.id rfl
@[simp] theorem q0M5 (cs:List V):normA (.agg cs)= .agg (cs.map normC):=_root_.id rfl
@[simp] theorem q0S4 (x:PV):normC (.p x)= .p x:=_root_.id rfl
@[simp] theorem q0Hv:normC .nils= .p (.sl []):=_root_.id rfl
@[simp] theorem q0M6 (id tot off n:Nat):normC (.row id tot off n)= .row id tot off n:=_root_.id rfl
@[simp] theorem q0M7 (es:List (List V)):normC (.vsl es)= .vsl es:=_root_.id rfl
@[simp] theorem q0M8 (i o n s:Nat):normC (.bvs i o n s)= .bvs i o n s:=_root_.id rfl
@[simp] theorem q0M9 (i o:Nat):normC (.ptr i o)= .ptr i o:=_root_.id rfl
@[simp] theorem q0Hw (i t n o:Nat):normC (.rptr i t n o)= .rptr i t n o:=_root_.id rfl
@[simp] theorem q0Hx (cs:List V) (o:Nat):normC (.eptr cs o)= .eptr cs o:=_root_.id rfl
@[simp] theorem q0Pp (f:Fn) (u v:List V):normC (.fn f u v)= .fn f u v:=_root_.id rfl
@[simp] theorem q0Ma (i:Nat):normC (.map i)= .map i:=_root_.id rfl
@[simp] theorem q0Mb (i:Nat):normC (.yld i)= .yld i:=_root_.id rfl
@[simp] theorem q0Hy:normC .nil0= .nil0:=_root_.id rfl
@[simp] theorem q0Mc (id tot off n:Nat):normA (.row id tot off n)= .row id tot off n:=_root_.id rfl
@[simp] theorem q0Md (es:List (List V)):normA (.vsl es)= .vsl es:=_root_.id rfl
@[simp] theorem q0Me (i o n s:Nat):normA (.bvs i o n s)= .bvs i o n s:=_root_.id rfl
@[simp] theorem q0Mf (i o:Nat):normA (.ptr i o)= .ptr i o:=_root_.id rfl
@[simp] theorem q0Hz (i t n o:Nat):normA (.rptr i t n o)= .rptr i t n o:=_root_.id rfl
@[simp] theorem q0I0 (cs:List V) (o:Nat):normA (.eptr cs o)= .eptr cs o:=_root_.id rfl
@[simp] theorem q0Pq (f:Fn) (u v:List V):normA (.fn f u v)= .fn f u v:=_root_.id rfl
@[simp] theorem q0Mg (i:Nat):normA (.map i)= .map i:=_root_.id rfl
@[simp] theorem q0Mh (i:Nat):normA (.yld i)= .yld i:=_root_.id rfl
@[simp] theorem q0I1:normA .nil0= .nil0:=_root_.id rfl
@[simp] theorem q0T9 (x:PV):V.notL (.p x)=true:=_root_.id rfl
@[simp] theorem q0Pr (cs:List V):V.notL (.agg cs)=true:=_root_.id rfl
@[simp] theorem q0Ps (cs:List V):V.notL (.tup cs)=true:=_root_.id rfl
@[simp] theorem q0Mi:V.notL .nils=true:=_root_.id rfl
@[simp] theorem q0Pt (id tot off n:Nat):V.notL (.row id tot off n)=true:=_root_.id rfl
@[simp] theorem q0Pu (i o n s:Nat):V.notL (.bvs i o n s)=true:=_root_.id rfl
@[simp] theorem q0Pv (es:List (List V)):V.notL (.vsl es)=true:=_root_.id rfl
@[simp] theorem q0Pw (i o:Nat):V.notL (.ptr i o)=true:=_root_.id rfl
@[simp] theorem q0Mj (i t n o:Nat):V.notL (.rptr i t n o)=true:=_root_.id rfl
@[simp] theorem q0Mk (cs:List V) (o:Nat):V.notL (.eptr cs o)=true:=_root_.id rfl
@[simp] theorem q0S5 (f:Fn) (u v:List V):V.notL (.fn f u v)=true:=_root_.id rfl
@[simp] theorem q0Px (i:Nat):V.notL (.map i)=true:=_root_.id rfl
@[simp] theorem q0Py (i:Nat):V.notL (.yld i)=true:=_root_.id rfl
@[simp] theorem q0Ml:V.notL .nil0=true:=_root_.id rfl
@[simp] theorem q0Fk (s:Nat):q012 [] s=true:=_root_.id rfl
def q00s (v:V) (s:Nat):Bool:=match v with| .lptr s' _=> !(s'==s)|_=>true
@[simp] theorem q01z (t s:Nat) (v:V) (r:List (Nat×V)):q012 ((t,v)::r) s=(q00s v s&&q012 r s):=by
  simp only [q012,List.all_cons,q00s];cases v<;>rfl
@[simp] theorem q0S6 (x:PV) (s:Nat):q00s (.p x) s=true:=_root_.id rfl
@[simp] theorem q0Mm (cs:List V) (s:Nat):q00s (.agg cs) s=true:=_root_.id rfl
@[simp] theorem q0Mn (cs:List V) (s:Nat):q00s (.tup cs) s=true:=_root_.id rfl
@[simp] theorem q0I2 (s:Nat):q00s .nils s=true:=_root_.id rfl
@[simp] theorem q0Mo (id tot off n:Nat) (s:Nat):q00s (.row id tot off n) s=true:=_root_.id rfl
@[simp] theorem q0Mp (es:List (List V)) (s:Nat):q00s (.vsl es) s=true:=_root_.id rfl
@[simp] theorem q0Mq (i o n z:Nat) (s:Nat):q00s (.bvs i o n z) s=true:=_root_.id rfl
@[simp] theorem q0Mr (i o:Nat) (s:Nat):q00s (.ptr i o) s=true:=_root_.id rfl
@[simp] theorem q0I3 (i t n o:Nat) (s:Nat):q00s (.rptr i t n o) s=true:=_root_.id rfl
@[simp] theorem q0I4 (cs:List V) (o s:Nat):q00s (.eptr cs o) s=true:=_root_.id rfl
@[simp] theorem q0I5 (s' o s:Nat):q00s (.lptr s' o) s= !(s'==s):=_root_.id rfl
@[simp] theorem q0Pz (f:Fn) (u v:List V) (s:Nat):q00s (.fn f u v) s=true:=_root_.id rfl
@[simp] theorem q0Ms (i s:Nat):q00s (.map i) s=true:=_root_.id rfl
@[simp] theorem q0Mt (i s:Nat):q00s (.yld i) s=true:=_root_.id rfl
@[simp] theorem q0I6 (s:Nat):q00s .nil0 s=true:=_root_.id rfl
@[simp] theorem q0Fl (s:Nat):q00s .undef s=true:=_root_.id rfl
end
section
variable (env:List (Nat×V)) (loc:List (Nat×List V)) (hp:Heap) (base:Nat) (dirty:List Nat)
@[simp] theorem q0Q0 (t:Nat) (cs:List V):boxI ⟨env,loc,hp,base,dirty⟩ (some t) cs true=if q012 env t=true then some (.lptr t 0,⟨env,setL loc t cs,hp,base,dirty⟩) else none:=_root_.id rfl
@[simp] theorem q0S7 (t:Nat) (cs:List V):boxI ⟨env,loc,hp,base,dirty⟩ (some t) cs false=some (.ptr hp.length 0,⟨env,loc,hp++[DObj.box cs],base,dirty⟩):=_root_.id rfl
@[simp] theorem q0Ta (S:St) (d:Option Nat) (x:V) (n:Nat) (l:Bool):bxI S d x n l=if x.cells.length=n/\x.cells.all V.oneB=true then boxI S d x.cells l else none:=_root_.id rfl
@[simp] theorem q0S8 (s o n:Nat):q011 ⟨env,loc,hp,base,dirty⟩ (.lptr s o) n=(getL loc s).bind fun cs=>if cs.isEmpty=true then none else subs cs o n:=_root_.id rfl
@[simp] theorem q0Da (id o n:Nat):q011 ⟨env,loc,hp,base,dirty⟩ (.ptr id o) n=(boxAt hp id).bind fun cs=>subs cs o n:=_root_.id rfl
@[simp] theorem q0S9 (S:St) (cs:List V) (o n:Nat):q011 S (.eptr cs o) n=subs cs o n:=_root_.id rfl
@[simp] theorem q0Tb (S:St) (x v:V) (n:Nat):stI S x v n=if v.cells.length=n/\v.cells.all V.oneB=true then (q00l S x v.cells).map fun S'=>(.tup [],S') else none:=_root_.id rfl
@[simp] theorem q0Sa (s o:Nat) (vs:List V):q00l ⟨env,loc,hp,base,dirty⟩ (.lptr s o) vs=(getL loc s).bind fun cs=>if cs.isEmpty=true then none else (q001 cs o vs).map fun cs'=>⟨env,setL loc s cs',hp,base,dirty⟩:=_root_.id rfl
@[simp] theorem q0Tc (id o:Nat) (vs:List V):q00l ⟨env,loc,hp,base,dirty⟩ (.ptr id o) vs=(boxAt hp id).bind fun cs=>(q001 cs o vs).map fun cs'=>⟨env,loc,hp.set id (.box cs'),base,addD base id dirty⟩:=_root_.id rfl
end
@[simp] theorem q0Q1:MOp.pure .mkm=false:=_root_.id rfl
@[simp] theorem q0Q2:MOp.pure .len=true:=_root_.id rfl
@[simp] theorem q0Sb (ag:Option (List Bool)) (zero:V) (ok:Bool):MOp.pure (.lk ag zero ok)=true:=_root_.id rfl
@[simp] theorem q0Sc (ag:Option (List Bool)) (n:Nat):MOp.pure (.st ag n)=false:=_root_.id rfl
@[simp] theorem q0Sd (H:Heap):mpH .mkm [] H=some (.map H.length,some (H++[DObj.map []],[])):=_root_.id rfl
@[simp] theorem q0Se (H:Heap) (x:V):mpH .len [x] H=q06v (lenmV H x):=_root_.id rfl
@[simp] theorem q0Td (H:Heap) (x k:V) (ag:Option (List Bool)) (zero:V) (ok:Bool):mpH (.lk ag zero ok) [x,k] H=q06v (lkmV H x k ag zero ok):=_root_.id rfl
@[simp] theorem q0Te (H:Heap) (x k v:V) (ag:Option (List Bool)) (n:Nat):mpH (.st ag n) [x,k,v] H=stmH H k v ag n x:=_root_.id rfl
@[simp] theorem q0Fm (v:V):q06v (some v)=some (v,none):=_root_.id rfl
@[simp] theorem q0Q3 (H:Heap) (k v:V) (ag:Option (List Bool)) (n id:Nat):stmH H k v ag n (.map id)=if v.cells.length=n/\v.cells.all V.oneB=true/\keyB ag k=true then stmE H id k v ag (mapAt H id) else none:=_root_.id rfl
@[simp] theorem q0Mu (H:Heap) (id:Nat) (k v:V) (ag:Option (List Bool)) (es:List (V×V)):stmE H id k v ag (some es)=stmR H id k v es (findM ag k es 0):=_root_.id rfl
@[simp] theorem q0Mv (H:Heap) (id:Nat) (k v:V) (es:List (V×V)) (r:Option (Nat×V)):stmR H id k v es (some r)=some (.tup [],some (H.set id (.map (setM es k v r)),[id])):=_root_.id rfl
@[simp] theorem q0Q4 (es:List (V×V)) (k v:V) (i:Nat) (u:V):setM es k v (some (i,u))=es.set i (k,v):=_root_.id rfl
@[simp] theorem q0Mw (es:List (V×V)) (k v:V):setM es k v none=es++[(k,v)] :=_root_.id rfl
@[simp] theorem q0Q5 (k:IntKind) (n:Int):keyB none (.p (.int k n))=true:=_root_.id rfl
@[simp] theorem q0Q6 (sh:List Bool) (cs:List V):keyB (some sh) (.agg cs)=(cs.length==sh.length&&cs.all V.oneB):=_root_.id rfl
@[simp] theorem q0I7 (S:St) (d:Option Nat) (v:V):callR S true d (some (v,none))=if v.notL=true then some (S.put d v) else none:=_root_.id rfl
section
variable (env:List (Nat×V)) (loc:List (Nat×List V)) (hp:Heap) (base:Nat) (dirty:List Nat)
theorem q0s3 (E:Env) (S:St) (x:Arg) (ps:List Nat) (a b:IC):evD E (.rangeFunc x ps a b) S=q03b (clD E) S ps a b (S.arg x):=by rw [q02o];rfl
@[simp] theorem q0k3 (E:Env) (x:Arg) (ps:List Nat) (a b:IC):evD E (.rangeFunc x ps a b) ⟨env,loc,hp,base,dirty⟩=q03b (clD E) ⟨env,loc,hp,base,dirty⟩ ps a b (St.arg ⟨env,loc,hp,base,dirty⟩ x):=q0s3 ..
@[simp] theorem q0q8 (cl:ClT) (ps:List Nat) (a b:IC) (f:FuncId):q03b cl ⟨env,loc,hp,base,dirty⟩ ps a b (.p (.fn f))=q03a ⟨env,loc,hp,base,dirty⟩ (cl (.p (.fn f)) [.yld hp.length] (hp++[DObj.loop .ready (outE env) ps a b])):=_root_.id rfl
@[simp] theorem q0s4 (cl:ClT) (ps:List Nat) (a b:IC) (f:FuncId) (u v:List V):q03b cl ⟨env,loc,hp,base,dirty⟩ ps a b (.fn (.func f) u v)=q03a ⟨env,loc,hp,base,dirty⟩ (cl (.fn (.func f) u v) [.yld hp.length] (hp++[DObj.loop .ready (outE env) ps a b])):=_root_.id rfl
@[simp] theorem q0k4 (v:V) (H:Heap) (ds:List Nat):q03a ⟨env,loc,hp,base,dirty⟩ (some (v,some (H,ds)))=q0a7 ⟨env,loc,hp,base,dirty⟩ H ds H[hp.length]? :=_root_.id rfl
@[simp] theorem q0Db (v:V):q03a ⟨env,loc,hp,base,dirty⟩ (some (v,none))=some (.normal,⟨env,loc,hp++[DObj.dead],base,dirty⟩):=_root_.id rfl
@[simp] theorem q0Dc (H:Heap) (ds:List Nat) (e:List (Nat×V)) (ps:List Nat) (a b:IC):q0a7 ⟨env,loc,hp,base,dirty⟩ H ds (some (.loop .ready e ps a b))=some (.normal,⟨env,loc,H.set hp.length .dead,base,ds.foldr (addD base) dirty⟩):=_root_.id rfl
@[simp] theorem q0Fn (H:Heap) (ds:List Nat) (x:Ex) (e:List (Nat×V)) (ps:List Nat) (a b:IC):q0a7 ⟨env,loc,hp,base,dirty⟩ H ds (some (.loop (.done x) e ps a b))=some (x,⟨env,loc,H.set hp.length .dead,base,ds.foldr (addD base) dirty⟩):=_root_.id rfl
@[simp] theorem q0Q7:outE [] =[] :=_root_.id rfl
@[simp] theorem q0Mx (t:Nat) (v:V) (r:List (Nat×V)):outE ((t,v)::r)=(t,outL v)::outE r:=_root_.id rfl
@[simp] theorem q0My (s o:Nat):outL (.lptr s o)= .undef:=_root_.id rfl
@[simp] theorem q0Tf (x:PV):outL (.p x)= .p x:=_root_.id rfl
@[simp] theorem q0Q8 (cs:List V):outL (.agg cs)= .agg cs:=_root_.id rfl
@[simp] theorem q0Q9 (cs:List V):outL (.tup cs)= .tup cs:=_root_.id rfl
@[simp] theorem q0Mz:outL .nils= .nils:=_root_.id rfl
@[simp] theorem q0Qa (id tot off n:Nat):outL (.row id tot off n)= .row id tot off n:=_root_.id rfl
@[simp] theorem q0Qb (i o n s:Nat):outL (.bvs i o n s)= .bvs i o n s:=_root_.id rfl
@[simp] theorem q0Qc (es:List (List V)):outL (.vsl es)= .vsl es:=_root_.id rfl
@[simp] theorem q0Qd (i o:Nat):outL (.ptr i o)= .ptr i o:=_root_.id rfl
@[simp] theorem q0N0 (i u n o:Nat):outL (.rptr i u n o)= .rptr i u n o:=_root_.id rfl
@[simp] theorem q0N1 (cs:List V) (o:Nat):outL (.eptr cs o)= .eptr cs o:=_root_.id rfl
@[simp] theorem q0Sf (f:Fn) (u v:List V):outL (.fn f u v)= .fn f u v:=_root_.id rfl
@[simp] theorem q0I8:outL .undef= .undef:=_root_.id rfl
@[simp] theorem q0Qe (i:Nat):outL (.yld i)= .yld i:=_root_.id rfl
@[simp] theorem q0N2:outL .nil0= .nil0:=_root_.id rfl
@[simp] theorem q0Qf (i:Nat):outL (.map i)= .map i:=_root_.id rfl
@[simp] theorem q0N3 (e:List (Nat×V)) (vs:List V):bindE e [] vs=e:=_root_.id rfl
@[simp] theorem q0I9 (e:List (Nat×V)) (p:Nat) (ps:List Nat) (v:V) (vs:List V):bindE e (p::ps) (v::vs)=bindE ((p,v)::e) ps vs:=_root_.id rfl
theorem q0zm (E:Env) (id:Nat) (args:List V) (H:Heap):clD E (.yld id) args H=q06w (evD E) id args H H[id]? :=by rw [q0k0];rfl
@[simp] theorem q0k5 (ev:EvT) (id:Nat) (args:List V) (H:Heap) (e:List (Nat×V)) (ps:List Nat) (a b:IC):q06w ev id args H (some (.loop .ready e ps a b))=if args.length=ps.length then q084 ev id b (ev a ⟨bindE e ps args,[],H,H.length,[]⟩) else none:=_root_.id rfl
@[simp] theorem q0je (ev:EvT) (id:Nat) (b:IC):q084 ev id b (some (.normal,⟨env,loc,hp,base,dirty⟩))=q03c ev id b ⟨env,loc,hp,base,dirty⟩ hp[id]? :=_root_.id rfl
@[simp] theorem q0k6 (ev:EvT) (id:Nat) (b:IC) (e:List (Nat×V)) (ps:List Nat) (a b':IC):q03c ev id b ⟨env,loc,hp,base,dirty⟩ (some (.loop .ready e ps a b'))=q0a8 id (ev b ⟨env,loc,hp.set id (.loop .busy e ps a b'),base,addD base id dirty⟩):=_root_.id rfl
@[simp] theorem q0k7 (id:Nat) (x:Ex):q0a8 id (some (x,⟨env,loc,hp,base,dirty⟩))=q0e7 id x hp dirty hp[id]? :=_root_.id rfl
@[simp] theorem q0nj (id:Nat) (x:Ex) (ds:List Nat) (e:List (Nat×V)) (ps:List Nat) (a b:IC):q0e7 id x hp ds (some (.loop .busy e ps a b))=some (.p (.bool (decide (x= .normal))),some (hp.set id (.loop (if x= .normal then .ready else .done x) e ps a b),ds)):=_root_.id rfl
end
def rd {α:Type} [Inhabited α] (l:List α) (i:Int):α:=l.getD i.toNat default
theorem q026 {α:Type} [Inhabited α] (l:List α) (i:Int) (h0:0<=i) (h1:i<l.length):l[i.toNat]? =some (rd l i):=by
 unfold rd
 rw [ZB]
 have:i.toNat<l.length:=by omega
 simp [this]
theorem q0bw {α:Type} [Inhabited α] (H:Heap) (enc:α->List PV) (L:List α) (k:IntKind) (i:Int) (s:Nat) (hs: ∀x,(enc x).length=s)
  (h0:0<=i) (h1:i<L.length):ixsI H (.p (.sl (L.map enc))) (.p (.int k i)) s=some (.eptr ((enc (rd L i)).map .p) 0):=by
 simp only [ixsI,ixsV,if_pos h0,List.getElem?_map,q026 L i h0 h1,ZH,Ze,hs,if_true]
theorem q01b (n:Int) (h0: -9223372036854775808<=n) (h1:n<=9223372036854775807):IntKind.wrap .i64 n=n:=IntWalk.i64_in n ⟨h0,h1⟩
def sayP (vs:List V) (_:Heap):Option CR:=
 match vs with
 |[]=>some (.p (.bool true),none)
 |_=>none
theorem zEa:(∀(args:List V) (H:Heap),St.enter args H= {env:=q000 0 args,loc:=[],hp:=H,base:=H.length,dirty:=[]})/\(∀n:Nat,q000 n []=[])/\ ∀(n:Nat) (v:V) (r:List V),q000 n (v::r)=(n,v)::q000 (n+1) r:=
 ⟨fun _ _=>rfl,fun _=>rfl,fun _ _ _=>rfl⟩
theorem zEb:((∀(args:List V) (H:Heap),St.enter args H= {env:=q000 0 args,loc:=[],hp:=H,base:=H.length,dirty:=[]})/\(∀n:Nat,q000 n []=[])/\ ∀(n:Nat) (v:V) (r:List V),q000 n (v::r)=(n,v)::q000 (n+1) r)/\
  ∀(α:Type) (cs:List α) (off n:Nat),subs cs off n=if off+n<=cs.length then some ((cs.drop off).take n) else none:=⟨zEa,fun _ _ _ _=>rfl⟩
theorem zEc:(((∀(args:List V) (H:Heap),St.enter args H= {env:=q000 0 args,loc:=[],hp:=H,base:=H.length,dirty:=[]})/\(∀n:Nat,q000 n []=[])/\ ∀(n:Nat) (v:V) (r:List V),q000 n (v::r)=(n,v)::q000 (n+1) r)/\
  ∀(α:Type) (cs:List α) (off n:Nat),subs cs off n=if off+n<=cs.length then some ((cs.drop off).take n) else none)/\
  ∀(α:Type) (cs:List α) (off:Nat) (vs:List α),q001 cs off vs=if off+vs.length<=cs.length then some (cs.take off++vs++cs.drop (off+vs.length)) else none:=⟨zEb,fun _ _ _ _=>rfl⟩
def insI (x:Int):List Int->List Int
 |[]=>[x]
 |y::r=>if x<=y then x::y::r else y::insI x r
def isort:List Int->List Int
 |[]=>[]
 |x::r=>insI x (isort r)
def readI:List (List V)->Option (List Int)
 |[]=>some []
 |[.p (.int .i64 n)]::r=>match readI r with|some l=>some (n::l)|none=>none
 |_=>none
def intEl (n:Int):List V:=[.p (.int .i64 n)]
def sortR (H:Heap) (id tot off len:Nat):Option (Nat×List (List V))->Option CR
 |some (s,es)=>if es.length=tot/\s=1/\off=0/\len=tot/\tot<most then (match readI es with|some zs=>some (.tup [],some (H.set id (.row 1 ((isort zs).map intEl)),[id]))|none=>none) else none
 |none=>none
def sortP (vs:List V) (H:Heap):Option CR:=
 match vs with
 |[.p (.sl [])]=>some (.tup [],none)
 |[.row id tot off (len+1)]=>sortR H id tot off (len+1) (rowAt H id)
 |[.row _ _ _ 0]=>some (.tup [],none)
 |_=>none
end Go.Eng
