/- The engine: values, instructions, their evaluation, and that it holds of the program. -/
import Derived.WalkKit
abbrev Za:=@List.getElem?_eq_some_iff
abbrev Zb:=@Bool.and_eq_true
abbrev Zc:=@Array.getD_eq_getD_getElem?
abbrev Zd:=@List.cons_append
abbrev Ze:=@Option.bind_some
abbrev Zf:=@List.nil_append
abbrev Zg:=@List.length_cons
abbrev Zh:=@Bool.false_eq_true
abbrev Zi:=@List.mem_append_left
abbrev Zj:=@Nat.zero_le
abbrev Zk:=@List.mem_append_right
abbrev Zl:=@List.getElem?_eq_getElem
abbrev Zm:=@Nat.le_refl
abbrev Zn:=@List.all_eq_true
abbrev Zo:=@List.map_cons
abbrev Zp:=@List.mem_of_getElem?
abbrev Zq:=@List.length_nil
abbrev Zr:=@List.getElem?_set_ne
abbrev Zs:=@Nat.zero_add
abbrev Zt:=@List.length_append
abbrev Zu:=@Nat.mul_le_mul_right
abbrev Zv:=@List.mem_cons_of_mem
abbrev Zw:=@List.getElem?_append_left
abbrev Zx:=@List.append_assoc
abbrev Zy:=@List.take_of_length_le
abbrev Zz:=@Nat.not_lt_zero
abbrev ZA:=@List.drop_eq_getElem_cons
abbrev ZB:=@List.getD_eq_getElem?_getD
abbrev ZC:=@List.length_take
abbrev ZD:=@List.getElem?_append_right
abbrev ZE:=@List.mem_cons_self
abbrev ZF:=@List.getElem?_eq_none
abbrev ZG:=@List.drop_zero
abbrev ZH:=@Option.map_some
abbrev ZI:=@List.mem_cons
abbrev ZJ:=@List.mem_map
abbrev ZK:=@List.getElem_mem
abbrev ZL:=@List.map_nil
abbrev ZM:=@List.length_replicate
abbrev ZN:=@Array.getElem?_eq_some_iff
abbrev ZO:=@Nat.succ_mul
abbrev ZP:=@List.getElem_append_left
abbrev ZQ:=@List.mem_flatMap
abbrev ZR:=@List.getElem_append_right
abbrev ZS:=@Int.le_refl
abbrev ZT:=@List.foldl_cons
abbrev ZU:=@List.length_eq_zero_iff
abbrev ZV:=@Bool.true_and
abbrev ZW:=@List.pairwise_cons
abbrev ZX:=@List.getElem?_set_self
abbrev ZY:=@List.mem_append
abbrev ZZ:=@List.take_succ_cons
abbrev Z0:=@List.length_map
abbrev Z1:=@List.getElem_map
abbrev Z2:=@Nat.lt_or_ge
abbrev Z3:=@Nat.add_assoc
abbrev Z4:=@Bool.or_eq_true
abbrev Z5:=@Array.toArray_toList
abbrev Z6:=@List.mem_of_mem_take
abbrev Z7:=@List.getElem_drop
abbrev Z8:=@List.getElem_cons_zero
abbrev Z9:=@List.replicate_succ
namespace Go.Eng
open Go
inductive PV where
 |int (k:IntKind) (n:Int)
 |bool (b:Bool)
 |str (s:ByteArray)
 |sl (es:List (List PV))
 |nilp
 |nilf
 |nilm
 |fn (f:FuncId)
 deriving Inhabited
inductive V where
 |p (x:PV)
 |agg (cs:List V)
 |tup (vs:List V)
 |nils
 |row (id tot off len:Nat)
 |bvs (id off len s:Nat)
 |vsl (es:List (List V))
 |ptr (id off:Nat)
 |rptr (id tot i j:Nat)
 |eptr (cs:List V) (off:Nat)
 |lptr (s off:Nat)
 |fn (f:Fn) (first cap:List V)
 |map (id:Nat)
 |yld (id:Nat)
 |nil0
 |mt (nil:Bool)
 |undef
 deriving Inhabited
inductive Arg where
 |t (n:Nat)
 |c (v:V)
 deriving Inhabited
inductive Ex where
 |normal
 |exit (id:Nat)
 |goto (l:Nat)
 |ret
 deriving Inhabited,DecidableEq
inductive NK where
 |ptr|fn|sl|map
 deriving Inhabited,DecidableEq
inductive MOp where
 |mkm
 |len
 |lk (ag:Option (List Bool)) (zero:V) (ok:Bool)
 |st (ag:Option (List Bool)) (n:Nat)
 deriving Inhabited
def MOp.pure:MOp->Bool
 | .len| .lk .. =>true
 |_=>false
inductive Ins where
 |mov (x:Arg)
 |nrow (s:Nat)
 |bin (op:BinOp) (x y:Arg)
 |eqb (ng:Bool) (x y:Arg)
 |eqn (k:NK) (ng:Bool) (x:Arg)
 |eqa (ng:Bool) (sh:List Bool) (x y:Arg)
 |eqs (ng:Bool) (x y:Arg)
 |slca (x:Arg) (lo:Option Arg) (s n:Nat)
 |clr (x:Arg) (s:Nat) (zero:List V)
 |un (op:UnOp) (x:Arg)
 |conv (k:IntKind) (x:Arg)
 |len (x:Arg)
 |mnmx (mx:Bool) (x y:Arg)
 |pick (c a b:Arg)
 |off (x:Arg) (k:Nat)
 |ixa (x i:Arg) (s n:Nat)
 |ixs (x i:Arg) (s:Nat)
 |ixv (x i:Arg) (s n:Nat) (agg:Bool)
 |ixc (x i:Arg)
 |fldv (x:Arg) (o n:Nat) (agg:Bool)
 |ld (x:Arg) (n:Nat) (agg:Bool)
 |st (x v:Arg) (n:Nat)
 |ldl (k:Nat) (x:Arg) (n:Nat) (agg:Bool)
 |stl (k:Nat) (x v:Arg) (n:Nat)
 |mkz (s:Nat) (zero:List PV) (len:Arg)
 |al (zero:List V) (loc:Bool)
 |bx (x:Arg) (n:Nat) (loc:Bool)
 |alp (zero:List V)
 |bxp (x:Arg) (n:Nat)
 |bld (zero:List V) (parts:List (Nat×Nat×Arg))
 |bsl (s len:Nat) (zero:List V) (parts:List (Nat×Arg))
 |bsr (s len:Nat) (zero:List V) (parts:List (Nat×Arg))
 |app (x y:Arg) (s:Nat)
 |slc (x:Arg) (lo hi:Option Arg) (s:Nat)
 |mks (s:Nat) (zero:List V) (len:Arg)
 |ext (x:Arg) (i:Nat)
 |call (f:FuncId) (args:List Arg) (pure:Bool)
 |callv (x:Arg) (args:List Arg) (pure:Bool)
 |mkf (f:Fn) (first cap:List Arg)
 |nck (x:Arg)
 |mp (op:MOp) (args:List Arg)
 |callz (f:FuncId) (args:List Arg)
 |mkh (j s:Nat) (zero:List V) (len:Arg)
 |apo (x y:Arg) (s:Nat) (n:Arg) (c:Nat)
 |ldh (x:Arg) (n:Nat) (agg:Bool)
 deriving Inhabited
structure GIns where
 dst:Option Nat
 guard:Option (Nat×Bool)
 ins:Ins
 deriving Inhabited
inductive IC where
 |skip
 |reg (draw:Bool) (ops:List GIns) (keep kl:List Nat)
 |seq (a b:IC)
 |cond (c:Arg) (a b:IC)
 |block (id:Nat) (c:IC)
 |loop (keep kl:List Nat) (c:IC)
 |exit (id:Nat)
 |ret
 |label (l:Nat)
 |prep (ts:List Nat) (c:IC)
 |esc (ts:List Nat) (c:IC)
 |scope (c:IC)
 |scopeR (c body:IC)
 |goto (l:Nat)
 |rangeFunc (x:Arg) (params:List Nat) (assign body:IC)
 |rsv (ss:List Nat) (c:IC)
 deriving Inhabited
inductive LSt where
 |ready
 |busy
 |done (e:Ex)
 deriving Inhabited,DecidableEq
inductive DObj where
 |box (cells:List V)
 |row (s:Nat) (es:List (List V))
 |loop (st:LSt) (env:List (Nat×V)) (ps:List Nat) (a b:IC)
 |map (es:List (V×V))
 |dead
 deriving Inhabited
abbrev Heap:=List DObj
structure St where
 env:List (Nat×V)
 loc:List (Nat×List V)
 hp:Heap
 base:Nat
 dirty:List Nat
 deriving Inhabited
def getE:List (Nat×V)->Nat->V
 |[],_=> .undef
 |(k,v)::r,t=>if k==t then v else getE r t
def getL:List (Nat×List V)->Nat->Option (List V)
 |[],_=>none
 |(k,v)::r,t=>if k==t then some v else getL r t
def setL:List (Nat×List V)->Nat->List V->List (Nat×List V)
 |[],t,v=>[(t,v)]
 |(k,u)::r,t,v=>if k==t then (k,v)::r else (k,u)::setL r t v
def St.arg (S:St):Arg->V
 | .t n=>getE S.env n
 | .c v=>v
def St.put (S:St) (d:Option Nat) (v:V):St:=
 match d with
 |some t=> {S with env:=(t,v)::S.env}
 |none=>S
def keepE (e:List (Nat×V)) (ks:List Nat):List (Nat×V):=ks.map fun t=>(t,getE e t)
def keepL (l:List (Nat×List V)) (ks:List Nat):List (Nat×List V):=ks.filterMap fun s=>(getL l s).map fun c=>(s,c)
def St.keep (S:St) (ks kl:List Nat):St:= {S with env:=keepE S.env ks,loc:=keepL S.loc kl}
def V.cells:V->List V
 | .agg cs=>cs
 |v=>[v]
def V.oneB:V->Bool
 | .agg _| .tup _| .undef| .lptr _ _=>false
 |_=>true
def PV.ofV:V->Option PV
 | .p x=>some x
 | .nils=>some (.sl [])
 |_=>none
def q03s:List V->Option (List PV)
 |[]=>some []
 |v::r=>match PV.ofV v,q03s r with|some x,some xs=>some (x::xs)|_,_=>none
def q02b:List (List V)->Option (List (List PV))
 |[]=>some []
 |v::r=>match q03s v,q02b r with|some x,some xs=>some (x::xs)|_,_=>none
def subs {α:Type} (cs:List α) (off n:Nat):Option (List α):=if off+n<=cs.length then some ((cs.drop off).take n) else none
def q001 {α:Type} (cs:List α) (off:Nat) (vs:List α):Option (List α):=
 if off+vs.length<=cs.length then some (cs.take off++vs++cs.drop (off+vs.length)) else none
def rowAt (H:Heap) (id:Nat):Option (Nat×List (List V)):=
 match H[id]? with
 |some (.row s es)=>some (s,es)
 |_=>none
def boxAt (H:Heap) (id:Nat):Option (List V):=
 match H[id]? with
 |some (.box cs)=>some cs
 |_=>none
def q011 (S:St) (x:V) (n:Nat):Option (List V):=
 match x with
 | .lptr s off=>(getL S.loc s).bind fun cs=>if cs.isEmpty=true then none else subs cs off n
 | .ptr id off=>(boxAt S.hp id).bind fun cs=>subs cs off n
 | .eptr cs off=>subs cs off n
 | .rptr id tot i j=>(rowAt S.hp id).bind fun (_,es)=>if es.length=tot then (es[i]?).bind fun e=>subs e j n else none
 |_=>none
def addD (base id:Nat) (d:List Nat):List Nat:=if id<base then id::d else d
def q00l (S:St) (x:V) (vs:List V):Option St:=
 match x with
 | .lptr s off=>(getL S.loc s).bind fun cs=>if cs.isEmpty=true then none else (q001 cs off vs).map fun cs'=> {S with loc:=setL S.loc s cs'}
 | .ptr id off=>(boxAt S.hp id).bind fun cs=>(q001 cs off vs).map fun cs'=> {S with hp:=S.hp.set id (.box cs'),dirty:=addD S.base id S.dirty}
 | .rptr id tot i j=>(rowAt S.hp id).bind fun (s,es)=>if es.length=tot then (es[i]?).bind fun e=>(q001 e j vs).map fun e'=>
   {S with hp:=S.hp.set id (.row s (es.set i e')),dirty:=addD S.base id S.dirty} else none
 |_=>none
def intOp (op:BinOp) (k:IntKind) (a b:Int):Option PV:=
 match op with
 | .add=>some (.int k (k.wrap (a+b)))
 | .sub=>some (.int k (k.wrap (a-b)))
 | .mul=>some (.int k (k.wrap (a*b)))
 | .quo=>if b=0 then none else some (.int k (k.wrap (a.tdiv b)))
 | .rem=>if b=0 then none else some (.int k (a.tmod b))
 | .and=>some (.int k (k.wrap (BitVec.ofInt k.bits a&&&BitVec.ofInt k.bits b).toNat))
 | .or=>some (.int k (k.wrap (BitVec.ofInt k.bits a|||BitVec.ofInt k.bits b).toNat))
 | .xor=>some (.int k (k.wrap (BitVec.ofInt k.bits a^^^BitVec.ofInt k.bits b).toNat))
 | .andNot=>some (.int k (k.wrap (BitVec.ofInt k.bits a&&& ~~~(BitVec.ofInt k.bits b)).toNat))
 | .eql=>some (.bool (decide (a=b)))
 | .neq=>some (.bool (!decide (a=b)))
 | .lss=>some (.bool (decide (a<b)))
 | .leq=>some (.bool (decide (a<=b)))
 | .gtr=>some (.bool (decide (b<a)))
 | .geq=>some (.bool (decide (b<=a)))
 | .shl=>if b<0 then none else some (.int k (k.wrap (a*2^(min b.toNat k.bits))))
 | .shr=>if b<0 then none else some (.int k (a.fdiv (2^(min b.toNat k.bits))))
def q02l:Bool->V->V->Option Bool
 |true,.p (.int k a),.p (.int k' b)=>if k=k' then some (decide (a=b)) else none
 |false,.p (.bool a),.p (.bool b)=>some (a==b)
 |_,_,_=>none
def q00h:List Bool->List V->List V->Option Bool
 |[],[],[]=>some true
 |s::sh,x::xs,y::ys=>match q02l s x y,q00h sh xs ys with|some a,some b=>some (a&&b)|_,_=>none
 |_,_,_=>none
def eqKey:Option (List Bool)->V->V->Option Bool
 |none,x,y=>q02l true x y
 |some sh,.agg xs,.agg ys=>q00h sh xs ys
 |_,_,_=>none
def findM (ag:Option (List Bool)) (k:V):List (V×V)->Nat->Option (Option (Nat×V))
 |[],_=>some none
 |e::r,i=>match eqKey ag k e.1 with
  |some true=>some (some (i,e.2))
  |some false=>findM ag k r (i+1)
  |none=>none
def mapAt (H:List DObj) (id:Nat):Option (List (V×V)):=
 match H[id]? with
 |some (.map es)=>some es
 |_=>none
def V.isNil:NK->V->Option Bool
 | .ptr,.p .nilp=>some true
 | .map,.p .nilm=>some true
 | .map,.map _=>some false
 | .ptr,.ptr .. | .ptr,.rptr .. | .ptr,.eptr .. | .ptr,.lptr .. =>some false
 | .fn,.p .nilf=>some true
 | .fn,.p (.fn _)| .fn,.fn .. | .fn,.yld _=>some false
 | .sl,.p (.sl (_::_))=>some false
 | .sl,.bvs .. =>some false
 | .sl,.row _ _ _ (_+1)=>some false
 | .sl,.vsl (_::_)=>some false
 | .sl,.mt b=>some b
 | .sl,.nil0=>some true
 |_,_=>none
def binV (op:BinOp) (x y:V):Option V:=
 match x,y with
 | .p (.int k a),.p (.int k' b)=>if op= .shl\/op= .shr\/k=k' then (intOp op k a b).map .p else none
 |_,_=>none
def eqbV (ng:Bool) (x y:V):Option V:=
 match x,y with
 | .p (.bool a),.p (.bool b)=>some (.p (.bool ((a==b) !=ng)))
 |_,_=>none
def eqnV (k:NK) (ng:Bool) (x:V):Option V:=
 match x.isNil k with
 |some b=>some (.p (.bool (b !=ng)))
 |none=>none
def eqaV (ng:Bool) (sh:List Bool) (x y:V):Option V:=
 match x,y with
 | .agg xs,.agg ys=>match q00h sh xs ys with|some b=>some (.p (.bool (b !=ng)))|none=>none
 |_,_=>none
def eqsV (ng:Bool) (x y:V):Option V:=
 match x,y with
 | .p (.str a),.p (.str b)=>some (.p (.bool ((a==b) !=ng)))
 |_,_=>none
def unV (op:UnOp) (x:V):Option V:=
 match op,x with
 | .not,.p (.bool b)=>some (.p (.bool (!b)))
 | .neg,.p (.int k n)=>some (.p (.int k (k.wrap (0-n))))
 | .xor,.p (.int k n)=>some (.p (.int k (k.wrap (BitVec.ofInt k.bits (if k.signed then-1 else k.max)^^^BitVec.ofInt k.bits n).toNat)))
 |_,_=>none
def lenV:V->Option Nat
 | .p (.sl es)=>some es.length
 | .vsl es=>some es.length
 | .nils=>some 0
 | .nil0=>some 0
 | .row _ _ _ len=>some len
 | .bvs _ _ len _=>some len
 |_=>none
def upV (es:List (List PV)):List (List V):=es.map fun e=>e.map .p
def elems (H:Heap):V->Option (List (List V))
 | .p (.sl es)=>some (upV es)
 | .vsl es=>some es
 | .nils=>some []
 | .mt _=>some []
 | .nil0=>some []
 | .bvs id off len s=>(boxAt H id).bind fun cs=>if off+len*s<=cs.length then some ((List.range len).map fun i=>(cs.drop (off+i*s)).take s) else none
 | .row id tot off len=>(rowAt H id).bind fun (_,es)=>if es.length=tot then some ((es.drop off).take len) else none
 |_=>none
def q007 (x:V) (k:Nat):Option V:=
 match x with
 | .lptr s off=>some (.lptr s (off+k))
 | .ptr id off=>some (.ptr id (off+k))
 | .rptr id tot i j=>some (.rptr id tot i (j+k))
 | .eptr cs off=>some (.eptr cs (off+k))
 |_=>none
def ixsV (H:Heap) (x:V) (i:Int) (s:Nat):Option V:=
 if 0<=i then
  match x with
  | .p (.sl es)=>(es[i.toNat]?).bind fun e=>if e.length=s then some (.eptr (e.map .p) 0) else none
  | .vsl es=>(es[i.toNat]?).bind fun e=>if e.length=s then some (.eptr e 0) else none
  | .bvs id off len s'=>if s'=s/\i<len then some (.ptr id (off+i.toNat*s)) else none
  | .row id tot off len=>(rowAt H id).bind fun (s',es)=>if es.length=tot/\s'=s/\i<len then some (.rptr id tot (off+i.toNat) 0) else none
  |_=>none
 else none
def V.notL:V->Bool
 | .lptr _ _=>false
 |_=>true
def aggOr (agg:Bool) (cs:List V):Option V:=
 match agg,cs with
 |true,cs=>some (.agg cs)
 |false,[v]=>if v.notL=true then some v else none
 |_,_=>none
def most:Nat:=4294967296
def okEl (s:Nat) (e:List V):Bool:=e.length==s&&e.all V.oneB
def nil1:V->V
 | .nil0=> .nils
 |v=>v
def appV (S:St) (x y:V) (s:Nat):Option (V×St):=
 (elems S.hp y).bind fun ys=>
 if ys.all (okEl s) then
  match nil1 x with
  | .nils=>if ys.length<most then (if ys.isEmpty then some (.nils,S) else some (.row S.hp.length ys.length 0 ys.length,{S with hp:=S.hp++[DObj.row s ys]})) else none
  | .row id tot off len=>(rowAt S.hp id).bind fun (s',es)=>
    if es.length=tot/\s'=s/\off=0/\len=tot/\tot+ys.length<most then
     some (.row id (tot+ys.length) 0 (tot+ys.length),{S with hp:=S.hp.set id (.row s (es++ys)),dirty:=addD S.base id S.dirty})
    else none
  |_=>none
 else none
def q0T3:V->Option Int
 | .p (.int _ n)=>some n
 |_=>none
def q066 {α:Type} (s:Nat):List (List α)->Bool
 |[]=>true
 |e::_=>e.length==s
def slcV (H:Heap) (s:Nat) (x:V) (lo hi:Option Int):Option V:=
 match lenV x with
 |none=>none
 |some n=>
  if 0<=lo.getD 0/\lo.getD 0<=hi.getD n/\hi.getD n<=n then
   match x with
   | .p (.sl es)=>if q066 s es=true then some (.p (.sl ((es.drop (lo.getD 0).toNat).take (hi.getD n-lo.getD 0).toNat))) else none
   | .vsl es=>if q066 s es=true then some (.vsl ((es.drop (lo.getD 0).toNat).take (hi.getD n-lo.getD 0).toNat)) else none
   | .nils=>some .nils
   | .row id tot off _=>match rowAt H id with
     |some (s',es)=>if es.length=tot/\s'=s then some (.row id tot (off+(lo.getD 0).toNat) (hi.getD n-lo.getD 0).toNat) else none
     |none=>none
   |_=>none
  else none
def fillV (zero:List V):List (Nat×Nat×V)->Option (List V)
 |[]=>some zero
 |(o,n,v)::r=>if v.cells.length=n/\v.cells.all V.oneB then (q001 zero o v.cells).bind fun z=>fillV z r else none
def fillS (s:Nat) (es:List (List V)):List (Nat×V)->Option (List (List V))
 |[]=>some es
 |(i,v)::r=>if i<es.length/\v.cells.length=s/\v.cells.all V.oneB then fillS s (es.set i v.cells) r else none
def q012 (e:List (Nat×V)) (s:Nat):Bool:=e.all fun x=>match x.2 with| .lptr s' _=> !(s'==s)|_=>true
abbrev CR:=V×Option (Heap×List Nat)
def V.outB:V->Bool
 | .lptr _ _| .undef| .tup _=>false
 |_=>true
def normC:V->V
 | .nils=> .p (.sl [])
 |v=>v
def normA:V->V
 | .nils=> .p (.sl [])
 | .agg cs=> .agg (cs.map normC)
 |v=>v
def callR (S:St) (pure:Bool) (d:Option Nat) (r:Option CR):Option St:=
 match r with
 |some (v,none)=>if v.notL=true then some (S.put d v) else none
 |some (v,some (H,ds))=>if pure=true\/v.notL=false then none else some ({S with hp:=H,dirty:=ds.foldr (addD S.base) S.dirty}.put d v)
 |none=>none
def retS (S:St) (d:Option Nat):Option V->Option St
 |some v=>some (S.put d v)
 |none=>none
def retP (d:Option Nat):Option (V×St)->Option St
 |some (v,S)=>some (S.put d v)
 |none=>none
def convV (k:IntKind):V->Option V
 | .p (.int _ n)=>some (.p (.int k (k.wrap n)))
 |_=>none
def lenR:Option Nat->Option V
 |some n=>some (.p (.int .i64 n))
 |none=>none
def mnmxV (mx:Bool):V->V->Option V
 | .p (.int k a),.p (.int k' b)=>if k=k' then some (.p (.int k (if mx=true then max a b else min a b))) else none
 |_,_=>none
def pickV (c a b:V):Option V:=
 match c with
 | .p (.bool t)=>some (if t=true then a else b)
 |_=>none
def ixaV (x i:V) (s n:Nat):Option V:=
 match i with
 | .p (.int _ i)=>if 0<=i/\i<n then q007 x (i.toNat*s) else none
 |_=>none
def ixsI (H:Heap) (x i:V) (s:Nat):Option V:=
 match i with
 | .p (.int _ i)=>ixsV H x i s
 |_=>none
def ixvV (x i:V) (s n:Nat) (agg:Bool):Option V:=
 match x,i with
 | .agg cs,.p (.int _ i)=>if 0<=i/\i<n then (subs cs (i.toNat*s) s).bind (aggOr agg) else none
 |_,_=>none
def ixcV (x i:V):Option V:=
 match x,i with
 | .p (.str s),.p (.int _ i)=>if 0<=i then (match s[i.toNat]? with|some b=>some (.p (.int .u8 b.toNat))|none=>none) else none
 |_,_=>none
def fldvV (x:V) (o n:Nat) (agg:Bool):Option V:=
 match x with
 | .agg cs=>(subs cs o n).bind (aggOr agg)
 |_=>none
def stI (S:St) (x v:V) (n:Nat):Option (V×St):=
 if v.cells.length=n/\v.cells.all V.oneB=true then (q00l S x v.cells).map fun S'=>(.tup [],S') else none
def boxI (S:St) (d:Option Nat) (cs:List V) (loc:Bool):Option (V×St):=
 match d,loc with
 |some t,true=>if q012 S.env t=true then some (.lptr t 0,{S with loc:=setL S.loc t cs}) else none
 |some _,false=>some (.ptr S.hp.length 0,{S with hp:=S.hp++[DObj.box cs]})
 |none,_=>none
def bxI (S:St) (d:Option Nat) (x:V) (n:Nat) (loc:Bool):Option (V×St):=
 if x.cells.length=n/\x.cells.all V.oneB=true then boxI S d x.cells loc else none
def alpI (S:St) (d:Option Nat) (cs:List V):Option (V×St):=
 match d with
 |some t=>if q012 S.env t=true/\(getL S.loc t).isSome=true/\cs≠[] then some (.lptr t 0,{S with loc:=setL S.loc t cs}) else none
 |none=>none
def bxpI (S:St) (d:Option Nat) (x:V) (n:Nat):Option (V×St):=
 if x.cells.length=n/\x.cells.all V.oneB=true then alpI S d x.cells else none
def prepL (l:List (Nat×List V)):List Nat->List (Nat×List V)
 |[]=>l
 |t::r=>prepL (if (getL l t).isSome=true then l else l++[(t,[])]) r
def aggR:Option (List V)->Option V
 |some cs=>some (.agg cs)
 |none=>none
def slR:Option (List (List V))->Option V
 |some []=>some .nils
 |some es=>match q02b es with|some xs=>some (.p (.sl xs))|none=>some (.vsl es)
 |none=>none
def slcI (H:Heap) (s:Nat) (x:V) (lo hi:Option V):Option V:=
 match lo,hi with
 |none,none=>slcV H s x none none
 |some (.p (.int _ l)),none=>slcV H s x (some l) none
 |none,some (.p (.int _ h))=>slcV H s x none (some h)
 |some (.p (.int _ l)),some (.p (.int _ h))=>slcV H s x (some l) (some h)
 |_,_=>none
def mksI (S:St) (s:Nat) (zero:List V):V->Option (V×St)
 | .p (.int _ n)=>if 0<=n/\n.toNat<most then
   some (.row S.hp.length n.toNat 0 n.toNat,{S with hp:=S.hp++[DObj.row s (List.replicate n.toNat zero)]}) else none
 |_=>none
def rowI (S:St) (s:Nat):Option (List (List V))->Option (V×St)
 |some es=>if es.all (okEl s)=true then some (.row S.hp.length es.length 0 es.length,{S with hp:=S.hp++[DObj.row s es]}) else none
 |none=>none
def slcaV (s n:Nat) (x:V):Option V->Option V
 |none=>match x with
  | .ptr id off=>if n=0 then some .nils else some (.bvs id off n s)
  |_=>none
 |some (.p (.int _ l))=>match x with
  | .ptr id off=>if 0<=l/\l<=n then (if l.toNat=n then some .nils else some (.bvs id (off+l.toNat*s) (n-l.toNat) s)) else none
  |_=>none
 |some _=>none
def clrI (S:St) (s:Nat) (zero:List V):V->Option (V×St)
 | .bvs id off len s'=>if s'=s then (q00l S (.ptr id off) (List.replicate len zero).flatten).map fun S'=>(.tup [],S') else none
 | .nils=>some (.tup [],S)
 |_=>none
def ldlV (S:St) (k:Nat) (n:Nat) (agg:Bool):V->Option V
 | .lptr s o=>if s=k then (q011 S (.lptr s o) n).bind (aggOr agg) else none
 |_=>none
def stlI (S:St) (k:Nat) (v:V) (n:Nat):V->Option (V×St)
 | .lptr s o=>if s=k then stI S (.lptr s o) v n else none
 |_=>none
def mkzV (zero:List PV):V->Option V
 | .p (.int _ n)=>if 0<=n/\n.toNat<most then some (.p (.sl (List.replicate n.toNat zero))) else none
 |_=>none
def escV (t id:Nat):V->V
 | .lptr s o=>if s=t then .ptr id o else .lptr s o
 |v=>v
def escE (t id:Nat) (e:List (Nat×V)):List (Nat×V):=e.map fun p=>(p.1,escV t id p.2)
def escS (S:St):List Nat->Option St
 |[]=>some S
 |t::r=>match getL S.loc t with
  |some (c::cs)=>escS {S with env:=escE t S.hp.length S.env,loc:=setL S.loc t [],hp:=S.hp++[DObj.box (c::cs)]} r
  |_=>none
def extV (x:V) (i:Nat):Option V:=
 match x with
 | .tup vs=>(vs[i]?).bind fun v=>if v.notL=true then some v else none
 |_=>none
def callI (cl:V->List V->Heap->Option CR) (S:St) (d:Option Nat) (pure:Bool) (f:V) (vs:List V):Option St:=
 if vs.all V.outB=true then callR S pure d (cl f vs S.hp) else none
def mkfV (f:Fn) (a b:List V):Option V:=if a.all V.outB=true/\b.all V.outB=true then some (.fn f a b) else none
def nckV (x:V):Option V:=
 match x.isNil .ptr with
 |some false=>some x
 |_=>none
def mapEs (H:Heap):V->Option (List (V×V))
 | .p .nilm=>some []
 | .map id=>mapAt H id
 |_=>none
def lkmK (zero:V) (ok:Bool):Option (Option (Nat×V))->Option V
 |some (some (_,v))=>some (if ok=true then .tup [v,.p (.bool true)] else v)
 |some none=>some (if ok=true then .tup [zero,.p (.bool false)] else zero)
 |none=>none
def keyB:Option (List Bool)->V->Bool
 |none,.p (.int _ _)=>true
 |some sh,.agg cs=>cs.length==sh.length&&cs.all V.oneB
 |_,_=>false
def lkmV (H:Heap) (x k:V) (ag:Option (List Bool)) (zero:V) (ok:Bool):Option V:=
 if keyB ag k=true then (mapEs H x).bind fun es=>lkmK zero ok (findM ag k es 0) else none
def setM (es:List (V×V)) (k v:V):Option (Nat×V)->List (V×V)
 |some (i,_)=>es.set i (k,v)
 |none=>es++[(k,v)]
def stmR (H:Heap) (id:Nat) (k v:V) (es:List (V×V)):Option (Option (Nat×V))->Option (V×Option (Heap×List Nat))
 |some r=>some (.tup [],some (H.set id (.map (setM es k v r)),[id]))
 |none=>none
def stmE (H:Heap) (id:Nat) (k v:V) (ag:Option (List Bool)):Option (List (V×V))->Option (V×Option (Heap×List Nat))
 |some es=>stmR H id k v es (findM ag k es 0)
 |none=>none
def stmH (H:Heap) (k v:V) (ag:Option (List Bool)) (n:Nat):V->Option (V×Option (Heap×List Nat))
 | .map id=>if v.cells.length=n/\v.cells.all V.oneB=true/\keyB ag k=true then stmE H id k v ag (mapAt H id) else none
 |_=>none
def q06v:Option V->Option (V×Option (Heap×List Nat))
 |some v=>some (v,none)
 |none=>none
def lenmV (H:Heap) (x:V):Option V:=(mapEs H x).map fun es=> .p (.int .i64 es.length)
def mpH (op:MOp) (vs:List V) (H:Heap):Option (V×Option (Heap×List Nat)):=
 match op,vs with
 | .mkm,[]=>some (.map H.length,some (H++[DObj.map []],[]))
 | .len,[x]=>q06v (lenmV H x)
 | .lk ag zero ok,[x,k]=>q06v (lkmV H x k ag zero ok)
 | .st ag n,[x,k,v]=>stmH H k v ag n x
 |_,_=>none
def allO {α β:Type} (f:α->Option β):List α->Option (List β)
 |[]=>some []
 |x::r=>match f x,allO f r with|some y,some ys=>some (y::ys)|_,_=>none
def frz (base:Nat) (H:Heap):Nat->V->Option PV
 |_,.p x=>some x
 |_,.nils=>some (.sl [])
 |d+1,.row id tot off len=>if base<=id then (elems H (.row id tot off len)).bind fun es=>(allO (allO (frz base H d)) es).map .sl else none
 |_,_=>none
def deep:Nat:=3
def solN:Nat->V->Bool
 |_,.p _=>true
 |d+1,.agg cs=>cs.all (solN d)
 |d+1,.eptr cs _=>cs.all (solN d)
 |_,_=>false
def sd:Nat:=6
def solV (H:Heap):Nat->V->Option V
 |_,.p x=>some (.p x)
 |_,.nils=>some (.p (.sl []))
 |_,.row id tot off len=>(frz 0 H deep (.row id tot off len)).map .p
 |d+1,.ptr id off=>(boxAt H id).bind fun cs=>(allO (solV H d) cs).map fun cs'=> .eptr cs' off
 |d+1,.agg cs=>(allO (solV H d) cs).map .agg
 |d,.eptr cs o=>if solN d (.eptr cs o)=true then some (.eptr cs o) else none
 |_,_=>none
def zV (H:Heap):V->Option V
 | .tup vs=>(allO (solV H sd) vs).map .tup
 |v=>solV H sd v
def zR:Option CR->Option V
 |some (v,none)=>zV [] v
 |some (v,some (H,[]))=>zV H v
 |_=>none
def callZ (cl:V->List V->Heap->Option CR) (S:St) (d:Option Nat) (f:FuncId) (vs:List V):Option St:=
 if vs.all (solN sd)=true then retS S d (zR (cl (.p (.fn f)) vs [])) else none
def ldhV (S:St) (n:Nat) (agg:Bool) (x:V):Option V:=if x.notL=true then (q011 S x n).bind (aggOr agg) else none
def mkhR (S:St) (id n s:Nat) (zero:List V):Option (Nat×List (List V))->Option (V×St)
 |some (s',[])=>if s'=s then some (.row id n 0 n,{S with hp:=S.hp.set id (.row s (List.replicate n zero))}) else none
 |_=>none
def mkhI (S:St) (j s:Nat) (zero:List V):V->Option (V×St)
 | .p (.int _ n)=>if 0<n/\n.toNat<most/\0<j/\j<=S.hp.length/\S.base<=S.hp.length-j then mkhR S (S.hp.length-j) n.toNat s zero (rowAt S.hp (S.hp.length-j)) else none
 |_=>none
def apoB (base:Nat) (x y n:V) (c:Nat):Bool:=
 match x,y,n with
 | .row id tot off len,.p (.sl (_::_)),.p (.int _ m)=>decide (base<=id)&&decide ((tot:Int)=m+c)&&decide (off=0)&&decide (len=tot)
 |_,_,_=>false
def evIns (cl:V->List V->Heap->Option CR) (d:Option Nat) (i:Ins) (S:St):Option St:=
 match i with
 | .mov x=>some (S.put d (S.arg x))
 | .nrow s=>retP d (some (.row S.hp.length 0 0 0,{S with hp:=S.hp++[DObj.row s []]}))
 | .bin op x y=>retS S d (binV op (S.arg x) (S.arg y))
 | .eqb ng x y=>retS S d (eqbV ng (S.arg x) (S.arg y))
 | .eqn k ng x=>retS S d (eqnV k ng (S.arg x))
 | .eqa ng sh x y=>retS S d (eqaV ng sh (S.arg x) (S.arg y))
 | .eqs ng x y=>retS S d (eqsV ng (S.arg x) (S.arg y))
 | .slca x lo s n=>retS S d (slcaV s n (S.arg x) (lo.map S.arg))
 | .clr x s zero=>retP d (clrI S s zero (S.arg x))
 | .un op x=>retS S d (unV op (S.arg x))
 | .conv k x=>retS S d (convV k (S.arg x))
 | .len x=>retS S d (lenR (lenV (S.arg x)))
 | .mnmx mx x y=>retS S d (mnmxV mx (S.arg x) (S.arg y))
 | .pick c a b=>retS S d (pickV (S.arg c) (S.arg a) (S.arg b))
 | .off x k=>retS S d (q007 (S.arg x) k)
 | .ixa x i s n=>retS S d (ixaV (S.arg x) (S.arg i) s n)
 | .ixs x i s=>retS S d (ixsI S.hp (S.arg x) (S.arg i) s)
 | .ixv x i s n agg=>retS S d (ixvV (S.arg x) (S.arg i) s n agg)
 | .ixc x i=>retS S d (ixcV (S.arg x) (S.arg i))
 | .fldv x o n agg=>retS S d (fldvV (S.arg x) o n agg)
 | .ld x n agg=>retS S d ((q011 S (S.arg x) n).bind (aggOr agg))
 | .st x v n=>retP d (stI S (S.arg x) (S.arg v) n)
 | .ldl k x n agg=>retS S d (ldlV S k n agg (S.arg x))
 | .stl k x v n=>retP d (stlI S k (S.arg v) n (S.arg x))
 | .mkz _ zero n=>retS S d (mkzV zero (S.arg n))
 | .al zero loc=>retP d (boxI S d zero loc)
 | .bx x n loc=>retP d (bxI S d (S.arg x) n loc)
 | .alp zero=>retP d (alpI S d zero)
 | .bxp x n=>retP d (bxpI S d (S.arg x) n)
 | .bld zero parts=>retS S d (aggR (fillV zero (parts.map fun (o,n,x)=>(o,n,S.arg x))))
 | .bsl s len zero parts=>retS S d (slR (fillS s (List.replicate len zero) (parts.map fun (i,x)=>(i,S.arg x))))
 | .app x y s=>retP d (appV S (S.arg x) (S.arg y) s)
 | .slc x lo hi s=>retS S d (slcI S.hp s (S.arg x) (lo.map S.arg) (hi.map S.arg))
 | .mks s zero n=>retP d (mksI S s zero (S.arg n))
 | .bsr s len zero parts=>retP d (rowI S s (fillS s (List.replicate len zero) (parts.map fun (i,x)=>(i,S.arg x))))
 | .ext x i=>retS S d (extV (S.arg x) i)
 | .call f args pure=>callI cl S d pure (.p (.fn f)) (args.map fun a=>normA (S.arg a))
 | .callv x args pure=>callI cl S d pure (S.arg x) (args.map fun a=>normA (S.arg a))
 | .mkf f first cap=>retS S d (mkfV f (first.map fun x=>normA (S.arg x)) (cap.map fun x=>normA (S.arg x)))
 | .nck x=>retS S d (nckV (S.arg x))
 | .mp op args=>callI (fun _ vs H=>mpH op vs H) S d op.pure .undef (args.map fun a=>normA (S.arg a))
 | .callz f args=>callZ cl S d f (args.map fun a=>normA (S.arg a))
 | .mkh j s zero n=>retP d (mkhI S j s zero (S.arg n))
 | .ldh x n agg=>retS S d (ldhV S n agg (S.arg x))
 | .apo x y s n c=>if apoB S.base (S.arg x) (S.arg y) (S.arg n) c=true then retP d (appV S (S.arg x) (S.arg y) s) else none
def wanted (S:St):Option (Nat×Bool)->Option Bool
 |none=>some true
 |some (t,want)=>match getE S.env t with
   | .p (.bool b)=>some (b==want)
   | .tup []=>some false
   |_=>none
def evG (cl:V->List V->Heap->Option CR) (g:GIns) (S:St):Option St:=
 match wanted S g.guard with
 |some true=>evIns cl g.dst g.ins S
 |some false=>some (S.put g.dst (.tup []))
 |none=>none
def evOps (cl:V->List V->Heap->Option CR):List GIns->St->Option St
 |[],S=>some S
 |g::r,S=>(evG cl g S).bind (evOps cl r)
inductive RV where
 |tmp (t:Nat)
 |cell (a n:Nat) (agg:Bool)
 deriving Inhabited
structure IFn where
 body:IC
 results:List RV
 thaw:Bool:=false
 deriving Inhabited
structure Env where
 fns:FuncId->Option IFn
 prims:FuncId->Option (List V->Heap->Option CR)
def freeze (S:St):V->Option V
 | .nils=>some (.p (.sl []))
 | .nil0=>some (.p (.sl []))
 | .row id tot off len=>if S.base<=id then (frz S.base S.hp deep (.row id tot off len)).map .p else some (.row id tot off len)
 | .lptr .. | .undef| .tup _=>none
 |v=>some v
def q02z (S:St):List V->Option (List V)
 |[]=>some []
 |v::r=>match freeze S v,q02z S r with|some x,some xs=>some (x::xs)|_,_=>none
def freezeR (S:St):V->Option V
 | .agg cs=>(q02z S cs).map .agg
 |v=>freeze S v
def V.plainB:V->Bool
 | .p _=>true
 | .eptr cs o=>solN sd (.eptr cs o)
 |_=>false
def V.plainR:V->Bool
 | .p _=>true
 | .eptr cs o=>solN sd (.eptr cs o)
 | .nils=>true
 | .agg cs=>cs.all V.plainB
 | .tup vs=>vs.all fun| .agg cs=>cs.all V.plainB|v=>v.plainB
 |_=>false
def rawR (v:V):Option V:=if v.outB=true then some v else none
def fzR (th:Bool) (S:St) (v:V):Option V:=if th=true then rawR v else freezeR S v
def resV (th:Bool) (S:St):RV->Option V
 | .tmp t=>fzR th S (getE S.env t)
 | .cell a n agg=>((q011 S (getE S.env a) n).bind (aggOr agg)).bind (fzR th S)
def resVs (th:Bool) (S:St):List RV->Option (List V)
 |[]=>some []
 |r::rs=>match resV th S r,resVs th S rs with|some x,some xs=>some (x::xs)|_,_=>none
def oneOr:List V->V
 |[v]=>v
 |vs=> .tup vs
def outR (S:St) (v:V):CR:=(v,if v.plainR=true/\S.dirty=[] then none else some (S.hp,S.dirty))
def q00w (base:Nat) (H:Heap):Nat->V->List Nat
 |d+1,.row id tot off len=>if base<=id then id::((elems H (.row id tot off len)).getD []).flatMap (fun e=>e.flatMap (q00w base H d)) else []
 |_,_=>[]
def q01d (S:St):V->List Nat
 | .agg cs=>cs.flatMap (q00w S.base S.hp deep)
 |v=>q00w S.base S.hp deep v
def q02e (S:St):List RV->List Nat
 |[]=>[]
 | .tmp t::rs=>q01d S (getE S.env t)++q02e S rs
 | .cell a n agg::rs=>(match (q011 S (getE S.env a) n).bind (aggOr agg) with|some v=>q01d S v|none=>[])++q02e S rs
def bury (H:Heap):List Nat->Heap
 |[]=>H
 |i::r=>bury (H.set i .dead) r
def q0a6 (th:Bool) (rs:List RV) (S:St):St:= {S with hp:=bury S.hp (if th=true then [] else q02e S rs)}
def q045 (th:Bool) (rs:List RV) (S:St):Option CR:=
 match resVs th S rs with
 |some vs=>some (outR (q0a6 th rs S) (oneOr vs))
 |none=>none
def q000 (n:Nat):List V->List (Nat×V)
 |[]=>[]
 |v::r=>(n,v)::q000 (n+1) r
def St.enter (args:List V) (H:Heap):St:= {env:=q000 0 args,loc:=[],hp:=H,base:=H.length,dirty:=[]}
abbrev EvT:=IC->St->Option (Ex×St)
abbrev ClT:=V->List V->Heap->Option CR
def q019:IC->Nat->Option IC
 | .seq a b,l=>match q019 a l with
   |some r=>some (.seq r b)
   |none=>q019 b l
 | .label l',l=>if l'=l then some .skip else none
 | .prep _ c,l=>q019 c l
 | .esc _ c,l=>q019 c l
 | .rsv _ c,l=>q019 c l
 |_,_=>none
def outL:V->V
 | .lptr _ _=> .undef
 |v=>v
def outE:List (Nat×V)->List (Nat×V)
 |[]=>[]
 |(t,v)::r=>(t,outL v)::outE r
def q0a7 (S:St) (H:Heap) (ds:List Nat):Option DObj->Option (Ex×St)
 |some (.loop .ready ..)=>some (.normal,{S with hp:=H.set S.hp.length .dead,dirty:=ds.foldr (addD S.base) S.dirty})
 |some (.loop (.done e) ..)=>some (e,{S with hp:=H.set S.hp.length .dead,dirty:=ds.foldr (addD S.base) S.dirty})
 |_=>none
def q03a (S:St):Option CR->Option (Ex×St)
 |some (_,some (H,ds))=>q0a7 S H ds H[S.hp.length]?
 |some (_,none)=>some (.normal,{S with hp:=S.hp++[DObj.dead]})
 |none=>none
def q03b (cl:ClT) (S:St) (ps:List Nat) (a b:IC) (x:V):Option (Ex×St):=
 match x with
 | .p (.fn f)=>q03a S (cl (.p (.fn f)) [.yld S.hp.length] (S.hp++[DObj.loop .ready (outE S.env) ps a b]))
 | .fn (.func f) u v=>q03a S (cl (.fn (.func f) u v) [.yld S.hp.length] (S.hp++[DObj.loop .ready (outE S.env) ps a b]))
 |_=>none
def bindE (e:List (Nat×V)):List Nat->List V->List (Nat×V)
 |p::ps,v::vs=>bindE ((p,v)::e) ps vs
 |_,_=>e
def q00m (ev:EvT) (cl:ClT):EvT
 | .skip,S=>some (.normal,S)
 | .label _,S=>some (.normal,S)
 | .reg _ ops ks kl,S=>(evOps cl ops S).map fun S'=>(.normal,S'.keep ks kl)
 | .seq a b,S=>(ev a S).bind fun (e,S')=>match e with
   | .normal=>ev b S'
   |e=>some (e,S')
 | .cond c a b,S=>match S.arg c with
   | .p (.bool t)=>if t then ev a S else ev b S
   |_=>none
 | .block id c,S=>(ev c S).map fun (e,S')=>if e= .exit id then (.normal,S') else (e,S')
 | .loop ks kl c,S=>(ev c (S.keep ks kl)).bind fun (e,S')=>match e with
   | .normal=>ev (.loop ks kl c) S'
   |e=>some (e,S')
 | .prep ts c,S=>ev c {S with loc:=prepL S.loc ts}
 | .esc ts c,S=>(escS S ts).bind (ev c)
 | .rsv ss c,S=>ev c {S with hp:=S.hp++ss.map fun s=>DObj.row s []}
 | .scope c,S=>ev (.scopeR c c) S
 | .scopeR c b,S=>(ev c S).bind fun (e,S')=>match e with
   | .goto l=>match q019 b l with
     |some r=>ev (.scopeR r b) S'
     |none=>some (.goto l,S')
   |e=>some (e,S')
 | .goto l,S=>some (.goto l,S)
 | .exit id,S=>some (.exit id,S)
 | .ret,S=>some (.ret,S)
 | .rangeFunc x ps a b,S=>q03b cl S ps a b (S.arg x)
def q0e7 (id:Nat) (e:Ex) (H:Heap) (ds:List Nat):Option DObj->Option CR
 |some (.loop .busy env ps a b)=>some (.p (.bool (decide (e= .normal))),some (H.set id (.loop (if e= .normal then .ready else .done e) env ps a b),ds))
 |_=>none
def q0a8 (id:Nat):Option (Ex×St)->Option CR
 |some (e,S)=>q0e7 id e S.hp S.dirty S.hp[id]?
 |none=>none
def q03c (ev:EvT) (id:Nat) (b:IC) (S:St):Option DObj->Option CR
 |some (.loop .ready env ps a b')=>q0a8 id (ev b {S with hp:=S.hp.set id (.loop .busy env ps a b'),dirty:=addD S.base id S.dirty})
 |_=>none
def q084 (ev:EvT) (id:Nat) (b:IC):Option (Ex×St)->Option CR
 |some (.normal,S)=>q03c ev id b S S.hp[id]?
 |_=>none
def q06w (ev:EvT) (id:Nat) (args:List V) (H:Heap):Option DObj->Option CR
 |some (.loop .ready env ps a b)=>if args.length=ps.length then q084 ev id b (ev a {env:=bindE env ps args,loc:=[],hp:=H,base:=H.length,dirty:=[]}) else none
 |_=>none
def q06x (ev:EvT) (id:Nat) (args:List V) (H:Heap):Option CR:=q06w ev id args H H[id]?
def runF (ev:EvT) (fn:IFn) (args:List V) (H:Heap):Option CR:=(ev fn.body (St.enter args H)).bind fun (e,S)=>match e with
 | .normal| .ret=>q045 fn.thaw fn.results S
 |_=>none
def q05c:List V->Bool
 |[.nils]=>true
 |[.p (.sl [])]=>true
 |[.row _ _ _ 0]=>true
 |[.vsl []]=>true
 |_=>false
def bareR:Option CR->Option CR->Option CR
 |some (.nils,none),some (.nils,none)=>some (.nils,none)
 |_,_=>none
def clStep (E:Env) (ev:EvT):ClT:=fun fv args H=>
 match fv with
 | .p (.fn f)=>go E ev f args H
 | .fn (.func f) first cap=>go E ev f (first++args++cap) H
 | .yld id=>q06x ev id args H
 |_=>none
 where
 go (E:Env) (ev:EvT) (f:FuncId) (args:List V) (H:Heap):Option CR:=
  match E.prims f with
  |some g=>g args H
  |none=>
   match E.fns f with
   |some fn=>if (fn.thaw&&q05c args)=true then bareR (runF ev fn [.mt true] H) (runF ev fn [.mt false] H) else runF ev fn args H
   |none=>none
def sys (E:Env):Nat->EvT×ClT
 |0=>(fun _ _=>none,fun _ _ _=>none)
 |n+1=>(q00m (sys E n).1 (sys E n).2,clStep E (sys E n).1)
def LeE (e e':EvT):Prop:= ∀c S r,e c S=some r->e' c S=some r
def LeC (c c':ClT):Prop:= ∀f a H r,c f a H=some r->c' f a H=some r
theorem q0px {cl cl':ClT} (h:LeC cl cl') (d:Option Nat) (i:Ins) (S:St) (r:St) (hr:evIns cl d i S=some r):evIns cl' d i S=some r:=by
 cases i with
 |call f args pure=>
  simp only [evIns,callI] at hr⊢
  split at hr
  ·rename_i hv
   rw [if_pos hv]
   cases hc:cl (.p (.fn f)) (args.map fun a=>normA (S.arg a)) S.hp with
   |none=>rw [hc] at hr;simp [callR] at hr
   |some x=>rw [hc] at hr;rw [h _ _ _ _ hc];exact hr
  ·cases hr
 |callv x args pure=>
  simp only [evIns,callI] at hr⊢
  split at hr
  ·rename_i hv
   rw [if_pos hv]
   cases hc:cl (S.arg x) (args.map fun a=>normA (S.arg a)) S.hp with
   |none=>rw [hc] at hr;simp [callR] at hr
   |some x=>rw [hc] at hr;rw [h _ _ _ _ hc];exact hr
  ·cases hr
 |callz f args=>
  simp only [evIns,callZ] at hr⊢
  split at hr
  ·rename_i hv
   rw [if_pos hv]
   cases hc:cl (.p (.fn f)) (args.map fun a=>normA (S.arg a)) [] with
   |none=>rw [hc] at hr;simp [zR,retS] at hr
   |some x=>rw [hc] at hr;rw [h _ _ _ _ hc];exact hr
  ·cases hr
 |_=>exact hr
theorem q0jy {cl cl':ClT} (h:LeC cl cl') (g:GIns) (S r:St) (hr:evG cl g S=some r):evG cl' g S=some r:=by
 simp only [evG] at hr⊢
 cases hw:wanted S g.guard with
 |none=>rw [hw] at hr;cases hr
 |some b=>
  rw [hw] at hr
  cases b with
  |true=>exact q0px h _ _ _ _ hr
  |false=>exact hr
theorem q08x {cl cl':ClT} (h:LeC cl cl'): ∀(l:List GIns) (S r:St),evOps cl l S=some r->evOps cl' l S=some r
 |[],_,_,hr=>hr
 |g::l,S,r,hr=>by
  simp only [evOps] at hr⊢
  cases hg:evG cl g S with
  |none=>rw [hg] at hr;cases hr
  |some S'=>
   rw [hg] at hr
   rw [q0jy h g S S' hg]
   exact q08x h l S' r hr
theorem q03z {S:St} {q:Option CR} {r:Ex×St} (h:q03a S q=some r): ∃x,q=some x:=by
 unfold q03a at h;split at h
 ·exact ⟨_,rfl⟩
 ·exact ⟨_,rfl⟩
 ·cases h
theorem q0nc {c c':ClT} (hc:LeC c c') {S:St} {ps:List Nat} {a b:IC} {x:V} {r:Ex×St} (h:q03b c S ps a b x=some r):q03b c' S ps a b x=some r:=by
 unfold q03b at h⊢
 split at h
 ·obtain ⟨x,hx⟩:=q03z h;rw [hc _ _ _ _ hx];rw [hx] at h;exact h
 ·obtain ⟨x,hx⟩:=q03z h;simp only [hc _ _ _ _ hx];rw [hx] at h;exact h
 ·cases h
theorem q0cj {e e':EvT} {c c':ClT} (he:LeE e e') (hc:LeC c c'):LeE (q00m e c) (q00m e' c'):=by
 intro code S r hr
 cases code with
 |skip=>exact hr
 |label l=>exact hr
 |exit id=>exact hr
 |ret=>exact hr
 |goto l=>exact hr
 |scope a=>exact he _ _ _ hr
 |scopeR a b=>
  simp only [q00m] at hr⊢
  cases ha:e a S with
  |none=>rw [ha] at hr;cases hr
  |some x=>
   obtain ⟨x,S'⟩:=x
   rw [ha] at hr;rw [he _ _ _ ha]
   simp only [Ze] at hr⊢
   cases x with
   |goto l=>
    simp only at hr⊢
    split at hr
    ·exact he _ _ _ hr
    ·exact hr
   |_=>exact hr
 |prep ts a=>exact he _ _ _ hr
 |rsv ss a=>exact he _ _ _ hr
 |esc ts a=>
  simp only [q00m] at hr⊢
  cases hs:escS S ts with
  |none=>rw [hs] at hr;cases hr
  |some T=>rw [hs] at hr;exact he _ _ _ hr
 |rangeFunc x ps a b=>exact q0nc hc hr
 |reg d ops ks kl=>
  simp only [q00m] at hr⊢
  cases ho:evOps c ops S with
  |none=>rw [ho] at hr;cases hr
  |some S'=>rw [ho] at hr;rw [q08x hc ops S S' ho];exact hr
 |seq a b=>
  simp only [q00m] at hr⊢
  cases ha:e a S with
  |none=>rw [ha] at hr;cases hr
  |some x=>
   obtain ⟨x,S'⟩:=x
   rw [ha] at hr;rw [he _ _ _ ha]
   cases x<;>simp at hr⊢ <;>first|exact he _ _ _ hr|exact hr
 |cond x a b=>
  simp only [q00m] at hr⊢
  split at hr
  ·split at hr<;>simp_all<;>exact he _ _ _ hr
  ·cases hr
 |block id a=>
  simp only [q00m] at hr⊢
  cases ha:e a S with
  |none=>rw [ha] at hr;cases hr
  |some x=>rw [ha] at hr;rw [he _ _ _ ha];exact hr
 |loop ks kl a=>
  simp only [q00m] at hr⊢
  cases ha:e a (S.keep ks kl) with
  |none=>rw [ha] at hr;cases hr
  |some x=>
   obtain ⟨x,S'⟩:=x
   rw [ha] at hr;rw [he _ _ _ ha]
   cases x<;>simp at hr⊢ <;>first|exact he _ _ _ hr|exact hr
theorem q067 {e e':EvT} (he:LeE e e') {fn:IFn} {args:List V} {H:Heap} {r:CR} (hr:runF e fn args H=some r):runF e' fn args H=some r:=by
 simp only [runF] at hr⊢
 cases hb:e fn.body (St.enter args H) with
 |none=>rw [hb] at hr;cases hr
 |some x=>rw [hb] at hr;rw [he _ _ _ hb];exact hr
theorem q08y {a b:Option CR} {r:CR} (h:bareR a b=some r):a=some (.nils,none)/\b=some (.nils,none)/\r=(.nils,none):=by
 unfold bareR at h;split at h
 ·simp at h;exact ⟨rfl,rfl,h.symm⟩
 ·cases h
theorem q0oe {E:Env} {e e':EvT} (he:LeE e e') (f:FuncId) (args:List V) (H:Heap) (r:CR)
  (hr:clStep.go E e f args H=some r):clStep.go E e' f args H=some r:=by
 simp only [clStep.go] at hr⊢
 split at hr
 ·exact hr
 ·split at hr
  ·rename_i fn _
   split at hr
   ·obtain ⟨h1,h2,rfl⟩:=q08y hr
    rw [q067 he h1,q067 he h2];simp_all [bareR]
   ·simp_all [q067 he hr]
  ·cases hr
theorem q0ck {id:Nat} {q:Option (Ex×St)} {r:CR} (h:q0a8 id q=some r): ∃x,q=some x:=by
 cases q with
 |none=>cases h
 |some x=>exact ⟨x,rfl⟩
theorem q0cl {e e':EvT} (he:LeE e e') {id:Nat} {b:IC} {S:St} {o:Option DObj} {r:CR} (h:q03c e id b S o=some r):q03c e' id b S o=some r:=by
 unfold q03c at h⊢
 split at h
 ·obtain ⟨x,hx⟩:=q0ck h;rw [hx] at h;rw [he _ _ _ hx];exact h
 ·cases h
theorem q0nd {e:EvT} {id:Nat} {b:IC} {q:Option (Ex×St)} {r:CR} (h:q084 e id b q=some r): ∃S,q=some (.normal,S)/\q03c e id b S S.hp[id]? =some r:=by
 unfold q084 at h;split at h
 ·exact ⟨_,rfl,h⟩
 ·cases h
theorem q07v {e:EvT} {id:Nat} {args:List V} {H:Heap} {o:Option DObj} {r:CR} (h:q06w e id args H o=some r):
  ∃env ps a b S,o=some (.loop .ready env ps a b)/\args.length=ps.length/\e a {env:=bindE env ps args,loc:=[],hp:=H,base:=H.length,dirty:=[]}=some (.normal,S)/\q03c e id b S S.hp[id]? =some r:=by
 unfold q06w at h;split at h
 ·split at h
  ·obtain ⟨S,h1,h2⟩:=q0nd h;exact ⟨_,_,_,_,S,rfl,by assumption,h1,h2⟩
  ·cases h
 ·cases h
theorem q0he {e:EvT} {id:Nat} {args:List V} {H:Heap} {env:List (Nat×V)} {ps:List Nat} {a b:IC} {S:St} (h1:args.length=ps.length)
  (h2:e a {env:=bindE env ps args,loc:=[],hp:=H,base:=H.length,dirty:=[]}=some (.normal,S)):q06w e id args H (some (.loop .ready env ps a b))=q03c e id b S S.hp[id]? :=by
 simp only [q06w,if_pos h1,h2,q084]
theorem q0ne {e e':EvT} (he:LeE e e') {id:Nat} {args:List V} {H:Heap} {r:CR} (h:q06x e id args H=some r):q06x e' id args H=some r:=by
 unfold q06x at h⊢
 obtain ⟨env,ps,a,b,S,h1,h2,h3,h4⟩:=q07v h
 rw [h1,q0he h2 (he _ _ _ h3)]
 exact q0cl he h4
theorem q0cm {E:Env} {e e':EvT} (he:LeE e e'):LeC (clStep E e) (clStep E e'):=by
 intro f args H r hr
 simp only [clStep] at hr⊢
 split at hr
 ·exact q0oe he _ _ _ _ hr
 ·exact q0oe he _ _ _ _ hr
 ·exact q0ne he hr
 ·cases hr
theorem q06y (E:Env): ∀n,LeE (sys E n).1 (sys E (n+1)).1/\LeC (sys E n).2 (sys E (n+1)).2
 |0=>⟨fun _ _ _ h=>by simp [sys] at h,fun _ _ _ _ h=>by simp [sys] at h⟩
 |n+1=>⟨q0cj (q06y E n).1 (q06y E n).2,q0cm (q06y E n).1⟩
theorem q032 (E:Env) {m n:Nat} (h:m<=n):LeE (sys E m).1 (sys E n).1/\LeC (sys E m).2 (sys E n).2:=by
 induction h with
 |refl=>exact ⟨fun _ _ _ h=>h,fun _ _ _ _ h=>h⟩
 |step _ ih=>exact ⟨fun c S r h=>(q06y E _).1 _ _ _ (ih.1 c S r h),fun f a H r h=>(q06y E _).2 _ _ _ _ (ih.2 f a H r h)⟩
open Classical in
noncomputable def lim {α:Type} (g:Nat->Option α):Option α:=if h: ∃n,(g n).isSome=true then g h.choose else none
theorem q0jz {α:Type} {g:Nat->Option α} (hm: ∀m n r,m<=n->g m=some r->g n=some r) (r:α):lim g=some r↔ ∃n,g n=some r:=by
 unfold lim
 constructor
 ·intro h
  split at h
  ·exact ⟨_,h⟩
  ·cases h
 ·rintro ⟨n,hn⟩
  have h: ∃n,(g n).isSome=true:=⟨n,by simp [hn]⟩
  rw [dif_pos h]
  have hs:=h.choose_spec
  cases hc:g h.choose with
  |none=>rw [hc] at hs;cases hs
  |some r'=>
   have h1:=hm _ (max n h.choose) r' (Nat.le_max_right ..) hc
   have h2:=hm _ (max n h.choose) r (Nat.le_max_left ..) hn
   rw [h1] at h2;exact h2
noncomputable def evD (E:Env):EvT:=fun c S=>lim fun n=>(sys E n).1 c S
noncomputable def clD (E:Env):ClT:=fun f a H=>lim fun n=>(sys E n).2 f a H
theorem q01q (E:Env) (c:IC) (S:St) (r:Ex×St):evD E c S=some r↔ ∃n,(sys E n).1 c S=some r:=
 q0jz (fun _ _ _ h hm=>(q032 E h).1 _ _ _ hm) r
theorem q03d (E:Env) (f:V) (a:List V) (H:Heap) (r:CR):clD E f a H=some r↔ ∃n,(sys E n).2 f a H=some r:=
 q0jz (fun _ _ _ h hm=>(q032 E h).2 _ _ _ _ hm) r
theorem q0e8 (E:Env) (n:Nat):LeE (sys E n).1 (evD E):=fun c S r h=>(q01q E c S r).2 ⟨n,h⟩
theorem q0py (E:Env) (n:Nat):LeC (sys E n).2 (clD E):=fun f a H r h=>(q03d E f a H r).2 ⟨n,h⟩
theorem q0rs (E:Env) (d:Option Nat) (i:Ins) (S r:St) (hr:evIns (clD E) d i S=some r): ∃n,evIns (sys E n).2 d i S=some r:=by
 cases i with
 |call f args pure=>
  simp only [evIns,callI] at hr⊢
  split at hr
  ·rename_i hv
   cases hc:clD E (.p (.fn f)) (args.map fun a=>normA (S.arg a)) S.hp with
   |none=>rw [hc] at hr;simp [callR] at hr
   |some x=>rw [hc] at hr;obtain ⟨n,hn⟩:=(q03d ..).1 hc;exact ⟨n,by rw [if_pos hv,hn];exact hr⟩
  ·cases hr
 |callv x args pure=>
  simp only [evIns,callI] at hr⊢
  split at hr
  ·rename_i hv
   cases hc:clD E (S.arg x) (args.map fun a=>normA (S.arg a)) S.hp with
   |none=>rw [hc] at hr;simp [callR] at hr
   |some x=>rw [hc] at hr;obtain ⟨n,hn⟩:=(q03d ..).1 hc;exact ⟨n,by rw [if_pos hv,hn];exact hr⟩
  ·cases hr
 |callz f args=>
  simp only [evIns,callZ] at hr⊢
  split at hr
  ·rename_i hv
   cases hc:clD E (.p (.fn f)) (args.map fun a=>normA (S.arg a)) [] with
   |none=>rw [hc] at hr;simp [zR,retS] at hr
   |some x=>rw [hc] at hr;obtain ⟨n,hn⟩:=(q03d ..).1 hc;exact ⟨n,by rw [if_pos hv,hn];exact hr⟩
  ·cases hr
 |_=>exact ⟨0,hr⟩
theorem q0zg (E:Env) (g:GIns) (S r:St) (hr:evG (clD E) g S=some r): ∃n,evG (sys E n).2 g S=some r:=by
 simp only [evG] at hr⊢
 split at hr
 ·rename_i h;obtain ⟨n,hn⟩:=q0rs E _ _ _ _ hr;exact ⟨n,hn⟩
 ·exact ⟨0,hr⟩
 ·cases hr
theorem q0hf (E:Env): ∀(l:List GIns) (S r:St),evOps (clD E) l S=some r-> ∃n,evOps (sys E n).2 l S=some r
 |[],_,_,hr=>⟨0,hr⟩
 |g::l,S,r,hr=>by
  simp only [evOps] at hr⊢
  cases hg:evG (clD E) g S with
  |none=>rw [hg] at hr;cases hr
  |some S'=>
   rw [hg] at hr
   obtain ⟨n,hn⟩:=q0zg E g S S' hg
   obtain ⟨m,hm⟩:=q0hf E l S' r hr
   refine ⟨max n m,?_⟩
   rw [q0jy (q032 E (Nat.le_max_left n m)).2 g S S' hn]
   exact q08x (q032 E (Nat.le_max_right n m)).2 l S' r hm
theorem q02o (E:Env) (c:IC) (S:St):evD E c S=q00m (evD E) (clD E) c S:=by
 apply Option.ext
 intro r
 constructor
 ·intro h
  obtain ⟨n,hn⟩:=(q01q ..).1 h
  cases n with
  |zero=>simp [sys] at hn
  |succ n=>exact q0cj (q0e8 E n) (q0py E n) _ _ _ hn
 ·intro h
  suffices hs: ∃n,q00m (sys E n).1 (sys E n).2 c S=some r by
   obtain ⟨n,hn⟩:=hs
   exact (q01q ..).2 ⟨n+1,hn⟩
  cases c with
  |skip=>exact ⟨0,h⟩
  |label l=>exact ⟨0,h⟩
  |exit id=>exact ⟨0,h⟩
  |ret=>exact ⟨0,h⟩
  |goto l=>exact ⟨0,h⟩
  |scope a=>obtain ⟨n,hn⟩:=(q01q ..).1 h;exact ⟨n,hn⟩
  |scopeR a b=>
   simp only [q00m] at h⊢
   cases ha:evD E a S with
   |none=>rw [ha] at h;cases h
   |some x=>
    obtain ⟨x,S'⟩:=x
    rw [ha] at h
    obtain ⟨n,hn⟩:=(q01q ..).1 ha
    simp only [Ze] at h
    cases x with
    |goto l=>
     simp only at h
     split at h
     ·rename_i p hp
      obtain ⟨m,hm⟩:=(q01q ..).1 h
      refine ⟨max n m,?_⟩
      rw [(q032 E (Nat.le_max_left n m)).1 _ _ _ hn]
      simp only [Ze,hp]
      exact (q032 E (Nat.le_max_right n m)).1 _ _ _ hm
     ·rename_i hp
      exact ⟨n,by rw [hn];simp only [Ze,hp];exact h⟩
    |normal=>exact ⟨n,by rw [hn];exact h⟩
    |exit id=>exact ⟨n,by rw [hn];exact h⟩
    |ret=>exact ⟨n,by rw [hn];exact h⟩
  |prep ts a=>obtain ⟨n,hn⟩:=(q01q ..).1 h;exact ⟨n,hn⟩
  |rsv ss a=>obtain ⟨n,hn⟩:=(q01q ..).1 h;exact ⟨n,hn⟩
  |esc ts a=>
   simp only [q00m] at h⊢
   cases hs:escS S ts with
   |none=>rw [hs] at h;cases h
   |some T=>rw [hs] at h;obtain ⟨n,hn⟩:=(q01q ..).1 h;exact ⟨n,hn⟩
  |rangeFunc x ps a b=>
   simp only [q00m] at h⊢
   unfold q03b at h⊢
   split at h
   ·rename_i hx
    obtain ⟨y,hy⟩:=q03z h
    obtain ⟨n,hn⟩:=(q03d ..).1 hy
    exact ⟨n,by rw [hn];rw [hy] at h;exact h⟩
   ·rename_i hx
    obtain ⟨y,hy⟩:=q03z h
    obtain ⟨n,hn⟩:=(q03d ..).1 hy
    exact ⟨n,by rw [hn];rw [hy] at h;exact h⟩
   ·cases h
  |reg d ops ks kl=>
   simp only [q00m] at h⊢
   cases ho:evOps (clD E) ops S with
   |none=>rw [ho] at h;cases h
   |some S'=>rw [ho] at h;obtain ⟨n,hn⟩:=q0hf E ops S S' ho;exact ⟨n,by rw [hn];exact h⟩
  |seq a b=>
   simp only [q00m] at h⊢
   cases ha:evD E a S with
   |none=>rw [ha] at h;cases h
   |some x=>
    obtain ⟨x,S'⟩:=x
    rw [ha] at h
    obtain ⟨n,hn⟩:=(q01q ..).1 ha
    cases x with
    |normal=>
     simp at h
     obtain ⟨m,hm⟩:=(q01q ..).1 h
     refine ⟨max n m,?_⟩
     rw [(q032 E (Nat.le_max_left n m)).1 _ _ _ hn]
     exact (q032 E (Nat.le_max_right n m)).1 _ _ _ hm
    |exit id=>exact ⟨n,by rw [hn];exact h⟩
    |goto id=>exact ⟨n,by rw [hn];exact h⟩
    |ret=>exact ⟨n,by rw [hn];exact h⟩
  |cond x a b=>
   simp only [q00m] at h⊢
   split at h
   ·split at h
    ·obtain ⟨n,hn⟩:=(q01q ..).1 h;exact ⟨n,by simp [*]⟩
    ·obtain ⟨n,hn⟩:=(q01q ..).1 h;exact ⟨n,by simp [*]⟩
   ·cases h
  |block id a=>
   simp only [q00m] at h⊢
   cases ha:evD E a S with
   |none=>rw [ha] at h;cases h
   |some x=>rw [ha] at h;obtain ⟨n,hn⟩:=(q01q ..).1 ha;exact ⟨n,by rw [hn];exact h⟩
  |loop ks kl a=>
   simp only [q00m] at h⊢
   cases ha:evD E a (S.keep ks kl) with
   |none=>rw [ha] at h;cases h
   |some x=>
    obtain ⟨x,S'⟩:=x
    rw [ha] at h
    obtain ⟨n,hn⟩:=(q01q ..).1 ha
    cases x with
    |normal=>
     simp at h
     obtain ⟨m,hm⟩:=(q01q ..).1 h
     refine ⟨max n m,?_⟩
     rw [(q032 E (Nat.le_max_left n m)).1 _ _ _ hn]
     exact (q032 E (Nat.le_max_right n m)).1 _ _ _ hm
    |exit id=>exact ⟨n,by rw [hn];exact h⟩
    |goto id=>exact ⟨n,by rw [hn];exact h⟩
    |ret=>exact ⟨n,by rw [hn];exact h⟩
theorem q0de {E:Env} {fn:IFn} {args:List V} {H:Heap} {r:CR} (h:runF (evD E) fn args H=some r): ∃n,runF (sys E n).1 fn args H=some r:=by
 simp only [runF] at h⊢
 cases hb:evD E fn.body (St.enter args H) with
 |none=>rw [hb] at h;cases h
 |some x=>rw [hb] at h;obtain ⟨n,hn⟩:=(q01q ..).1 hb;exact ⟨n,by rw [hn];exact h⟩
theorem q0rt (E:Env) (f:FuncId) (args:List V) (H:Heap) (r:CR) (h:clStep.go E (evD E) f args H=some r): ∃n,clStep.go E (sys E n).1 f args H=some r:=by
 simp only [clStep.go] at h⊢
 split at h
 ·exact ⟨0,h⟩
 ·split at h
  ·rename_i fn _
   split at h
   ·rename_i hc
    obtain ⟨h1,h2,rfl⟩:=q08y h
    obtain ⟨n1,k1⟩:=q0de h1
    obtain ⟨n2,k2⟩:=q0de h2
    refine ⟨max n1 n2,?_⟩
    rw [if_pos hc,q067 (q032 E (Nat.le_max_left n1 n2)).1 k1,q067 (q032 E (Nat.le_max_right n1 n2)).1 k2];rfl
   ·rename_i hc
    obtain ⟨n,hn⟩:=q0de h
    exact ⟨n,by rw [if_neg hc];exact hn⟩
  ·cases h
theorem q0pz {E:Env} {id:Nat} {b:IC} {S:St} {o:Option DObj} {r:CR} (h:q03c (evD E) id b S o=some r): ∃n,q03c (sys E n).1 id b S o=some r:=by
 unfold q03c at h⊢
 split at h
 ·obtain ⟨x,hx⟩:=q0ck h
  obtain ⟨n,hn⟩:=(q01q ..).1 hx
  exact ⟨n,by rw [hn];rw [hx] at h;exact h⟩
 ·cases h
theorem q0q0 {E:Env} {id:Nat} {args:List V} {H:Heap} {r:CR} (h:q06x (evD E) id args H=some r): ∃n,q06x (sys E n).1 id args H=some r:=by
 unfold q06x at h⊢
 obtain ⟨env,ps,a,b,S,h1,h2,h3,h4⟩:=q07v h
 obtain ⟨n,hn⟩:=(q01q ..).1 h3
 obtain ⟨m,hm⟩:=q0pz h4
 refine ⟨max n m,?_⟩
 rw [h1,q0he h2 ((q032 E (Nat.le_max_left n m)).1 _ _ _ hn)]
 exact q0cl (q032 E (Nat.le_max_right n m)).1 hm
theorem q0k0 (E:Env) (f:V) (args:List V) (H:Heap):clD E f args H=clStep E (evD E) f args H:=by
 apply Option.ext
 intro r
 constructor
 ·intro h
  obtain ⟨n,hn⟩:=(q03d ..).1 h
  cases n with
  |zero=>simp [sys] at hn
  |succ n=>exact q0cm (q0e8 E n) _ _ _ _ hn
 ·intro h
  suffices hs: ∃n,clStep E (sys E n).1 f args H=some r by
   obtain ⟨n,hn⟩:=hs
   exact (q03d ..).2 ⟨n+1,hn⟩
  simp only [clStep] at h⊢
  split at h
  ·exact q0rt E _ _ _ _ h
  ·exact q0rt E _ _ _ _ h
  ·exact q0q0 h
  ·cases h
end Go.Eng
