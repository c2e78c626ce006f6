import Derived.Calls
import Derived.KernelRfl
import Derived.Below
import Derived.Shelf.Strings.BuilderF
import Derived.Shelf.Strings.BuilderCap
import Derived.Deep.MidRow
import Derived.Laws.Entries
import Derived.Laws.Strings
import Derived.Laws.StructEq

/-! An abstract machine over plain data, shown to be sound for the given program model: what it tells is what the call does. -/
set_option linter.unusedSimpArgs false
set_option linter.unusedVariables false
set_option linter.unusedSectionVars false

open Array renaming getElem?_modify->Nh,getElem?_eq_none->N_,getElem?_toList->Oi,getElem?_push->Oq,length_toList->OW,ext'->Qg
open BitVec renaming ofInt->NK
open Bool renaming and_eq_true->MP,not_eq_true'->Oa
open Go.Addr renaming add_mid->MS
open Go.Builtin renaming unsafeSliceData_->Oz
open Go.ByteArray renaming toList_eq->Np
open Go.Instr renaming sliceBounds->MX,sureAddr->NH,sliceAt->N7,alloc->Ob,indexAt->Oo,fieldAt->OB,index->OX,storeAt->OZ,loadAt->O_,sliceBound->Pj,field->P8,slice->P9
open Go.IntKind renaming signed->PO,u8->PV,bits->PX,i64->P_,max->Qa,min->Qb
open Go.Lib renaming cell_of_heap->Nl,byteCells_length->Nw,byteCells->OC
open Go.Lib.BuilderAtF renaming put->Qe
open Go.Op renaming equalIn->Na,bytesLess->Ou,intCmp->OH,equal->OM,intBits->O7,eqGuardIn->Pg,eqFields->Pq,intArith->Pv,maxDepth->Px
open Go.Program renaming cellsOf->Py
open Go.Proofs.Body renaming n169_ntmps->Pz
open Go.Proofs.Builder renaming Extra->PW
open Go.Region renaming binds->OI,Mode->Qc
open Go.Result renaming andThen_ok->MN
open Go.RowKit.Below renaming heap_setCell->N8
open Go.Sem renaming run_bind->MO,run_pure->NC
open Go.Value renaming ownBlock->Nc,cells->PD,int->PE
open Go.World renaming cell?_of_block->MR,cell?_setCells_out->Ny,setCell->NR,block_lt_of_cell?->OD,cell?_setCells_in->OE,setCells->PS,freeze->PY,cell?->Qd
open Int renaming instDecidableEq->OY,tmod_nonneg->PG,le_total->PZ,le_trans->P5
open List renaming drop_eq_nil_of_le->MW,append_assoc->MZ,length->M_,drop_append->Nb,getElem?_eq_getElem->Nj,length_append->Nk,nil_append->Nq,getElem?_drop->Nr,replicate->Nu,take_append->NG,take_of_length_le->NI,getElem?_take->NJ,getElem?_append_right->NS,getElem?_append_left->NU,length_drop->NV,length_take->NW,range->NY,mem_append->N9,range'->Oc,drop_take->Og,take_left->Oh,eq_nil_of_length_eq_zero->Ol,mem_cons_of_mem->Om,drop_eq_getElem_cons->Ov,size_toArray->OA,append_eq_nil_iff->OG,append_nil->OJ,getElem?_append->OU,drop_drop->OV,map_cons->O1,map_inj_right->O4,mem_cons->O5,mem_cons_self->O6,ext_getElem?->O8,all_eq_true->Pm,cons_append->Pn,append->PI,foldl_cons->PL,drop_left->PU,isEmpty->P6
open Nat renaming eq_of_beq_eq_true->ML,beq->MQ,add_assoc->MV,add_zero->Ns,le_refl->Nv,blt->NM,zero_add->NP,zero_le->NQ,le_trans->NZ,le_of_ble_eq_true->Oj,add_mul->Ot,ble->Ox,blt_eq->O9,lt_or_ge->Ph,min_eq_left->PN
open Ne renaming symm->Oy
open Option renaming isSome_iff_exists->Nz,getD_some->Po
open Option.some renaming inj->MK,injEq->Oe
open Prod.mk renaming inj->ND
open Std.Legacy.Range renaming forIn_eq_forIn_range'->OQ,size->P7
open UInt8 renaming toNat_inj->OL
section
namespace Go.AM
inductive Ty where
 |int (k:IntKind)|bool|str
 |lst (t:Ty)|arr (n:Nat) (t:Ty)
 |unit|pair (a b:Ty)
 deriving DecidableEq
def Ty.den:Ty->Type
 | .int _=>Int
 | .bool=>Bool
 | .str=>List Int
 | .lst t=>List t.den
 | .arr _ t=>List t.den
 | .unit=>Unit
 | .pair a b=>a.den×b.den
def Ty.size:Ty->Nat
 | .arr n t=>n*t.size
 | .unit=>0
 | .pair a b=>a.size+b.size
 |_=>1
def Ty.zero:(t:Ty)->t.den
 | .int _=>(0:Int)
 | .bool=>false
 | .str=>([]:List Int)
 | .lst t=>([]:List t.den)
 | .arr n t=>(Nu n t.zero:List t.den)
 | .unit=>()
 | .pair a b=>(a.zero,b.zero)
def Ty.flat:Ty->Bool
 | .lst _=>false
 | .arr _ t=>t.flat
 | .pair a b=>a.flat&&b.flat
 |_=>true
def Ty.st:List Ty->Ty
 |[]=> .unit
 |[a]=>a
 |a::b::r=> .pair a (Ty.st (b::r))
class Tabs where
 tab:Nat->Option ((t:Ty)×t.den)
 good:World->Prop
 gs:List Nat
 lt: ∀w,good w-> ∀g∈gs,g<w.heap.size
 keep: ∀w w',good w->(∀g∈gs,w'.heap[g]?=w.heap[g]?)->good w'
@[reducible] def Tabs.nil:Tabs:=⟨fun _=>none,fun _=>True,[],fun _ _ _ h=>(by cases h),fun _ _ _ _=>trivial⟩
def rd{α:Type}(d:α)(xs:List α)(i:Int):α:=xs.getD i.toNat d
def Ty.DF:(t:Ty)->t.den->t.den->Bool
 | .int _,x,y=> @decide (@Eq Int x y) (OY x y)
 | .bool,x,y=> @BEq.beq Bool _ x y
 | .str,x,y=> @decide (@Eq (List Int) x y) (instDecidableEqList x y)
 | .lst _,_,_=>false
 | .arr n t,x,y=>(NY n).all fun i=>t.DF (rd t.zero x i) (rd t.zero y i)
 | .unit,_,_=>true
 | .pair a b,x,y=>a.DF x.1 y.1&&b.DF x.2 y.2
def Ty.B_:Ty->Bool
 | .lst _=>false
 | .arr _ t=>t.B_
 | .pair a b=>a.B_&&b.B_
 |_=>true
inductive jq where
 |ix (i:Int) (z:Nat) (m:Option Nat)
 |off (d:Nat)
inductive AV where
 |junk
 |int (k:IntKind) (n:Int)
 |bool (b:Bool)
 |str (s:List Int)
 |lst (t:Ty) (xs:List t.den)
 |iO (t:Ty) (xs:List t.den)
 |arr (n:Nat) (t:Ty) (xs:List t.den)
 |row (t:Ty) (xs:List t.den)
 |rp (t:Ty) (x:t.den) (o:Nat)
 |ptr (b v o:Nat) (path:List jq)
 |own (b v:Nat) (t:Ty)
 |slc (b v o:Nat) (m:Option Nat) (t:Ty) (i n:Int)
 | kP (b v n : Nat)   -- a slice of n elements of one cell each, that are no plain data
 |aC|nilPtr|nilFn|nilIface
 |fn (f:Fn) (first cap:List AV)
 |iface (t:TypeId) (v:AV)
 |agg (ps:List AV)
 |gG (vs:List AV)
def AV.size:AV->Nat
 | .arr n t _=>n*t.size
 | .row t xs=>xs.length*t.size
 |_=>1
def AV.parts:AV->List AV
 | .agg ps=>ps
 |v=>[v]
def inj:(t:Ty)->t.den->List AV
 | .int k,x=>[.int k x]
 | .bool,x=>[.bool x]
 | .str,x=>[.str x]
 | .lst t,x=>[.lst t x]
 | .arr n t,x=>[.arr n t x]
 | .unit,_=>[]
 | .pair a b,x=>inj a x.1++inj b x.2
def pack:(t:Ty)->List AV->Option (t.den×List AV)
 | .int k,.int k' n::r=>if k'=k then some (n,r)else none
 | .bool,.bool b::r=>some (b,r)
 | .str,.str s::r=>some (s,r)
 | .lst t,.lst t' xs::r=>if h:t'=t then some ((h▸xs:List t.den),r)else none
 | .lst t,.aC::r=>some (([]:List t.den),r)
 | .arr n t,.arr n' t' xs::r=>if h:t'=t then(if n'=n then some ((h▸xs:List t.den),r)else none)else none
 | .unit,r=>some ((),r)
 | .pair a b,r=>match pack a r with
  |some (x,r')=>match pack b r' with
   |some (y,r'')=>some ((x,y),r'')
   |none=>none
  |none=>none
 |_,_=>none
def ay(t:Ty)(ps:List AV):Option t.den:=
 match pack t ps with
 |some (x,[])=>some x
 |_=>none
inductive F (β:Type):Type 1 where
 |ret (b:β)
 |fail
 |guard (c:Bool) (k:F β)
 |ite (c:Bool) (a b:F β)
 |call {γ:Type} (d:γ) (x:Option γ) (k:γ->F β)
def F.bind{β δ:Type}:F β->(β->F δ)->F δ
 | .ret b,f=>f b
 | .fail,_=> .fail
 | .guard c k,f=> .guard c (k.bind f)
 | .ite c a b,f=> .ite c (a.bind f) (b.bind f)
 | .call d x k,f=> .call d x fun g=>(k g).bind f
def F.run{β α:Type}:F β->(β->Option α)->Option α
 | .ret b,K=>K b
 | .fail,_=>none
 | .guard c k,K=>bif c then k.run K else none
 | .ite c a b,K=>bif c then a.run K else b.run K
 | .call _ x k,K=>x.bind fun g=>(k g).run K
inductive Dir where|l|r deriving DecidableEq
abbrev Path:=List Dir
inductive Jump where
 |ret
 |exit (id:Nat)
 deriving DecidableEq
inductive aP where
 |code (p:Path)
 |inBlock (id:Nat)
 |inLoop (p:Path)
 |inScope (p:Path)
 |inRegion (p:Path) (is:List Nat)
 |inRange (l:Nat)
 |bF (l:Nat)
 |beginRound
 |jmp (j:Jump)
 deriving DecidableEq
abbrev Env:=List (Nat×AV)
def Env.get:Env->Nat->AV
 |[],_=> .junk
 |(i,v)::r,t=>bif MQ i t then v else Env.get r t
inductive gI where
 |cells (ver:Nat) (ro:Bool) (ps:List AV)
 |loop (st:LoopState) (pend:Option Jump) (fn:FuncId) (env:Env) (params:List Nat) (p:Path) (defs:Nat)
 |deferred (taken:Bool)
 |iZ (T e:Nat) (xs:List Int)
abbrev Hp:=List (Nat×gI)
def Hp.get:Hp->Nat->Option gI
 |[],_=>none
 |(i,v)::r,b=>bif MQ i b then some v else Hp.get r b
structure May where
 t:Nat
 tg:Nat
 want:Bool
 g:Bool
 v:AV
inductive dP where
 |mark (b:Nat)
 |call (f:FuncId) (args:List AV)
def dP.key:dP->Bool×Nat×Nat
 | .mark b=>(false,b,0)
 | .call f args=>(true,f,args.length)
def dP.vals:dP->List AV
 | .mark _=>[]
 | .call _ args=>args
structure aA where
 fn:FuncId
 env:Env
 aI:List May
 items:List aP
 round:Option Nat:=none
 marks:List dP:=[]
 un:Option (List (AV×Bool)):=none
 dk:Bool:=false
def aX:Nat:=1000000
structure St where
 frames:List aA
 hp:Hp
 nx:Nat
structure He where
 γ:Type
 dflt:γ
 x:Option γ
 enc:γ->AV×List (Nat×gI)
def child:Code->Dir->Code
 | .seq a _,.l=>a
 | .seq _ b,.r=>b
 | .cond _ a _,.l=>a
 | .cond _ _ b,.r=>b
 | .block _ c,_=>c
 | .loop c,_=>c
 | .scope c,_=>c
 | .rangeFunc _ _ a _,.l=>a
 | .rangeFunc _ _ _ b,.r=>b
 |_,_=> .skip
def uI(P:Program)(f:FuncId):Code:=
 match P.funcs[f]? with
 |some fn=>(match fn.body with|some c=>c|none=> .skip)
 |none=> .skip
def aU(P:Program)(f:FuncId)(p:Path):Code:=p.foldl child (uI P f)
def qQ:List Field->List Ty->Nat->Bool
 |[],[],_=>true
 |f::fs,t::ts,o=>MQ f.offset o&&qQ fs ts (o+t.size)
 |_,_,_=>false
def sized(P:Program)(t:TypeId)(ty:Ty):Option Ty:=bif MQ (P.cellsOf t) ty.size then some ty else none
def ig{α β:Type}(f:α->Option β):List α->Option (List β)
 |[]=>some []
 |a::r=>match f a with
  |some b=>(match ig f r with|some l=>some (b::l)|none=>none)
  |none=>none
def bU(P:Program):Nat->TypeId->Option Ty
 |0,_=>none
 |n+1,t=>match P.underlying t with
  |some .bool=>sized P t .bool
  |some (.int k)=>sized P t (.int k)
  |some .string=>sized P t .str
  |some (.slice e)=>(match bU P n e with|some ty=>sized P t (.lst ty)|none=>none)
  |some (.array m e)=>(match bU P n e with|some ty=>sized P t (.arr m ty)|none=>none)
  |some (.struct fs)=>(match ig (fun f=>bU P n f.type) fs.toList with
   |some l=>bif qQ fs.toList l 0 then sized P t (Ty.st l)else none
   |none=>none)
  |_=>none
def ug:Nat:=12
def rC(P:Program):Nat->TypeId->Option (List AV)
 |0,_=>none
 |n+1,t=>match P.underlying t with
  |some .bool=>some [.bool false]
  |some (.int k)=>some [.int k 0]
  |some .string=>some [.str []]
  |some (.slice _)=>some [.aC]
  |some (.pointer _)=>some [.nilPtr]
  |some (.func ..)=>some [.nilFn]
  |some (.interface _)=>some [.nilIface]
  |some (.array m e)=>(match bU P ug e with
   |some ty=>some [.arr m ty (Nu m ty.zero)]
   |none=>(match rC P n e with|some l=>some (Nu m l).flatten|none=>none))
  |some (.struct fs)=>(match fs.toList.mapM fun f=>rC P n f.type with|some l=>some l.flatten|none=>none)
  |_=>none
def AV.fV:AV->Bool
 | .arr .. | .row .. | .agg _| .gG _=>false
 |_=>true
def Ip:List AV->AV
 |[.arr n t xs]=> .arr n t xs
 |_=> .junk
def Fz:List AV->AV
 |[v]=>bif v.fV then v else .junk
 |_=> .junk
def vT(P:Program)(t:TypeId)(ps:List AV):AV:=
 match P.underlying t with
 |some (.struct _)=> .agg ps
 |some (.array _ e)=>(match bU P ug e with
  |some _=>Ip ps
  |none=> .agg ps)
 |_=>Fz ps
def ak(k:IntKind)(n:Int):Bool:=decide (k.min<=n)&&decide (n<=k.max)
def bytesOf(s:ByteArray):List Int:=s.data.toList.map fun b=>(b.toNat:Int)
def ofValue:Value->AV
 | .bool b=> .bool b
 | .int k n=>bif ak k n then .int k n else .junk
 | .string s=> .str (bytesOf s)
 | .pointer none=> .nilPtr
 | .slice none 0 0=> .aC
 | .nilFunc=> .nilFn
 | .nilIface=> .nilIface
 | .func (.func f) a b=>bif a.isEmpty&&b.isEmpty then .fn (.func f) [] []else .junk
 |_=> .junk
def oV{α:Type}(f:α->List Value->Option (List Value)):List α->List Value->Option (List Value)
 |[],vs=>some vs
 |x::r,vs=>match f x vs with|some ws=>oV f r ws|none=>none
def BQ(e:Bool):List Value->Option (List Value)
 | .slice none 0 0::vs=>bif e then some vs else none
 |_=>none
def BP:(t:Ty)->t.den->List Value->Option (List Value)
 | .int k,x,.int k' n::vs=>bif decide (k'=k)&& @decide (@Eq Int n x) (OY n x)&&ak k x then some vs else none
 | .bool,x,.bool b::vs=>bif @BEq.beq Bool _ b x then some vs else none
 | .str,x,.string s::vs=>bif @decide (@Eq (List Int) (bytesOf s) x) (instDecidableEqList (bytesOf s) x)then some vs else none
 | .lst t,xs,vs=>BQ (P6 (α:=t.den) xs) vs
 | .arr n t,xs,vs=>bif MQ (M_ (α:=t.den) xs) n then oV (BP t) xs vs else none
 | .unit,_,vs=>some vs
 | .pair a b,x,vs=>(match BP a x.1 vs with|some ws=>BP b x.2 ws|none=>none)
 |_,_,_=>none
def FZ:Value->Bool
 | .slice none 0 0=>true
 |_=>false
def FY:Value->Bool
 | .pointer none=>true
 |_=>false
def eU:List AV->List Value->Bool
 |[],[]=>true
 | .int k n::r,.int k' n'::vs=>decide (k'=k)&&decide (n'=n)&&ak k n&&eU r vs
 | .bool b::r,.bool b'::vs=>(b'==b)&&eU r vs
 | .str s::r,.string s'::vs=>decide (bytesOf s'=s)&&eU r vs
 | .aC::r,v::vs=>FZ v&&eU r vs
 | .nilPtr::r,v::vs=>FY v&&eU r vs
 | .nilFn::r,.nilFunc::vs=>eU r vs
 | .nilIface::r,.nilIface::vs=>eU r vs
 | .arr n t xs::r,vs=>(match BP (.arr n t) xs vs with|some ws=>eU r ws|none=>false)
 |_,_=>false
def zeroOf(P:Program)(t:TypeId):Option (List AV):=
 match P.info? t with
 |some i=>(match i.zero with
  |some v=>(match rC P ug t with
   |some ps=>bif eU ps v.cells.toList then some ps else none
   |none=>none)
  |none=>none)
 |none=>none
def aJ:List AV->Nat->List AV
 |[],_=>[]
 |p::r,o=>bif MQ o 0 then p::r else bif NM o p.size then []else aJ r (o-p.size)
def aO:List AV->Nat->Option (List AV)
 |ps,0=>(match ps with|_=>some [])
 |[],_+1=>none
 |p::r,n+1=>bif Ox p.size (n+1)then(match aO r (n+1-p.size)with|some l=>some (p::l)|none=>none)else none
def putCells : List AV -> Nat -> List AV -> Nat -> Option (List AV)   -- at cell o, 'new' in place of n cells
 |ps,0,new,n=>match aO ps n with
  |some l=>some (new++ps.drop l.length)
  |none=>none
 |[],_+1,_,_=>none
 |p::r,o+1,new,n=>bif Ox p.size (o+1)then(match putCells r (o+1-p.size) new n with|some l=>some (p::l)|none=>none)else none
def aH(ps:List AV):Nat:=(ps.map AV.size).foldl (· + ·) 0
structure Sub(α:Type) where
 n:Option Nat
 t:Ty
 xs:List t.den
 put:List t.den->α
def eP:Option Nat->Option Nat->Bool
 |none,none=>true
 |some a,some b=>MQ a b
 |_,_=>false
def jF:(t:Ty)->t.den->Nat->Option (Sub t.den)
 | .arr n t,xs,0=>some ⟨some n,t,xs,fun ys=>ys⟩
 | .pair a b,x,o=>bif NM o a.size
   then(match jF a x.1 o with|some s=>some ⟨s.n,s.t,s.xs,fun ys=>(s.put ys,x.2)⟩|none=>none)
   else(match jF b x.2 (o-a.size)with|some s=>some ⟨s.n,s.t,s.xs,fun ys=>(x.1,s.put ys)⟩|none=>none)
 |_,_,_=>none
def getPath:List jq->(t:Ty)->t.den->Nat->Nat->Option (List AV)
 |[],t,x,o,n=>aO (aJ (inj t x) o) n
 | .off d::r,t,x,o,n=>getPath r t x (o+d) n
 | .ix i z m::r,t,x,o,n=>match jF t x o with
  |some s=>bif eP s.n m&&MQ s.t.size z then getPath r s.t (rd s.t.zero s.xs i) 0 n else none
  |none=>none
def setPath:List jq->(t:Ty)->t.den->Nat->List AV->Nat->Option t.den
 |[],t,x,o,new,n=>(match putCells (inj t x) o new n with|some ps=>ay t ps|none=>none)
 | .off d::r,t,x,o,new,n=>setPath r t x (o+d) new n
 | .ix i z m::r,t,x,o,new,n=>match jF t x o with
  |some s=>bif eP s.n m&&MQ s.t.size z then(match setPath r s.t (rd s.t.zero s.xs i) 0 new n with
   |some y=>some (s.put (s.xs.set i.toNat y))
   |none=>none)else none
  |none=>none
def Caps:List Ty->Type
 |[]=>Unit
 |t::r=>t.den×Caps r
def Caps.zero:(l:List Ty)->Caps l
 |[]=>()
 |t::r=>(t.zero,Caps.zero r)
def Caps.enc:(l:List Ty)->Caps l->List AV
 |[],_=>[]
 |t::r,x=> .rp t x.1 0::Caps.enc r x.2
end Go.AM
end
section
namespace Go.AM
def mx(x y:Int):Int:=if y>x then y else x
def mn(x y:Int):Int:=if y<x then y else x
def strLt:List Int->List Int->Bool
 |_,[]=>false
 |[],_::_=>true
 |a::x,b::y=>decide (a<b)||(decide (a=b)&&strLt x y)
def nC(op:BinOp)(k:IntKind)(x y:Int):Int:=
 match op with
 | .and=>k.wrap (NK k.bits x &&& NK k.bits y).toNat
 | .or=>k.wrap (NK k.bits x ||| NK k.bits y).toNat
 | .xor=>k.wrap (NK k.bits x ^^^ NK k.bits y).toNat
 |_=>k.wrap (NK k.bits x &&& ~~~ NK k.bits y).toNat
def I9:=nC .and
def KL:=nC .or
def Hz:=nC .xor
def FW:=nC .andNot
def I_(k:IntKind)(x y:Int):Int:=k.wrap (x*2^min y.toNat k.bits)
def Ja(k:IntKind)(x y:Int):Int:=x.fdiv (2^min y.toNat k.bits)
abbrev h_:=Hp
abbrev R1:=F (AV×h_)
def one(v:AV):R1:= .ret (v,[])
def okD(o:Option AV):R1:=match o with|some v=>one v|none=> .fail
def FX(op:BinOp)(k:IntKind)(x y:Int):R1:=
 match op with
 | .add=>one (.int k (k.wrap (x+y)))
 | .sub=>one (.int k (k.wrap (x-y)))
 | .mul=>one (.int k (k.wrap (x*y)))
 | .quo=> .guard (!decide (y=0)) (one (.int k (k.wrap (x.tdiv y))))
 | .rem=> .guard (!decide (y=0)) (one (.int k (x.tmod y)))
 | .and=>one (.int k (I9 k x y))
 | .or=>one (.int k (KL k x y))
 | .xor=>one (.int k (Hz k x y))
 | .andNot=>one (.int k (FW k x y))
 | .eql=>one (.bool (decide (x=y)))
 | .neq=>one (.bool (!decide (x=y)))
 | .lss=>one (.bool (decide (x<y)))
 | .leq=>one (.bool (decide (x<=y)))
 | .gtr=>one (.bool (decide (x>y)))
 | .geq=>one (.bool (decide (x>=y)))
 |_=> .fail
def maxStr:Nat:=9223372036854775807
def GR(op:BinOp)(x y:List Int):R1:=
 match op with
 | .add=> .guard (decide (x.length+y.length<=maxStr)) (one (.str (x++y)))
 | .eql=>one (.bool (decide (x=y)))
 | .neq=>one (.bool (!decide (x=y)))
 | .lss=>one (.bool (strLt x y))
 | .leq=>one (.bool (strLt x y||decide (x=y)))
 | .gtr=>one (.bool (!(strLt x y||decide (x=y))))
 | .geq=>one (.bool (!strLt x y))
 |_=> .fail
def Hr(P:Program):Nat->TypeId->Bool
 |0,_=>false
 |n+1,t=>match P.underlying t with
  |some .bool=>true
  |some (.int _)=>true
  |some .string=>true
  |some (.struct fs)=> !P.stoodInHeld t&&fs.toList.all fun f=> !(f.name== "_")&&Hr P n f.type
  |some (.array _ e)=>Hr P n e
  |_=>false
def rowT(P:Program)(t:TypeId):Bool:=
 match P.underlying t with
 |some (.struct _)=>true
 |some (.array _ _)=>true
 |_=>false
def AV.isAgg:AV->Bool
 | .agg _=>true
 | .arr .. =>true
 |_=>false
def eqNil(P:Program)(t:TypeId)(x y:AV):Option Bool:=
 match P.underlying t with
 |some (.slice _)=>(match x,y with| .aC,.aC=>some true| .iO ..,.aC=>some false| .kP ..,.aC=>some false|_,_=>none)
 |some (.func ..)=>(match x,y with| .nilFn,.nilFn=>some true| .fn ..,.nilFn=>some false|_,_=>none)
 |some (.pointer _)=>(match x,y with| .nilPtr,.nilPtr=>some true| .rp ..,.nilPtr=>some false|_,_=>none)
 |some (.interface ms)=>(match x,y with| .iface ..,.nilIface=>some false| .nilIface,.iface .. =>some false| .nilIface,.nilIface=>bif ms.isEmpty then some true else none|_,_=>none)
 |_=>none
def Ko(P:Program)(t:TypeId)(x y:AV):Option Bool:=
 match eqNil P t x y with
 |some b=>some b
 |none=>match bU P ug t with
  |some ty=>bif Hr P ug t&& !P.eqGuardType P.depth t&&(x.isAgg==rowT P t)&&(y.isAgg==rowT P t)then(match ay ty x.parts,ay ty y.parts with
   |some a,some b=>some (ty.DF a b)
   |_,_=>none)else none
  |none=>none
def II(P:Program)(op:BinOp)(t:TypeId)(x y:AV):R1:=
 match op,x,y with
 | .shl,.int k a,.int _ b=> .guard (decide (0<=b)) (one (.int k (I_ k a b)))
 | .shr,.int k a,.int _ b=> .guard (decide (0<=b)) (one (.int k (Ja k a b)))
 |op,.int k a,.int k' b=>bif decide (k=k')then FX op k a b else .fail
 |op,.str a,.str b=>GR op a b
 | .eql,x,y=>(match Ko P t x y with|some b=>one (.bool b)|none=> .fail)
 | .neq,x,y=>(match Ko P t x y with|some b=>one (.bool (!b))|none=> .fail)
 |_,_,_=> .fail
def KX(op:UnOp)(x:AV):R1:=
 match op,x with
 | .not,.bool b=>one (.bool (!b))
 | .neg,.int k n=>one (.int k (k.wrap (0-n)))
 | .xor,.int k n=>one (.int k (Hz k (if k.signed then-1 else k.max) n))
 |_,_=> .fail
def jG:AV->Option (Sub AV)
 | .arr n t xs=>some ⟨some n,t,xs,fun ys=> .arr n t ys⟩
 | .row t xs=>some ⟨none,t,xs,fun ys=> .row t ys⟩
 |_=>none
def cO(ps:List AV)(o:Nat):Option (Sub AV):=
 match aJ ps o with
 |p::_=>jG p
 |[]=>none
def iP:List AV->Nat->List jq->Nat->Option (List AV)
 |ps,o,[],n=>aO (aJ ps o) n
 |ps,o,.off d::r,n=>iP ps (o+d) r n
 |ps,o,.ix i z m::r,n=>match cO ps o with
  |some s=>bif eP s.n m&&MQ s.t.size z then getPath r s.t (rd s.t.zero s.xs i) 0 n else none
  |none=>none
def putAt:List AV->Nat->AV->List AV
 |[],_,_=>[]
 |p::r,o,q=>bif MQ o 0 then q::r else p::putAt r (o-p.size) q
def noRow:AV->Bool
 | .row .. =>false
 |_=>true
def f_:List AV->Nat->List jq->List AV->Nat->Option (List AV)
 |ps,o,[],new,n=>(match putCells ps o new n with|some l=>bif l.all noRow then some l else none|none=>none)
 |ps,o,.off d::r,new,n=>f_ ps (o+d) r new n
 |ps,o,.ix i z m::r,new,n=>match cO ps o with
  |some s=>bif eP s.n m&&MQ s.t.size z then(match setPath r s.t (rd s.t.zero s.xs i) 0 new n with
    |some y=>some (putAt ps o (s.put (s.xs.set i.toNat y)))
    |none=>none)else none
  |none=>none
def Hp.cells(h:Hp)(b v:Nat):Option (Bool×List AV):=
 match h.get b with
 |some (.cells ver ro ps)=>bif MQ ver v then some (!ro,ps)else none
 |_=>none
def cu(P:Program)(t:TypeId):Bool:=match P.underlying t with
 |some (.struct _)=>true
 |some (.array _ _)=>true
 |some _=>MQ (P.cellsOf t) 1
 |none=>false
def Hp.fresh(h:Hp)(b v:Nat):Bool:=match h.cells b v with|some _=>true|none=>false
def DY(P:Program)(h:Hp)(t:TypeId)(a:AV):R1:=
 match a with
 | .ptr b v o path=>(match h.cells b v with
  |some (_,ps)=>(match iP ps o path (P.cellsOf t)with
   |some l=>bif cu P t then one (vT P t l)else .fail
   |none=> .fail)
  |none=> .fail)
 | .rp ty x o=>(match aO (aJ (inj ty x) o) (P.cellsOf t)with
  |some l=>bif cu P t then one (vT P t l)else .fail
  |none=> .fail)
 |_=> .fail
def storable:AV->Bool
 | .junk=>false
 | .gG _=>false
 | .row .. =>false
 |_=>true
def Dj(P:Program)(h:Hp)(t:TypeId)(a x:AV):R1:=
 match a with
 | .ptr b v o path=>(match h.cells b v with
  |some (w,ps)=>bif w&&storable x&&MQ (aH x.parts) (P.cellsOf t)&&cu P t then(match f_ ps o path x.parts (P.cellsOf t)with
   |some l=> .ret (.junk,[(b,.cells v false l)])
   |none=> .fail)else .fail
  |none=> .fail)
 |_=> .fail
def Ic(nx:Nat)(ps:List AV):R1:= .ret (.ptr nx 0 0 [],[(nx,.cells 0 false ps)])
def Kw(P:Program)(t:TypeId):Option TypeId:=
 match P.underlying t with
 |some (.struct fs)=>(match fs.toList with
  |[a,b]=>bif a.name== "addr" &&b.name== "buf" then(match P.underlying a.type,P.underlying b.type with
   |some (.pointer _),some (.slice e)=>(match P.underlying e with|some (.int .u8)=>some e|_=>none)
   |_,_=>none)else none
  |_=>none)
 |_=>none
def D9(nx:Nat)(t e:TypeId):List AV->R1
 |[.nilPtr,.aC]=> .ret (.ptr nx 0 0 [],[(nx,.iZ t e [])])
 |_=> .fail
def BG(P:Program)(nx:Nat)(t:TypeId):R1:=
 match zeroOf P t with
 |some ps=>(match Kw P t with|some e=>D9 nx t e ps|none=>Ic nx ps)
 |none=> .fail
def mQ(P:Program)(t:TypeId)(f:Nat):Option Field:=
 match P.underlying t with
 |some (.struct fs)=>fs[f]?
 |_=>none
def qy(P:Program)(e:TypeId)(ty:Ty):Option ty.den:=
 match zeroOf P e with
 |some ps=>ay ty ps
 |none=>none
def jO(ty:Ty):List (Nat×AV)->List ty.den->Option (List ty.den)
 |[],xs=>some xs
 |(i,v)::r,xs=>match ay ty v.parts with
  |some x=>bif NM i (M_ (α:=ty.den) xs)then jO ty r (xs.set i x)else none
  |none=>none
def dU(off:Nat->Option (Nat×Nat)):List (Nat×AV)->List AV->Option (List AV)
 |[],ps=>some ps
 |(i,v)::r,ps=>match off i with
  |some (o,n)=>bif storable v&&MQ (aH v.parts) n then(match putCells ps o v.parts n with|some qs=>dU off r qs|none=>none)else none
  |none=>none
def BL(P:Program)(t:TypeId)(l:List (Nat×AV)):R1:=
 match P.underlying t with
 |some (.struct fs)=>(match bif fs.toList.all (fun f=>(P.info? f.type).isSome)then zeroOf P t else none with
  |some z=>(match dU (fun i=>match fs[i]? with|some f=>some (f.offset,P.cellsOf f.type)|none=>none) l z with
   |some ps=>one (.agg ps)
   |none=> .fail)
  |none=> .fail)
 |some (.array m e)=>(match bU P ug e with
  |some ty=>(match qy P t (.arr m ty)with
   |some z=>(match jO ty l z with|some xs=>one (.arr m ty xs)|none=> .fail)
   |none=> .fail)
  |none=>(match bif(P.info? e).isSome then zeroOf P t else none with
   |some z=>(match dU (fun i=>some (i*P.cellsOf e,P.cellsOf e)) l z with|some ps=>one (.agg ps)|none=> .fail)
   |none=> .fail))
 |_=> .fail
def qC(P:Program)(nx:Nat)(e:TypeId)(len:Nat)(l:List (Nat×AV)):R1:=
 match zeroOf P e with
 |some [z]=>bif z.fV&&noRow z&&MQ (P.cellsOf e) 1&&Ox 1 len&&Ox len 16777216 then(match dU (fun i=>some (i*P.cellsOf e,P.cellsOf e)) l (Nu len z)with
  |some ps=>bif ps.all noRow then .ret (.kP nx 0 len,[(nx,.cells 0 false ps)])else .fail
  |none=> .fail)else .fail
 |_=> .fail
def iG(P:Program)(nx:Nat)(t:TypeId)(len:Nat)(l:List (Nat×AV)):R1:=
 match P.underlying t with
 |some (.slice e)=>(match bU P ug e with
  |some ty=>(match qy P e ty with
   |some z=>(match jO ty l (Nu len z)with
    |some xs=>bif Ox (len*ty.size) 16777216 then .ret (.own nx 0 ty,[(nx,.cells 0 false [.row ty xs])])else .fail
    |none=> .fail)
   |none=> .fail)
  |none=>qC P nx e len l)
 |_=> .fail
structure Held where
 t:Ty
 xs:List t.den
def Hp.row(h:Hp)(b v:Nat):Option (Bool×Held):=
 match h.cells b v with
 |some (w,[.row t xs])=>some (w,⟨t,xs⟩)
 |_=>none
def Hp.sub(h:Hp)(b v o:Nat)(m:Option Nat):Option (Bool×List AV×Sub AV):=
 match h.cells b v with
 |some (w,ps)=>(match cO ps o with
  |some s=>bif eP s.n m then some (w,ps,s)else none
  |none=>none)
 |none=>none
def dM(h:Hp)(x:AV):Option Held:=
 match x with
 | .aC=>none
 | .lst t xs=>some ⟨t,xs⟩
 | .iO t xs=>some ⟨t,xs⟩
 | .own b v _=>(match h.row b v with|some (_,u)=>some u|none=>none)
 | .slc b v o m t s n=>(match h.sub b v o m with|some (_,_,u)=>bif MQ u.t.size t.size then some ⟨u.t,(u.xs.drop s.toNat).take n.toNat⟩else none|none=>none)
 |_=>none
def kT(h:Hp)(x:AV):Option Int:=
 match x with
 | .str s=>some s.length
 | .arr n _ _=>some n
 | .aC=>some 0
 | .lst _ xs=>some xs.length
 | .iO _ xs=>some xs.length
 | .slc b v _ _ _ _ n=>bif h.fresh b v then some n else none
 | .own b v _=>(match h.row b v with|some (_,u)=>some u.xs.length|none=>none)
 | .kP b v n=>bif h.fresh b v then some (n:Int)else none
 |_=>none
def inB(i n:Int):Bool:=decide (0<=i)&&decide (i<n)
def oh(P:Program)(h:Hp)(t:TypeId)(x:AV)(i:Int):R1:=
 match P.underlying t with
 |some (.array m e)=>bif cu P e&&Ox 2 m then(match x with
  | .ptr b v o path=> .guard (inB i m) (match bU P ug e with
   |some _=>one (.ptr b v o (path++[.ix i (P.cellsOf e) (some m)]))
   |none=>(match path with|[]=>one (.ptr b v (o+i.toNat*P.cellsOf e) [])|_=> .fail))
  | .rp ty y o=>(match jF ty y o with
   |some s=>bif eP s.n (some m)&&MQ s.t.size (P.cellsOf e)then .guard (inB i m) (one (.rp s.t (rd s.t.zero s.xs i) 0))else .fail
   |none=> .fail)
  |_=> .fail)else .fail
 |some (.slice e)=>bif cu P e then(match x with
  | .own b v ty=>bif MQ ty.size (P.cellsOf e)then(match kT h x with
   |some n=> .guard (inB i n) (one (.ptr b v 0 [.ix i ty.size none]))
   |none=> .fail)else .fail
  | .slc b v o m ty s n=>bif MQ ty.size (P.cellsOf e)&&h.fresh b v then .guard (inB i n) (one (.ptr b v o [.ix (s+i) ty.size m]))else .fail
  | .lst ty xs=>bif MQ ty.size (P.cellsOf e)then .guard (inB i xs.length) (one (.rp ty (rd ty.zero xs i) 0))else .fail
  | .kP b v n=>bif MQ (P.cellsOf e) 1&&h.fresh b v then .guard (inB i n) (one (.ptr b v i.toNat []))else .fail
  |_=> .fail)else .fail
 |_=> .fail
def nY(P:Program)(t:TypeId)(x:AV)(f:Nat):R1:=
 match mQ P t f with
 |some fd=>bif MQ (P.cellsOf fd.type) 0 then .fail else(match x with
  | .ptr b v o []=>one (.ptr b v (o+fd.offset) [])
  | .ptr b v o path=>one (.ptr b v o (path++[.off fd.offset]))
  | .rp ty y o=>one (.rp ty y (o+fd.offset))
  |_=> .fail)
 |none=> .fail
def Ce(P:Program)(t:TypeId)(x:AV)(f:Nat):R1:=
 match mQ P t f,x with
 |some fd,.agg ps=>(match aO (aJ ps fd.offset) (P.cellsOf fd.type)with|some l=>bif cu P fd.type&& !Nat.beq (P.cellsOf fd.type) 0 then one (vT P fd.type l)else .fail|none=> .fail)
 |_,_=> .fail
def Cj(P:Program)(t:TypeId)(x:AV)(i:Int):R1:=
 match P.underlying t,x with
 |some (.array m e),.arr n ty xs=>bif MQ n m&&MQ ty.size (P.cellsOf e)&&cu P e then .guard (inB i m) (one (vT P e (inj ty (rd ty.zero xs i))))else .fail
 |some .string,.str s=> .guard (inB i s.length) (one (.int .u8 (rd (0:Int) s i)))
 |some (.array m e),.agg ps=>bif inB i m&&cu P e&& !Nat.beq (P.cellsOf e) 0 then(match aO (aJ ps (i.toNat*P.cellsOf e)) (P.cellsOf e)with|some l=>one (vT P e l)|none=> .fail)else .fail
 |_,_=> .fail
def zV:Option AV->Int->Option Int
 |none,d=>some d
 |some (.int _ n),_=>some n
 |_,_=>none
def sV(l hi n:Int):Bool:=decide (0<=l)&&decide (l<=hi)&&decide (hi<=n)
def cut{α:Type}(xs:List α)(l hi:Int):List α:=(xs.take hi.toNat).drop l.toNat
def Gz(h:Hp)(x:AV):Option Int:=
 match x with
 | .slc b v o m _ s _=>(match h.sub b v o m with|some (_,_,u)=>some (u.xs.length-s)|none=>none)
 |x=>kT h x
def lg(mx lo hi:Option AV)(len:Int):Option (Option Int×Int×Int):=
 match mx,zV lo 0,zV hi len with
 |none,some l,some u=>some (none,l,u)
 |some (.int _ k),some l,some u=>(match hi with|some _=>some (some k,l,u)|none=>none)
 |_,_,_=>none
def zy(P:Program)(h:Hp)(t:TypeId)(x:AV)(lo hi mx:Option AV):R1:=
 match P.underlying t,x with
 |some .string,.str s=>(match lg mx lo hi s.length with
  |some (none,l,u)=> .guard (sV l u s.length) (one (.str (cut s l u)))
  |_=> .fail)
 |some (.slice e),.lst ty xs=>bif MQ ty.size (P.cellsOf e)&&cu P e then(match lg mx lo hi xs.length with
  |some (none,l,u)=> .guard (sV l u xs.length) (one (.lst ty (cut xs l u)))
  |some (some k,l,u)=> .guard (sV l u k&&decide (k<=xs.length)) (one (.lst ty (cut xs l u)))
  |none=> .fail)else .fail
 |some (.slice e),.own b v ty=>bif MQ ty.size (P.cellsOf e)&&cu P e then(match kT h x with
  |some n=>(match lg mx lo hi n with
   |some (none,l,u)=> .guard (sV l u n) (one (.slc b v 0 none ty l (u-l)))
   |some (some k,l,u)=> .guard (sV l u k&&decide (k<=n)) (one .junk)
   |none=> .fail)
  |none=> .fail)else .fail
 |some (.slice e),.slc b v o m ty s n=>bif MQ ty.size (P.cellsOf e)&&cu P e then(match Gz h x,lg mx lo hi n with
  |some c,some (none,l,u)=> .guard (sV l u c) (one (.slc b v o m ty (s+l) (u-l)))
  |some c,some (some k,l,u)=> .guard (sV l u k&&decide (k<=c)) (one .junk)
  |_,_=> .fail)else .fail
 |some (.array m e),.ptr b v o []=>(match bU P ug e,lg mx lo hi m with
   |some ty,some (none,l,u)=>(match h.sub b v o (some m)with
    |some (_,_,s)=>bif MQ s.t.size ty.size&&MQ ty.size (P.cellsOf e)&&cu P e then .guard (sV l u m) (one (.slc b v o (some m) ty l (u-l)))else .fail
    |none=> .fail)
   |_,_=> .fail)
 |some (.array m e),.rp (.arr m' ty) xs 0=>bif MQ m' m&&MQ ty.size (P.cellsOf e)&&cu P e then(match lg mx lo hi m with
   |some (none,l,u)=> .guard (sV l u m) (one (.lst ty (cut (α:=ty.den) xs l u)))
   |_=> .fail)else .fail
 |some (.slice e),.aC=>bif cu P e then(match lg mx lo hi 0 with
  |some (none,l,u)=> .guard (sV l u 0) (one .aC)
  |_=> .fail)else .fail
 |_,_=> .fail
def roomOf(P:Program)(e:TypeId):Nat:=
 match P.info? e with
 |some i=>bif MQ i.bytes 0 then 0 else 70368744177664/i.bytes
 |none=>0
def Aj(P:Program)(e:TypeId):Bool:=
 match P.info? e with
 |some i=> !Nat.beq i.bytes 0&&(match i.zero with|some v=>MQ v.cells.size i.size|none=>false)
 |none=>false
def vH(P:Program)(t:TypeId):Bool:=match P.underlying t with|some (.int _)=>true|some _=>false|none=>true
def wC(h:Hp)(ty:Ty)(x:AV):Option (List ty.den):=
 match x with
 | .aC=>some []
 | .str l=>ay (.lst ty) [.lst (.int .u8) l]
 |_=>(match dM h x with|some u=>ay (.lst ty) [.lst u.t u.xs]|none=>none)
def rD(ty:Ty)(u:Held):Option (List ty.den):=ay (.lst ty) [.lst u.t u.xs]
def yK(P:Program)(h:Hp)(nx:Nat)(t t2:TypeId)(s x:AV):R1:=
 match P.underlying t with
 |some (.slice e)=>bif vH P t2|| !Aj P e then .fail else(match bU P ug e with
  |some ty=>(match wC h ty x with
   |none=> .fail
   |some ys=>match s with
    | .aC=> .guard (decide (ys.length<roomOf P e)) (.ret (.own nx 0 ty,[(nx,.cells 0 false [.row ty ys])]))
    | .own b v t0=>(match h.row b v with
     |some (w,u)=>(match bif MQ t0.size ty.size&& !(MQ b aX)then rD ty u else none with
      |some xs=> .guard (decide (M_ (α:=ty.den) xs+ys.length<roomOf P e)) (.ret (.own b (v+1) ty,[(b,.cells (v+1) (!w) [.row ty (PI (α:=ty.den) xs ys)])]))
      |none=> .fail)
     |none=> .fail)
    | .slc b v 0 none t0 0 n=>(match h.row b v with
     |some (true,u)=>(match bif MQ t0.size ty.size&& !(MQ b aX)then rD ty u else none with
      |some xs=> .guard (decide (M_ (α:=ty.den) xs+ys.length<roomOf P e)&&decide (0<=n))
        (.ret (.slc b (v+1) 0 none ty 0 (n+ys.length),[(b,.cells (v+1) false [.row ty (PI (α:=ty.den) (List.take n.toNat xs) (PI ys (List.drop (α:=ty.den) (n.toNat+ys.length) xs)))])]))
      |none=> .fail)
     |_=> .fail)
    |_=> .fail)
  |none=> .fail)
 |_=> .fail
def uT(P:Program)(h:Hp)(nx:Nat)(src dst:TypeId)(x:AV):R1:=
 match P.underlying src,P.underlying dst,x with
 |some _,some (.int k),.int _ n=>one (.int k (k.wrap n))
 |some _,some .string,.str s=>one (.str s)
 |some .string,some (.slice e),.str s=>(match P.underlying e with
  |some (.int .u8)=> .ret (.own nx 0 (.int .u8),[(nx,.cells 0 false [.row (.int .u8) s])])
  |_=> .fail)
 |some (.slice e),some .string,x=>(match P.underlying e,wC h (.int .u8) x with
  |some (.int .u8),some l=>one (.str l)
  |_,_=> .fail)
 |some (.pointer t),some .unsafePointer,.ptr b v o path=>(match h.cells b v with
  |some (_,ps)=>(match iP ps o path 1,(P.info? t).map (fun i=>decide (i.size=0))with
   |some [_],some false=>one (.ptr b v o path)
   |_,_=> .fail)
  |none=> .fail)
 |_,_,_=> .fail
def ou(P:Program)(nx:Nat)(t:TypeId)(len cap:AV):R1:=
 match P.underlying t,len,cap with
 |some (.slice e),.int _ n,.int _ c=>(match bU P ug e with
  |some ty=>(match qy P e ty with
   |some z=>bif Aj P e then .guard (decide (0<=n)&&decide (n<=c)&&NM c.toNat (roomOf P e)) (.ret (.own nx 0 ty,[(nx,.cells 0 false [.row ty (Nu n.toNat z)])]))else .fail
   |none=> .fail)
  |none=> .fail)
 |_,_,_=> .fail
def uw(P:Program)(nx:Nat)(t t2:TypeId)(s x:AV):R1:=
 match P.underlying t,P.underlying t2,s,x with
 |some (.slice e),some (.int _),.aC,.int _ n=>(match bU P ug e with
  |some ty=>(match qy P e ty with
   |some z=>bif Aj P e then .guard (decide (0<=n)&&NM n.toNat (roomOf P e)) (.ret (.own nx 0 ty,[(nx,.cells 0 false [.row ty (Nu n.toNat z)])]))else .fail
   |none=> .fail)
  |none=> .fail)
 |_,_,_,_=> .fail
def jh(h:Hp)(v:AV):Option AV:=
 match v with
 | .own .. =>(match dM h v with|some u=>some (.lst u.t u.xs)|none=>none)
 | .slc .. =>(match dM h v with|some u=>some (.lst u.t u.xs)|none=>none)
 | .int k n=>some (.int k n)
 | .bool b=>some (.bool b)
 | .str s=>some (.str s)
 | .lst t xs=>some (.lst t xs)
 | .iO t xs=>some (.lst t xs)
 | .arr n t xs=>some (.arr n t xs)
 | .aC=>some .aC
 |_=>none
def gW(h:Hp):List AV->Option (List AV)
 |[]=>some []
 |p::r=>match jh h p,gW h r with
  |some q,some l=>some (q::l)
  |_,_=>none
def yB(h:Hp):AV->Option AV
 | .agg ps=>(match gW h ps with|some l=>some (.agg l)|none=>none)
 |v=>jh h v
def iD(h:Hp):List AV->Option (List AV)
 |[]=>some []
 |v::r=>match yB h v,iD h r with
  |some w,some l=>some (w::l)
  |_,_=>none
def gu:AV->List Nat
 | .own b .. =>[b]
 | .slc b .. =>[b]
 | .ptr b .. =>[b]
 | .kP b .. =>[b]
 |_=>[]
def jB:AV->List Nat
 | .agg ps=>ps.flatMap gu
 |v=>gu v
def freeze(h:Hp)(l:List Nat):h_:=
 l.filterMap fun b=>match h.get b with|some (.cells v _ ps)=>some (b,.cells v true ps)|_=>none
def jT(h:Hp)(vs:List AV)(k:List AV->R1):R1:=
 match iD h vs with
 |some ws=>(k ws).bind fun r=> .ret (r.1,r.2++freeze h (vs.flatMap jB))
 |none=> .fail
def Jy(P:Program)(e:TypeId):Bool:=
 match bU P ug e with
 |some ty=> !ty.flat
 |none=>false
def uz(P:Program)(h:Hp)(arr:TypeId)(x:AV):R1:=
 match P.underlying arr with
 |some (.array n e)=>(match bU P ug e with
  |some ty=>jT h [x] fun ws=>(match ws with
   |[.lst t xs]=>(match ay (.lst ty) [.lst t xs]with
    |some ys=> .guard (Ox 1 n&&Ox n (M_ (α:=ty.den) ys)) (one (.rp (.arr n ty) (List.take (α:=ty.den) n ys) 0))
    |none=> .fail)
   |_=> .fail)
  |none=> .fail)
 |_=> .fail
def tN(P:Program)(t:TypeId)(name:String):Option FuncId:=
 match P.info? t with
 |some i=>(match i.methods.find? (fun m=>m.name==name)with
  |some m=>bif m.path.isEmpty then(match m.func,P.underlying t with
   |some (f,true),some (.pointer _)=>some f
   |some (_,false),some (.pointer _)=>none
   |some (f,false),some _=>some f
   |_,_=>none)else none
  |none=>none)
 |none=>none
def mG(P:Program)(x:AV)(asserted:TypeId)(ok:Bool):R1:=
 match P.underlying asserted with
 |some (.interface _)=> .fail
 |some _=>(match x with
  | .iface t v=>bif MQ t asserted
    then one (bif ok then .gG [v,.bool true]else v)
    else(bif ok then(match zeroOf P asserted with
     |some _=>one (.gG [.junk,.bool false])
     |none=> .fail)else .fail)
  | .nilIface=>bif ok then(match zeroOf P asserted with
     |some _=>one (.gG [.junk,.bool false])
     |none=> .fail)else .fail
  |_=> .fail)
 |none=> .fail
abbrev iL:=FuncId->List AV->Hp->Nat->Option He
def Dw(Φ:iL)(h:Hp)(nx:Nat)(f:FuncId)(args:List AV):R1:=
 match Φ f args h nx with
 |none=> .fail
 |some o=> .call o.dflt o.x fun g=> .ret (o.enc g)
def gU(c:Int->Int->Int)(k:IntKind):Int->List AV->Option AV
 |x,[]=>some (.int k x)
 |x,.int k' y::r=>bif decide (k=k')then gU c k (c x y) r else none
 |_,_=>none
def vS(c:Int->Int->Int):List AV->Option AV
 | .int k x::r=>gU c k x r
 |_=>none
def splice{α:Type}(xs:List α)(i:Nat)(ys:List α):List α:=xs.take i++(ys++xs.drop (i+ys.length))
def tZ(h:Hp)(s:AV)(ys:(ty:Ty)->Int->Option (List ty.den)):Option (Int×h_):=
 match s with
 | .own b v _=>(match h.row b v with
  |some (true,u)=>(match ys u.t u.xs.length with
   |some l=>some (l.length,[(b,.cells v false [.row u.t (splice u.xs 0 l)])])
   |none=>none)
  |_=>none)
 | .slc b v o m t i n=>(match h.sub b v o m with
  |some (true,ps,u)=>bif MQ u.t.size t.size then(match ys u.t n with
   |some l=>some (l.length,[(b,.cells v false (putAt ps o (u.put (splice u.xs i.toNat l))))])
   |none=>none)else none
  |_=>none)
 |_=>none
def wB(n:Int):Bool:=NM n.toNat 9223372036854775808
def elemSize(P:Program)(t:TypeId):Option Nat:=
 match P.underlying t with
 |some (.slice e)=>bif cu P e then some (P.cellsOf e)else none
 |_=>none
def FM(P:Program)(h:Hp)(t:TypeId)(d s:AV):R1:=
 match elemSize P t with
 |some z=>(match tZ h d (fun ty n=>bif MQ ty.size z then(match wC h ty s with|some l=>some (l.take n.toNat)|none=>none)else none)with
  |some (n,u)=> .guard (wB n) (.ret (.int .i64 n,u))
  |none=> .fail)
 |none=> .fail
def BM(P:Program)(h:Hp)(t:TypeId)(s:AV):R1:=
 match P.underlying t with
 |some (.slice e)=>(match tZ h s (fun ty n=>match qy P e ty with|some z=>some (Nu n.toNat z)|none=>none)with
  |some (_,u)=> .ret (.junk,u)
  |none=> .fail)
 |_=> .fail
def Jb(P:Program)(h:Hp)(t:TypeId)(x:AV):Option Int:=
 match P.underlying t,x with
 |some .string,.str s=>some s.length
 |some (.array n _),_=>some n
 |some (.slice _),.str _=>none
 |some (.slice _),.arr .. =>none
 |some (.slice _),x=>kT h x
 |_,_=>none
def uK(P:Program)(h:Hp)(nx:Nat)(b:Builtin)(ts:List TypeId)(args:List AV):R1:=
 match b,ts,args with
 | .len,t::_,[x]=>(match Jb P h t x with|some n=> .guard (wB n) (one (.int .i64 n))|none=> .fail)
 | .append,t::t2::_,[s,x]=>bif vH P t2 then uw P nx t t2 s x else yK P h nx t t2 s x
 | .cap,t::_,[.aC]=>(match P.underlying t with|some (.slice _)=>one (.int .i64 0)|_=> .fail)
 | .copy,t::_,[d,s]=>FM P h t d s
 | .clear,t::_,[s]=>BM P h t s
 | .max,_,l=>okD (vS mx l)
 | .min,_,l=>okD (vS mn l)
 |_,_,_=> .fail
def gJ(c:Call)(ρ:Operand->AV):AV:=
 match c.callee with
 | .value f=>ρ f
 | .invoke r _=>ρ r
 | .builtin _=> .junk
def Dx(Φ:iL)(h:Hp)(nx:Nat)(f:AV)(args:List AV):R1:=
 match f with
 | .fn (.func g) first cap=>Dw Φ h nx g (first++args++cap)
 |_=> .fail
def xB(P:Program)(Φ:iL)(h:Hp)(nx:Nat)(r:AV)(name:String)(args:List AV):R1:=
 match r with
 | .iface t v=>(match tN P t name with
  |some g=>Dw Φ h nx g (v::args)
  |none=> .fail)
 |_=> .fail
def tK(P:Program)(Φ:iL)(h:Hp)(nx:Nat)(c:Call)(x:AV)(args:List AV):R1:=
 match c.callee with
 | .builtin b=>uK P h nx b c.argTypes.toList args
 | .value _=>Dx Φ h nx x args
 | .invoke _ name=>xB P Φ h nx x name args
def Jh(P:Program)(Φ:iL)(op:Op)(ρ:Operand->AV)(h:Hp)(nx:Nat):R1:=
 match op with
 | .move x| .assign x=>one (ρ x)
 | .alloc t=>BG P nx t
 | .box _ x=>bif storable (ρ x)&&(ρ x).parts.all noRow then Ic nx (ρ x).parts else .fail
 | .build t l=>BL P t (l.toList.map fun (i,x)=>(i,ρ x))
 | .buildSlice t n l=>(match P.underlying t with
  |some (.slice e)=>bif Jy P e
    then jT h (l.toList.map fun p=>ρ p.2) (fun ws=>iG P nx t n ((l.toList.map (·.1)).zip ws))
    else iG P nx t n (l.toList.map fun (i,x)=>(i,ρ x))
  |_=> .fail)
 | .load t a=>DY P h t (ρ a)
 | .store t a x=>Dj P h t (ρ a) (ρ x)
 | .nilCheck x=>(match ρ x with| .ptr b v o p=>one (.ptr b v o p)| .rp t y o=>one (.rp t y o)| .fn (.func f) a b=>one (.fn (.func f) a b)|_=> .fail)
 | .binOp o t x y _=>II P o t (ρ x) (ρ y)
 | .unOp o _ x=>KX o (ρ x)
 | .convert s d x=>uT P h nx s d (ρ x)
 | .makeInterface t x=>(match P.underlying t with
  |some (.interface _)=> .fail
  |some _=>one (.iface t (ρ x))
  |none=> .fail)
 | .makeFunc (.func f) a c=>one (.fn (.func f) (a.toList.map ρ) (c.toList.map ρ))
 | .makeSlice t l c=>ou P nx t (ρ l) (ρ c)
 | .slice t x lo hi m=>zy P h t (ρ x) (lo.map ρ) (hi.map ρ) (m.map ρ)
 | .fieldAddr t x f=>nY P t (ρ x) f
 | .field t x f=>Ce P t (ρ x) f
 | .indexAddr t x i=>(match ρ i with| .int _ n=>oh P h t (ρ x) n|_=> .fail)
 | .index t x i=>(match ρ i with| .int _ n=>Cj P t (ρ x) n|_=> .fail)
 | .extract x i=>(match ρ x with| .gG vs=>okD vs[i]?|_=> .fail)
 | .call c=>tK P Φ h nx c (gJ c ρ) (c.args.toList.map ρ)
 | .sliceToArrayPointer arr x=>uz P h arr (ρ x)
 | .typeAssert x _ t ok=>mG P (ρ x) t ok
 |_=> .fail
end Go.AM
end
section
namespace Go.AM
variable [Tabs]
def Ag(e:Env):Operand->AV
 | .tmp t=>e.get t
 | .const v=>ofValue v
 | .global g=>(match Tabs.tab g with|some x=> .rp x.1 x.2 0|none=> .junk)
 | .func f=> .fn (.func f) [] []
def aQ:List May->Nat->Option May
 |[],_=>none
 |m::r,t=>bif MQ m.t t then some m else aQ r t
def aS(e:Env)(ms:List May)(g:Option (Nat×Bool)):Operand->AV
 | .tmp t=>(match aQ ms t with
  |none=>e.get t
  |some m=>match g with
   |some (tg,want)=>bif MQ m.tg tg&&(m.want==want)then m.v else .junk
   |none=> .junk)
 |x=>Ag e x
def guardOf(e:Env)(ms:List May)(tg:Nat)(want:Bool):Option Bool:=
 match aQ ms tg with
 |none=>(match e.get tg with| .bool b=>some (bif want then b else !b)|_=>none)
 |some m=>(match m.v with| .bool b=>some (m.g&&(bif want then b else !b))|_=>none)
def gq(ms:List May)(t:Nat):List May:=ms.filter fun m=> !(MQ m.t t||MQ m.tg t)
def dI(g:Bool):R1->R1
 | .ret (v,u)=>(match u with|[]=> .ret (v,[])|_=> .guard (!g) (.ret (.junk,[])))
 | .fail=> .guard (!g) (.ret (.junk,[]))
 | .guard c k=> .guard (!g||c) (dI g k)
 | .ite c a b=> .ite c (dI g a) (dI g b)
 | .call d x k=> .call d (bif g then x else some d) fun y=>dI g (k y)
structure RS where
 env:Env
 aI:List May
 hp:Hp
inductive Eff where
 |put (d:Option Nat) (v:AV) (u:h_)
 |may (d:Option Nat) (tg:Nat) (want g:Bool) (v:AV)
def RS.app(s:RS):Eff->RS
 | .put (some d) v u=>⟨(d,v)::s.env,gq s.aI d,u++s.hp⟩
 | .put none _ u=>⟨s.env,s.aI,u++s.hp⟩
 | .may (some d) tg want g v=>⟨(d,.junk)::s.env,⟨d,tg,want,g,v⟩::gq s.aI d,s.hp⟩
 | .may none _ _ _ _=>s
def Ie:Op->Bool
 | .alloc _| .box _ _| .buildSlice .. | .store .. | .makeSlice .. | .sliceToArrayPointer .. =>false
 | .call c=>(match c.callee with| .builtin .append| .builtin .copy| .builtin .clear=>false|_=>true)
 |_=>true
def wz(e:Env)(ms:List May)(g:Option (Nat×Bool))(c x:Operand)(want:Bool):AV:=
 match x with
 | .tmp t=>(match aQ ms t,c with
  |some m,.tmp tc=>bif MQ m.tg tc&&(m.want==want)then m.v else aS e ms g x
  |_,_=>aS e ms g x)
 |x=>Ag e x
def Ee(e:Env)(ms:List May)(g:Option (Nat×Bool))(c a b:Operand):R1:=
 match aS e ms g c with
 | .bool cb=>one (match b,a with
  | .const (.bool false),_=>(match wz e ms g c a true with| .bool u=> .bool (cb&&u)|_=> .junk)
  |_,.const (.bool true)=>(match wz e ms g c b false with| .bool u=> .bool (cb||u)|_=> .junk)
  |_,_=> .junk)
 |_=> .fail
def zK(ops:List Oper)(d:Option Nat):Bool:=
 match d with
 |some d=>ops.any fun o=>o.op.operands.toList.any fun| .tmp t=>MQ t d|_=>false
 |none=>false
def En(P:Program)(h:Hp)(t:TypeId)(x:AV)(lo hi:Option AV)(m:AV):R1:=
 jT h [x] fun ws=>match ws with
  |[w]=>zy P [] t w lo hi (some m)
  |_=> .fail
def G8(P:Program)(Φ:iL)(keep:Bool)(op:Op)(e:Env)(ms:List May)(g:Option (Nat×Bool))(h:Hp)(nx:Nat):R1:=
 match op with
 | .pick c a b=>Ee e ms g c a b
 | .slice t x lo hi (some m)=>bif keep then En P h t (aS e ms g x) (lo.map (aS e ms g)) (hi.map (aS e ms g)) (aS e ms g m)else Jh P Φ (.slice t x lo hi (some m)) (aS e ms g) h nx
 |op=>Jh P Φ op (aS e ms g) h nx
def wS(P:Program)(Φ:iL)(ops:List Oper)(o:Oper)(nx:Nat)(e:Env)(ms:List May)(h:Hp):F Eff:=
 match o.guard with
 |none=>(G8 P Φ (zK ops o.dst) o.op e ms none h nx).bind fun r=> .ret (.put o.dst r.1 r.2)
 |some (j,want)=>(match ops[j]? with
  |some oj=>(match oj.dst with
   |some tg=>(match guardOf e ms tg want with
    |some g=>bif Ie o.op
      then(dI g (G8 P Φ (zK ops o.dst) o.op e ms (some (tg,want)) h nx)).bind fun r=> .ret (.may o.dst tg want g r.1)
      else .ite g ((G8 P Φ (zK ops o.dst) o.op e ms (some (tg,want)) h nx).bind fun r=> .ret (.put o.dst r.1 r.2)) (.ret (.put o.dst .junk []))
    |none=> .fail)
   |none=> .fail)
  |none=> .fail)
def Ec(P:Program)(Φ:iL)(ops:List Oper)(o:Oper)(nx:Nat)(s:RS):F RS:=
 (wS P Φ ops o nx s.env s.aI s.hp).bind fun e=> .ret (s.app e)
def looksAt(ops:List Oper)(o:Oper):List Nat:=
 (o.op.operands.toList.filterMap fun| .tmp t=>some t|_=>none)++
 (match o.guard with
  |some (g,_)=>(match ops[g]? with|some og=>og.dst.toList|none=>[])
  |none=>[])
def touches:Op->Bool
 | .load .. | .store .. | .slice .. | .indexAddr .. | .convert .. | .call _| .buildSlice .. | .sliceToArrayPointer .. =>true
 |_=>false
def nG(o:Oper)(ρ:Operand->AV):List Nat:=
 bif touches o.op then o.op.operands.toList.flatMap fun x=>jB (ρ x)else []
def Eff.keys:Eff->List Nat
 | .put _ _ u=>u.map (·.1)
 | .may .. =>[]
structure Mask where
 n:Nat
instance:Membership Nat Mask:=⟨fun m b=>m.n.testBit b=true⟩
structure kS where
 i:Nat
 before : Mask      -- the operations that stand before it in any order
 dst:Option Nat
 looks:List Nat
 reads:List Nat
 writes:List Nat
 tg : Option Nat        -- what its guard looks at
def meets(a b:List Nat):Bool:=a.any fun x=>b.any fun y=>MQ x y
def uo(a b:kS):Bool:=
 (match a.dst with|some d=> !(b.looks.any (MQ d))&& !(b.dst==some d)|none=>true)&&
 (match b.dst with|some d=> !(a.looks.any (MQ d))|none=>true)&&
 !(meets a.writes b.reads)&& !(meets a.writes b.writes)&& !(meets a.reads b.writes)
def iF(j:Nat):List kS->Nat
 |[]=>0
 |f::r=>bif MQ f.i j then f.before.n else iF j r
def tJ(o:Oper)(fs:List kS):Mask:=
 ⟨o.after.toList.foldl (fun a e=>bif OI .any e then a ||| (1 <<< e.on ||| iF e.on fs)else a) 0⟩
def restrict(h:Hp)(l:List Nat):Hp:=l.filterMap fun b=>match h.get b with|some o=>some (b,o)|none=>none
def fO(ops:List Oper)(o:Oper):Option (Nat×Bool):=
 match o.guard with
 |some (j,w)=>(match ops[j]? with|some oj=>(match oj.dst with|some t=>some (t,w)|none=>none)|none=>none)
 |none=>none
def hits:Option Nat->Option Nat->Bool
 |some a,some b=>MQ a b
 |_,_=>false
def inOrder(k:Nat)(o:Oper)(fs:List kS):Bool:=o.after.toList.all fun e=> !(OI .any e)||NM e.on k||fs.any fun f=>MQ f.i e.on
def iQ(P:Program)(Φ:iL)(ops:List Oper)(k:Nat):List Nat->Nat->List kS->RS->F RS
 |[],_,_,s=> .ret s
 |i::r,nx,fs,s=>match ops[i]? with
  |some o=>
   let rd:=nG o (aS s.env s.aI (fO ops o))
   (wS P Φ ops o (nx+i) s.env s.aI (restrict s.hp rd)).bind fun e=>
    let f:kS:=⟨i,tJ o fs,o.dst,looksAt ops o,rd,e.keys,(fO ops o).map (·.1)⟩
    bif inOrder k o fs&&fs.all (fun g=>(f.before.n.testBit g.i||uo g f)&& !hits f.dst g.tg)then iQ P Φ ops k r nx (f::fs) (s.app e)else .fail
  |none=> .fail
def binding(o:Oper):List Nat:=o.after.toList.filterMap fun e=>bif OI .any e then some e.on else none
def masks:List Oper->List Nat->List Nat
 |[],ms=>ms
 |o::r,ms=>masks r (ms++[(binding o).foldl (fun a j=>a ||| (1 <<< j ||| ms.getD j 0)) 0])
def Cm(ms:List Nat)(n b:Nat):Bool:=
 NM b n&&(NY b).all (fun i=>(ms.getD b 0).testBit i)&&(Oc (b+1) (n-(b+1))).all fun i=>(ms.getD i 0).testBit b
def kQ(ops:Array Oper)(b:Nat):Bool:=Cm (masks ops.toList []) ops.size b
def mayEnter(inl:FuncId->Bool)(o:Oper):Bool:=
 match o.op with
 | .call c=>(match c.callee with
  | .value (.func f)=>inl f
  | .value _=>true
  | .invoke .. =>true
  | .builtin .recover=>true
  | .builtin _=>false)
 | .panic _| .defer _=>true
 |_=>false
def Ea(inl:FuncId->Bool)(ops:Array Oper)(i:Nat):Nat:=
 let ms:=masks ops.toList []
 match (Oc i (ops.size-i)).find? fun b=>(match ops[b]? with|some o=>mayEnter inl o|none=>false)&&Cm ms ops.size b with
 |some b=>b
 |none=>ops.size
def IC(ops:Array Oper):Bool:=(NY ops.size).all fun i=>match ops[i]? with|some o=>(binding o).all fun j=>NM j i|none=>true
def uniq:List May->List May
 |[]=>[]
 |m::r=>m::(uniq r).filter fun x=> !(MQ x.t m.t)
def CB(ops:Array Oper)(is:List Nat)(ms:List May):Bool:=is.all fun i=>match ops[i]? with|some o=>ms.all fun m=> !hits o.dst (some m.tg)|none=>true
def zf(m:Qc)(ops:List Oper):List Nat->List Nat->Bool
 |_,[]=>true
 |pre,i::r=>(match ops[i]? with
  |some o=>o.after.toList.all fun e=> !(OI m e)||pre.any (MQ e.on)
  |none=>false)&&zf m ops (i::pre) r
def mX(m:Qc)(ops:Array Oper)(W:List Nat):Bool:=((NY ops.size).all fun i=>W.any (MQ i))&&zf m ops.toList [] W
def nX(P:Program)(ops:Array Oper):Bool:=
 P.follows .mixedOrders|| !Region.departs ops||(mX .text ops (NY ops.size)&&mX .gc ops (Region.linearise .gc ops 0))
def lq(id:Nat):List aP->Option (List aP)
 | .inBlock i::k=>bif MQ i id then some k else lq id k
 |_::k=>lq id k
 |[]=>none
def bZ(n:Nat):Code->Bool
 | .seq a b=>bZ n a&&bZ n b
 | .cond _ a b=>bZ n a&&bZ n b
 | .block _ c=>bZ n c
 | .loop c=>bZ n c
 | .scope c=>bZ n c
 | .rangeFunc _ ps a b=>ps.toList.all (fun p=>NM p n)&&bZ n a&&bZ n b
 | .region _ ops _=>ops.toList.all fun o=>(match o.dst with|some d=>NM d n|none=>true)&& !hits o.dst ((fO ops.toList o).map (·.1))
 |_=>true
def aW(P:Program)(f:FuncId)(args:List AV):Option aA:=
 match P.funcs[f]? with
 |some fn=>bif(match fn.body with|some c=>bZ fn.ntmps c|none=>false)&& !(fn.name== "runtime.NumGoroutine")then some {fn:=f,env:=(NY args.length).zip args,aI:=[],items:=[.code []]}else none
 |none=>none
def Ig(P:Program)(h:Hp)(e:Env):List ResultVar->F (List AV)
 |[]=> .ret []
 | .tmp t::r=>(Ig P h e r).bind fun l=> .ret (e.get t::l)
 | .cell a t::r=>(DY P h t (e.get a)).bind fun v=>(Ig P h e r).bind fun l=> .ret (v.1::l)
def lQ(P:Program)(h:Hp)(fr:aA):F AV:=
 match P.funcs[fr.fn]? with
 |some fn=>(Ig P h fr.env fn.results.toList).bind fun l=>match l with
   |[v]=> .ret v
   |l=> .ret (.gG l)
 |none=> .fail
inductive Out where
 |go (st:St)
 |done (v:AV) (h:Hp)
def oO(P:Program)(o:Oper)(ρ:Operand->AV):Option (Fn×List AV):=
 match o.op with
 | .call c=>(match c.callee with
  | .value f=>(match ρ f with
   | .fn (.func g) first cap=>some (.func g,first++c.args.toList.map ρ++cap)
   | .fn (.yield l) [] _=>some (.yield l,c.args.toList.map ρ)
   |_=>none)
  | .invoke r name=>(match ρ r with
   | .iface t v=>(match tN P t name with
    |some g=>some (.func g,v::c.args.toList.map ρ)
    |none=>none)
   |_=>none)
  |_=>none)
 |_=>none
def DR(ops:Array Oper)(j:Nat):Option Nat:=match ops[j]? with|some oj=>oj.dst|none=>none
def Jo(P:Program)(t:TypeId):AV:=match zeroOf P t with|some [v]=>v|_=> .junk
def Ej(P:Program)(st:St)(fr:aA)(fF:List aA)(o:Oper)(tg:Nat)(want q:Bool)(items:List aP):F Out:=
 let s:=RS.app ⟨fr.env,fr.aI,st.hp⟩ (.may o.dst tg want q (Jo P o.type))
 .ret (.go {frames:= {fr with env:=s.env,aI:=s.aI,items:=items}::fF,hp:=s.hp,nx:=st.nx+1})
def opAt(P:Program)(f:FuncId)(p:Path)(i:Nat):Option Oper:=
 match aU P f p with
 | .region _ ops d=>bif !d||kQ ops i then ops[i]? else none
 |_=>none
def jw(P:Program)(c:aA)(v:AV):Option aA:=
 match c.items with
 | .inRegion p (i::r)::k=>(match opAt P c.fn p i with
  |some o=>(match o.dst with
   |some d=>some {c with env:=(d,v)::c.env,aI:=gq c.aI d,items:= .inRegion p r::k}
   |none=>some {c with items:= .inRegion p r::k})
  |none=>none)
 | .inRange l::k=>some {c with items:= .bF l::k}
 |_=>none
def uG(P:Program)(st:St)(fF:List aA)(h:Hp)(v:AV):F Out:=
 match fF with
 |[]=> .ret (.done v h)
 |c::cs=>match jw P c v with
  |some c'=> .ret (.go {st with frames:=c'::cs,hp:=h})
  |none=> .fail
def gX:List dP->Hp->Option Hp
 |[],h=>some h
 | .mark b::r,h=>(match h.get b with
  |some (.deferred false)=>gX r ((b,.deferred true)::h)
  |_=>none)
 | .call _ _::_,_=>none
def qX:List dP->Bool
 |[]=>true
 | .mark _::r=>qX r
 | .call _ _::_=>false
def Iq(c:aA):Option aA:=
 match c.un with
 |some ((_,true)::_)=>some {c with un:=some []}
 |some _=>some c
 |none=>none
def zJ(P:Program)(st:St)(fr:aA)(fF:List aA)(ch:List (AV×Bool)):F Out:=
 match fr.marks with
 | .mark b::ds=>(match st.hp.get b with
  |some (.deferred false)=> .ret (.go {st with frames:= {fr with marks:=ds}::fF,hp:=(b,.deferred true)::st.hp})
  |_=> .fail)
 | .call f args::ds=>(match aW P f args with
  |some g=> .ret (.go {st with frames:= {g with dk:=true}:: {fr with marks:=ds}::fF})
  |none=> .fail)
 |[]=>(match ch with
  |[]=>(lQ P st.hp fr).bind fun v=>bif fr.dk
   then(match fF with
    |c::cs=>(match Iq c with|some c'=> .ret (.go {st with frames:=c'::cs})|none=> .fail)
    |[]=> .fail)
   else uG P st fF st.hp v
  |_::_=>(match fF with
   |c::cs=> .ret (.go {st with frames:= {c with un:=some (ch++(match c.un with|some l=>l|none=>[]))}::cs})
   |[]=> .fail))
def lG(P:Program)(st:St)(fr:aA)(fF:List aA)(j:Option Jump):F Out:=
 match fr.round with
 |none=>(match j with
  |some (.exit _)=> .fail
  |_=>bif qX fr.marks&& !fr.dk then(match gX fr.marks st.hp with
   |some h=>(lQ P h fr).bind fun v=>uG P st fF h v
   |none=> .fail)else .ret (.go {st with frames:= {fr with un:=some []}::fF}))
 |some l=>bif fr.dk then .fail else(match st.hp.get l with
  |some (.loop _ _ fn env ps p d)=>uG P st fF ((l,.loop (match j with|none=> .ready|some _=> .done) j fn env ps p d)::st.hp) (.bool j.isNone)
  |_=> .fail)
def fH:List Nat->List AV->Env->Option Env
 |[],[],e=>some e
 |t::ts,v::vs,e=>fH ts vs ((t,v)::e)
 |_,_,_=>none
def C_(P:Program)(st:St)(fr:aA)(fF:List aA)(p:Path)(f:Operand)(ps:List Nat)(k:List aP):F Out:=
 match Ag fr.env f,fr.round with
 | .fn (.func g) first cap,none=>
  (match aW P g (first++[.fn (.yield (st.nx+1)) [] []]++cap)with
  |some callee=> .ret (.go {frames:=callee:: {fr with items:= .inRange (st.nx+1)::k,marks:= .mark st.nx::fr.marks}::fF,hp:=(st.nx+1,.loop .ready none fr.fn fr.env ps p st.nx)::(st.nx,.deferred false)::st.hp,nx:=st.nx+2})
  |none=> .fail)
 | .fn (.func g) first cap,some l=>(match st.hp.get l with
  |some (.loop _ _ _ _ _ _ d)=>(match aW P g (first++[.fn (.yield st.nx) [] []]++cap)with
   |some callee=> .ret (.go {frames:=callee:: {fr with items:= .inRange st.nx::k}::fF,hp:=(st.nx,.loop .ready none fr.fn fr.env ps p d)::st.hp,nx:=st.nx+1})
   |none=> .fail)
  |_=> .fail)
 |_,_=> .fail
def zN(st:St)(fr:aA)(fF:List aA)(l:Nat)(args:List AV):F Out:=
 match st.hp.get l with
 |some (.loop _ _ fn env ps p _)=>(match fH ps args env with
  |some e=> .ret (.go {st with frames:= {fn:=fn,env:=e,aI:=[],items:=[.code (p++[.l]),.beginRound,.code (p++[.r])],round:=some l}::fr::fF})
  |none=> .fail)
 |_=> .fail
def Jm:Op->Bool
 | .panic _| .defer _=>true
 | .call c=>(match c.callee with| .builtin .recover=>true|_=>false)
 |_=>false
def GX(P:Program)(st:St)(fr:aA)(fF:List aA)(op:Op):F Out:=
 bif fr.round.isSome then .fail else
 match op with
 | .panic x=>(match aS fr.env fr.aI none x with
  | .iface t v=> .ret (.go {st with frames:= {fr with un:=some [(.iface t v,false)]}::fF})
  |_=> .fail)
 | .defer c=>(match c.callee with
  | .value f=>(match aS fr.env fr.aI none f with
   | .fn (.func g) first cap=>(match jw P {fr with marks:= .call g (first++c.args.toList.map (aS fr.env fr.aI none)++cap)::fr.marks} .junk with
    |some fr'=> .ret (.go {st with frames:=fr'::fF})
    |none=> .fail)
   |_=> .fail)
  |_=> .fail)
 | .call c=>(match c.callee with
  | .builtin .recover=>(match fr.dk,fF with
   |true,g::gs=>(match g.un with
    |some ((v,false)::older)=>(match jw P fr v with
     |some fr'=> .ret (.go {st with frames:=fr':: {g with un:=some ((v,true)::older)}::gs})
     |none=> .fail)
    |_=>(match jw P fr .nilIface with
     |some fr'=> .ret (.go {st with frames:=fr'::fF})
     |none=> .fail))
   |_,_=>(match jw P fr .nilIface with
    |some fr'=> .ret (.go {st with frames:=fr'::fF})
    |none=> .fail))
  |_=> .fail)
 |_=> .fail
def Es(P:Program)(Φ:iL)(inl:FuncId->Bool)(st:St):F Out:=
 match st.frames with
 |[]=> .fail
 |fr::fF=>
  let to (k:List aP):F Out:= .ret (.go {st with frames:= {fr with items:=k}::fF})
  match fr.un with
  |some ch=>zJ P st fr fF ch
  |none=>match fr.items with
  |[]=>lG P st fr fF none
  | .jmp .ret::_=>lG P st fr fF (some .ret)
  | .jmp (.exit id)::k=>(match lq id k with|some k'=>to k'|none=>lG P st fr fF (some (.exit id)))
  | .inBlock _::k=>to k
  | .inScope _::k=>to k
  | .inLoop p::k=>to (.code p:: .inLoop p::k)
  | .code p::k=>(match aU P fr.fn p with
   | .skip=>to k
   | .label _=>to k
   | .seq _ _=>to (.code (p++[.l]):: .code (p++[.r])::k)
   | .cond c _ _=>(match Ag fr.env c with
    | .bool b=> .ite b (to (.code (p++[.l])::k)) (to (.code (p++[.r])::k))
    |_=> .fail)
   | .block id _=>to (.code (p++[.l]):: .inBlock id::k)
   | .loop _=>to (.code (p++[.l]):: .inLoop (p++[.l])::k)
   | .scope _=>to (.code (p++[.l]):: .inScope (p++[.l])::k)
   | .exit id=>(match lq id k with|some k'=>to k'|none=>lG P st fr fF (some (.exit id)))
   | .ret=>lG P st fr fF (some .ret)
   | .rangeFunc f ps _ _=>C_ P st fr fF p f ps.toList k
   | .region _ ops draw=>bif draw
    then bif !(nX P ops)then .fail else bif ops.toList.any (mayEnter inl)
     then bif IC ops then .ret (.go {st with frames:= {fr with aI:=[],items:= .inRegion p (Oc 0 (ops.size-0))::k}::fF})else .fail
     else(iQ P Φ ops.toList 0 (Oc 0 (ops.size-0)) st.nx [] ⟨fr.env,[],st.hp⟩).bind fun s=>
     .ret (.go {frames:= {fr with env:=s.env,aI:=[],items:=k}::fF,hp:=s.hp,nx:=st.nx+ops.size})
    else to (.inRegion p (NY ops.size)::k)
   |_=> .fail)
  | .inRegion _ []::k=> .ret (.go {st with frames:= {fr with aI:=[],items:=k}::fF})
  | .inRegion p (i::r)::k=>(match aU P fr.fn p with
   | .region _ ops draw=>
    let b:=Ea inl ops i
    bif draw&&NM i b then
     bif CB ops (Oc i (b-i)) (uniq fr.aI)then(iQ P Φ ops.toList i (Oc i (b-i)) st.nx [] ⟨fr.env,uniq fr.aI,st.hp⟩).bind fun s=>
      .ret (.go {frames:= {fr with env:=s.env,aI:=s.aI,items:= .inRegion p (Oc b (ops.size-b))::k}::fF,hp:=s.hp,nx:=st.nx+ops.size})
     else .fail
    else bif !draw||kQ ops i then(match ops[i]? with
    |some o=>
     let loc:F Out:=(Ec P Φ ops.toList o st.nx ⟨fr.env,fr.aI,st.hp⟩).bind fun s=>
      .ret (.go {frames:= {fr with env:=s.env,aI:=s.aI,items:= .inRegion p r::k}::fF,hp:=s.hp,nx:=st.nx+1})
     (match o.guard with
     |none=>bif Jm o.op then GX P st fr fF o.op else(match oO P o (aS fr.env fr.aI none)with
      |some (.func f,args)=>bif inl f
       then(match aW P f args with
        |some g=> .ret (.go {st with frames:=g::fr::fF})
        |none=> .fail)
       else loc
      |some (.yield l,args)=>zN st fr fF l args
      |_=>loc)
     |some (j,want)=>(match DR ops j with
      |some tg=>(match oO P o (aS fr.env fr.aI (some (tg,want)))with
       |some (.func f,args)=>bif inl f
        then(match guardOf fr.env fr.aI tg want with
         |some q=> .ite q (match aW P f args with
           |some g=> .ret (.go {st with frames:=g::fr::fF})
           |none=> .fail) (Ej P st fr fF o tg want q (.inRegion p r::k))
         |none=> .fail)
        else loc
       |some (.yield l,args)=>(match guardOf fr.env fr.aI tg want with
        |some q=> .ite q (zN st fr fF l args) (Ej P st fr fF o tg want q (.inRegion p r::k))
        |none=> .fail)
       |_=>loc)
      |none=>loc))
    |none=> .fail)else .fail
   |_=> .fail)
  | .beginRound::k=>(match fr.round with
   |some l=>(match st.hp.get l with
    |some (.loop .ready pend fn env ps p d)=> .ret (.go {st with frames:= {fr with items:=k}::fF,hp:=(l,.loop .busy pend fn env ps p d)::st.hp})
    |_=> .fail)
   |none=> .fail)
  | .bF l::k=>(match st.hp.get l with
   |some (.loop .busy _ _ _ _ _ _)=> .fail
   |some (.loop _ pend fn env ps p d)=> .ret (.go {st with frames:= {fr with items:=(match pend with|some j=> .jmp j::k|none=>k)}::fF,hp:=(l,.loop .exhausted pend fn env ps p d)::st.hp})
   |_=> .fail)
  | .inRange _::_=> .fail
def run{α:Type}(P:Program)(Φ:iL)(inl:FuncId->Bool)(cuts:St->Option (Option α))(fin:AV->Hp->Option α):Nat->St->Option α
 |0,_=>none
 |n+1,st=>(Es P Φ inl st).run fun o=>match o with
  | .done v h=>fin v h
  | .go st'=>match cuts st' with
   |some r=>r
   |none=>run P Φ inl cuts fin n st'
end Go.AM
end
section
namespace Go.AM
open Go.RowKit
structure tC where
 ver:Nat
 cb:Option Nat
 len:Nat
 perm:Bool
structure Cx where
 w:World
 RO:Nat->Nat->Prop
 M:Nat->Option tC
def Cat{α β:Type}(R:α->List β->Prop):List α->List β->Prop
 |[],cs=>cs=[]
 |x::xs,cs=> ∃c1 c2,cs=c1++c2/\R x c1/\Cat R xs c2
def Cells(C:Cx)(b o:Nat)(ds:List Value):Prop:=
 ∀j v,ds[j]?=some v->C.w.cell? ⟨b,o+j,none⟩=some v/\C.RO b (o+j)
def Rep(C:Cx):(t:Ty)->t.den->List Value->Prop
 | .int k,x,cs=>cs=[.int k x]/\ak k x=true
 | .bool,x,cs=>cs=[.bool x]
 | .str,x,cs=> ∃s,cs=[.string s]/\bytesOf s=x
 | .lst t,xs,cs=> ∃a n c,cs=[.slice a n c]/\n=M_ (α:=t.den) xs/\n<=c/\
   (((xs:List t.den)=[]/\(a=none->c=0))\/ ∃b o ds,a=some ⟨b,o,none⟩/\Cat (Rep C t) xs ds/\Cells C b o ds)
 | .arr n t,xs,cs=>M_ (α:=t.den) xs=n/\Cat (Rep C t) xs cs
 | .unit,_,cs=>cs=[]
 | .pair a b,x,cs=> ∃c1 c2,cs=c1++c2/\Rep C a x.1 c1/\Rep C b x.2 c2
theorem Cat.length{α β:Type}{R:α->List β->Prop}{z:Nat}(h: ∀x cs,R x cs->cs.length=z):
  ∀ {xs:List α} {cs:List β},Cat R xs cs->cs.length=xs.length*z
 |[],cs,e=>by obtain rfl:cs=[]:=e;simp
 |x::xs,cs,⟨c1,c2,e,h1,h2⟩=>by subst e;rw[Nk,h _ _ h1,Cat.length h h2,List.length_cons,Ot];omega
theorem Rep.length{C:Cx}: ∀ {t:Ty} {x:t.den} {cs:List Value},Rep C t x cs->cs.length=t.size
 | .int _,_,_,h=>by obtain⟨rfl,_⟩:=h;rfl
 | .bool,_,_,h=>by obtain rfl:=h;rfl
 | .str,_,_,h=>by obtain⟨_,rfl,_⟩:=h;rfl
 | .lst _,_,_,h=>by obtain⟨_,_,_,rfl,_⟩:=h;rfl
 | .arr n t,xs,cs,h=>by
  obtain⟨e,h⟩:=h;rw[Cat.length (fun x cs h=>Rep.length h) h,e];rfl
 | .unit,_,_,h=>by obtain rfl:=h;rfl
 | .pair a b,_,_,h=>by obtain⟨c1,c2,rfl,h1,h2⟩:=h;rw[Nk,h1.length,h2.length];rfl
theorem Cat.mono{α β:Type}{R S:α->List β->Prop}(h: ∀x cs,R x cs->S x cs): ∀ {xs:List α} {cs:List β},Cat R xs cs->Cat S xs cs
 |[],_,e=>e
 |_::_,_,⟨c1,c2,e,h1,h2⟩=>⟨c1,c2,e,h _ _ h1,Cat.mono h h2⟩
theorem Cat.append{α β:Type}{R:α->List β->Prop}: ∀ {xs ys:List α} {cs ds:List β},Cat R xs cs->Cat R ys ds->Cat R (xs++ys) (cs++ds)
 |[],_,_,_,e,h=>by obtain rfl:=e;simpa using h
 |_::_,_,_,_,⟨c1,c2,e,h1,h2⟩,h=>⟨c1,c2++_,by rw[e,MZ],h1,Cat.append h2 h⟩
theorem Cat.split{α β:Type}{R:α->List β->Prop}{z:Nat}(hz: ∀x cs,R x cs->cs.length=z):
  ∀(k:Nat) {xs:List α} {cs:List β},Cat R xs cs->Cat R (xs.take k) (cs.take (k*z))/\Cat R (xs.drop k) (cs.drop (k*z))
 |0,xs,cs,h=>by simpa[Cat]using h
 |k+1,[],cs,h=>by obtain rfl:cs=[]:=h;simp[Cat]
 |k+1,x::xs,cs,⟨c1,c2,e,h1,h2⟩=>by
  have l1:=hz _ _ h1;have:=Cat.split hz k h2;subst e;have e1:(k+1)*z=c1.length+k*z:=by rw[l1,Ot];omega
  rw[e1,List.take_length_add_append,List.drop_length_add_append];exact⟨⟨c1,_,rfl,h1,this.1⟩,this.2⟩
theorem Cat.get{α β:Type}{R:α->List β->Prop}{z:Nat}(hz: ∀x cs,R x cs->cs.length=z){xs:List α}{cs:List β}(h:Cat R xs cs)
  {k:Nat} (hk:k<xs.length):R xs[k] ((cs.drop (k*z)).take z):=by
 have h2:=(Cat.split hz k h).2;rw[Ov hk]at h2;obtain⟨c1,c2,e,h1,_⟩:=h2;rw[e,<-hz _ _ h1,Oh];exact h1
theorem Cat.set{α β:Type}{R:α->List β->Prop}{z:Nat}(hz: ∀x cs,R x cs->cs.length=z){xs:List α}{cs:List β}(h:Cat R xs cs)
  {k:Nat} (hk:k<xs.length) {y:α} {ds:List β} (hy:R y ds):Cat R (xs.set k y) (cs.take (k*z)++(ds++cs.drop (k*z+z))):=by
 have h1:=(Cat.split hz k h).1;have h2:=(Cat.split hz (k+1) h).2;rw[List.set_eq_take_append_cons_drop,if_pos hk];refine Cat.append h1 ⟨ds,_,rfl,hy,?_⟩;rw[Ot,Nat.one_mul]at h2;exact h2
structure Cx.Le(C C':Cx):Prop where
 ro: ∀b j,C.RO b j->C'.RO b j
 cell: ∀b j,C.RO b j->C'.w.cell? ⟨b,j,none⟩=C.w.cell? ⟨b,j,none⟩
 ent: ∀b e,C.M b=some e-> ∃e',C'.M b=some e'/\e.ver<=e'.ver/\(e.ver=e'.ver->e'=e)/\(e.perm=true->e'=e)
 sz: ∀b j,(C.w.cell? ⟨b,j,none⟩).isSome=true->(C'.w.cell? ⟨b,j,none⟩).isSome=true
theorem Cx.Le.refl(C:Cx):C.Le C:=⟨fun _ _ h=>h,fun _ _ _=>rfl,fun _ e h=>⟨e,h,Nv _,fun _=>rfl,fun _=>rfl⟩,fun _ _ h=>h⟩
theorem Cx.Le.trans{A B C:Cx}(h:A.Le B)(k:B.Le C):A.Le C where
 ro b j r:=k.ro _ _ (h.ro _ _ r)
 cell b j r:=(k.cell _ _ (h.ro _ _ r)).trans (h.cell _ _ r)
 ent b e r:=by
  obtain⟨e',h1,h2,h3,h4⟩:=h.ent _ _ r;obtain⟨e'',k1,k2,k3,k4⟩:=k.ent _ _ h1;refine⟨e'',k1,NZ h2 k2,fun q=> ?_,fun q=> ?_⟩
  ·have:e.ver=e'.ver:=by omega
   obtain rfl:=h3 this;exact k3 (by omega)
  ·obtain rfl:=h4 q;exact k4 q
 sz b j r:=k.sz _ _ (h.sz _ _ r)
theorem Cells.mono{C C':Cx}(l:C.Le C'){b o:Nat}{ds:List Value}(h:Cells C b o ds):Cells C' b o ds:=
 fun j v e=>let ⟨h1,h2⟩:=h j v e;⟨(l.cell _ _ h2).trans h1,l.ro _ _ h2⟩
theorem Rep.mono{C C':Cx}(l:C.Le C'): ∀ {t:Ty} {x:t.den} {cs:List Value},Rep C t x cs->Rep C' t x cs
 | .int _,_,_,h=>h
 | .bool,_,_,h=>h
 | .str,_,_,h=>h
 | .lst t,_,_,⟨a,n,c,e,e1,e2,h⟩=>⟨a,n,c,e,e1,e2,h.imp id fun ⟨b,o,ds,e3,h1,h2⟩=>⟨b,o,ds,e3,h1.mono fun _ _=>Rep.mono l,h2.mono l⟩⟩
 | .arr _ t,_,_,⟨e,h⟩=>⟨e,h.mono fun _ _=>Rep.mono l⟩
 | .unit,_,_,h=>h
 | .pair _ _,_,_,⟨c1,c2,e,h1,h2⟩=>⟨c1,c2,e,h1.mono l,h2.mono l⟩
def aG:List jq->Nat
 |[]=>0
 | .off d::r=>d+aG r
 | .ix i z _::r=>i.toNat*z+aG r
def jJ(len:Nat):List jq->Prop
 |[]=>True
 | .off _::r=>jJ len r
 | .ix i _ m::r=>0<=i/\i<(m.getD len:Nat)/\jJ len r
def Ey(C:Cx)(c:Nat)(n:Nat):Prop:= ∀j,j<n->(C.w.cell? ⟨c,j,none⟩).isSome=true
def dO(C:Cx)(e:tC)(t:Ty)(v:Value):Prop:=
 match e.cb with
 |some c=> ∃cap,v= .slice (some ⟨c,0,none⟩) e.len cap/\e.len<=cap/\Ey C c (cap*t.size)
 |none=>e.len=0/\v= .slice none 0 0
def iW(C:Cx)(e:tC)(o:Nat)(m:Option Nat)(t:Ty)(i n:Int)(v:Value):Prop:=
 0<=i/\0<=n/\i+n<=(m.getD e.len:Nat)/\
 match e.cb with
 |none=>m=none/\e.len=0/\v= .slice none 0 0
 |some c=> ∃a cap,v= .slice (some a) n.toNat cap/\(cap≠0->a=⟨c,o+i.toNat*t.size,none⟩)/\(m.getD e.len:Nat)<=i.toNat+cap/\Ey C c (o+(i.toNat+cap)*t.size)
def cellV:Value->Bool
 | .agg _| .tuple _=>false
 |_=>true
def Jw(C:Cx)(f f':Fn):Prop:=
 match f with
 | .yield l=> ∃e c,C.M l=some e/\e.perm=true/\e.cb=some c/\f'= .yield c
 |f=>f'=f
mutual
inductive VR (C:Cx):AV->Value->Prop
 |junk (v:Value):VR C .junk v
 |int {k n}:ak k n=true->VR C (.int k n) (.int k n)
 |bool {b}:VR C (.bool b) (.bool b)
 |str {s l}:bytesOf s=l->VR C (.str l) (.string s)
 |lst {t xs v}:Rep C (.lst t) xs [v]->VR C (.lst t xs) v
 |iO {t xs v}:Rep C (.lst t) xs [v]->(∃a n c,v= .slice (some a) n c)->VR C (.iO t xs) v
 |arr {n t xs cs}:Rep C (.arr n t) xs cs.toList->VR C (.arr n t xs) (.agg cs)
 |rp {t x o b p ds}:Rep C t x ds->Cells C b p ds->VR C (.rp t x o) (.pointer (some ⟨b,p+o,none⟩))
 |ptr {b v o path e val}:C.M b=some e->v<=e.ver->(v=e.ver-> ∃c,e.cb=some c/\val= .pointer (some ⟨c,o+aG path,none⟩)/\jJ e.len path)->(∃a,val= .pointer (some a))->VR C (.ptr b v o path) val
 |own {b v t e val}:C.M b=some e->v<=e.ver->(v=e.ver->dO C e t val)->(∃a n c,val= .slice a n c)->VR C (.own b v t) val
 |slc {b v o m t i n e val}:C.M b=some e->v<=e.ver->(v=e.ver->iW C e o m t i n val)->(∃a n c,val= .slice a n c)->VR C (.slc b v o m t i n) val
 |kP {b v n e val}:C.M b=some e->v<=e.ver->(v=e.ver-> ∃c,e.cb=some c/\val= .slice (some ⟨c,0,none⟩) n n)->(∃a n c,val= .slice (some a) n c)->VR C (.kP b v n) val
 |aC:VR C .aC (.slice none 0 0)
 |nilPtr:VR C .nilPtr (.pointer none)
 |nilFn:VR C .nilFn .nilFunc
 |nilIface:VR C .nilIface .nilIface
 |fn {f f' a b aZ bs}:Jw C f f'->bg C a aZ->bg C b bs->VR C (.fn f a b) (.func f' aZ.toArray bs.toArray)
 |iface {t x v}:VR C x v->VR C (.iface t x) (.iface t v)
 |agg {ps cs}:PR C ps cs->VR C (.agg ps) (.agg cs.toArray)
 |gG {vs cs}:bg C vs cs->VR C (.gG vs) (.tuple cs.toArray)
inductive bg (C:Cx):List AV->List Value->Prop
 |nil:bg C [] []
 |cons {a v aZ vs}:VR C a v->bg C aZ vs->bg C (a::aZ) (v::vs)
inductive PR (C:Cx):List AV->List Value->Prop
 |nil:PR C [] []
 |sc {p v ps vs}:VR C p v->p.fV=true->cellV v=true->PR C ps vs->PR C (p::ps) (v::vs)
 |arr {n t xs c1 ps c2}:Rep C (.arr n t) xs c1->PR C ps c2->PR C (.arr n t xs::ps) (c1++c2)
 |row {t xs c1 ps c2}:Cat (Rep C t) xs c1->PR C ps c2->PR C (.row t xs::ps) (c1++c2)
end
theorem Ey.mono{C C':Cx}(l:C.Le C'){c n:Nat}(h:Ey C c n):Ey C' c n:=fun j hj=>l.sz _ _ (h j hj)
theorem dO.mono{C C':Cx}(l:C.Le C'){e:tC}{t:Ty}{v:Value}(h:dO C e t v):dO C' e t v:=by
 unfold dO at*;split<;>simp_all
 obtain⟨cap,h1,h2,h3⟩:=h;exact⟨cap,h1,h2,h3.mono l⟩
theorem iW.mono{C C':Cx}(l:C.Le C'){e o m t i n v}(h:iW C e o m t i n v):iW C' e o m t i n v:=by
 unfold iW at*;obtain⟨h1,h2,h3,h4⟩:=h;refine⟨h1,h2,h3,?_⟩;revert h4;split
 ·exact id
 ·rintro⟨a,cap,k1,k2,k3,k4⟩;exact⟨a,cap,k1,k2,k3,k4.mono l⟩
theorem Jw.mono{C C':Cx}(l:C.Le C'){f f'}(h:Jw C f f'):Jw C' f f':=by
 cases f with
 |yield b=>
  obtain⟨e,c,h1,h2,h3⟩:=h;obtain⟨e',k1,k2,k3,k4⟩:=l.ent _ _ h1;obtain rfl:=k4 h2;exact⟨e',c,k1,h2,h3⟩
 |_=>exact h
mutual
theorem VR.mono{C C':Cx}(l:C.Le C'): ∀ {a v},VR C a v->VR C' a v
 |_,_,.junk v=> .junk v
 |_,_,.int h=> .int h
 |_,_,.bool=> .bool
 |_,_,.str h=> .str h
 |_,_,.lst h=> .lst (h.mono l)
 |_,_,.iO h k=> .iO (h.mono l) k
 |_,_,.arr h=> .arr (h.mono l)
 |_,_,.rp h1 h2=> .rp (h1.mono l) (h2.mono l)
 |_,_,.ptr h1 h2 h3 h4=>by
  obtain⟨e',k1,k2,k3,_⟩:=l.ent _ _ h1;exact .ptr k1 (NZ h2 k2) (fun q=>by
   (obtain rfl:=k3 (by omega);exact h3 q)) h4
 |_,_,.own h1 h2 h3 h4=>by
  obtain⟨e',k1,k2,k3,_⟩:=l.ent _ _ h1;exact .own k1 (NZ h2 k2) (fun q=>by
   (obtain rfl:=k3 (by omega);exact(h3 q).mono l)) h4
 |_,_,.slc h1 h2 h3 h4=>by
  obtain⟨e',k1,k2,k3,_⟩:=l.ent _ _ h1;exact .slc k1 (NZ h2 k2) (fun q=>by
   (obtain rfl:=k3 (by omega);exact(h3 q).mono l)) h4
 |_,_,.kP h1 h2 h3 h4=>by
  obtain⟨e',k1,k2,k3,_⟩:=l.ent _ _ h1;exact .kP k1 (NZ h2 k2) (fun q=>by
   (obtain rfl:=k3 (by omega);exact h3 q)) h4
 |_,_,.aC=> .aC
 |_,_,.nilPtr=> .nilPtr
 |_,_,.nilFn=> .nilFn
 |_,_,.nilIface=> .nilIface
 |_,_,.fn h1 h2 h3=> .fn (h1.mono l) (h2.mono l) (h3.mono l)
 |_,_,.iface h=> .iface (h.mono l)
 |_,_,.agg h=> .agg (h.mono l)
 |_,_,.gG h=> .gG (h.mono l)
theorem bg.mono{C C':Cx}(l:C.Le C'): ∀ {a v},bg C a v->bg C' a v
 |_,_,.nil=> .nil
 |_,_,.cons h1 h2=> .cons (h1.mono l) (h2.mono l)
theorem PR.mono{C C':Cx}(l:C.Le C'): ∀ {a v},PR C a v->PR C' a v
 |_,_,.nil=> .nil
 |_,_,.sc h1 h2 h3 h4=> .sc (h1.mono l) h2 h3 (h4.mono l)
 |_,_,.arr h1 h2=> .arr (h1.mono l) (h2.mono l)
 |_,_,.row h1 h2=> .row (h1.mono fun _ _=>Rep.mono l) (h2.mono l)
end
theorem foldl_add(l:List Nat)(a:Nat):l.foldl (· + ·) a=a+l.foldl (· + ·) 0:=by
 induction l generalizing a with
 |nil=>simp
 |cons x r ih=>simp only[PL];rw[ih,ih (0+x)];omega
@[simp] theorem G9:aH []=0:=rfl
@[simp] theorem lK(p:AV)(ps:List AV):aH (p::ps)=p.size+aH ps:=by unfold aH;simp only[O1,PL];rw[foldl_add];omega
@[simp] theorem ES(ps qs:List AV):aH (ps++qs)=aH ps+aH qs:=by
 induction ps with
 |nil=>simp
 |cons p r ih=>simp[ih];omega
theorem yF{p:AV}(h:p.fV=true):p.size=1:=by cases p<;>simp_all [AV.fV,AV.size]
theorem PR.length{C:Cx}: ∀ {ps cs},PR C ps cs->cs.length=aH ps
 |_,_,.nil=>rfl
 |_,_,.sc _ h2 _ h4=>by simp[yF h2,h4.length];omega
 |_,_,.arr h1 h2=>by simp[h2.length,h1.length,AV.size,Ty.size]
 |_,_,.row h1 h2=>by simp[h2.length,Cat.length (fun _ _ h=>Rep.length h) h1,AV.size]
theorem PR.append{C:Cx}: ∀ {ps cs qs ds},PR C ps cs->PR C qs ds->PR C (ps++qs) (cs++ds)
 |_,_,_,_,.nil,h=>h
 |_,_,_,_,.sc h1 h2 h3 h4,h=> .sc h1 h2 h3 (h4.append h)
 |_,_,_,_,.arr h1 h2,h=>by rw[MZ];exact .arr h1 (h2.append h)
 |_,_,_,_,.row h1 h2,h=>by rw[MZ];exact .row h1 (h2.append h)
theorem PR.wH{C:Cx}{p:AV}{ps:List AV}{cs:List Value}(h:PR C (p::ps) cs):
  ∃c1 c2,cs=c1++c2/\PR C [p] c1/\PR C ps c2/\c1.length=p.size:=by
 cases h with
 |sc h1 h2 h3 h4=>exact⟨[_],_,rfl,.sc h1 h2 h3 .nil,h4,by simp[yF h2]⟩
 |arr h1 h2=>exact⟨_,_,rfl,by simpa using PR.arr h1 .nil,h2,by rw[h1.length];rfl⟩
 |row h1 h2=>exact⟨_,_,rfl,by simpa using PR.row h1 .nil,h2,by rw[Cat.length (fun _ _ h=>Rep.length h) h1];rfl⟩
theorem PR.cons{C:Cx}{p:AV}{ps:List AV}{c1 c2:List Value}(h:PR C [p] c1)(k:PR C ps c2):PR C (p::ps) (c1++c2):=
 PR.append (ps:=[p]) h k
theorem PR.aJ{C:Cx}: ∀ {ps cs} (o:Nat),PR C ps cs->AM.aJ ps o≠[]->PR C (AM.aJ ps o) (cs.drop o)/\o<=cs.length
 |[],_,o,_,hn=>by simp[AM.aJ]at hn
 |p::ps,cs,o,h,hn=>by
  unfold AM.aJ at hn ⊢
  cases ho:MQ o 0 with
  |true=>obtain rfl:=ML ho;exact⟨by simpa using h,by simp⟩
  |false=>
   simp only[ho,cond_false]at hn ⊢
   cases hb:NM o p.size with
   |true=>simp[hb]at hn
   |false=>
    simp only[hb,cond_false]at hn ⊢
    have hle:p.size<=o:=by
     have: ¬o<p.size:=by intro h;rw[<-O9]at h;simp[hb]at h
     omega
    obtain⟨c1,c2,rfl,h1,h2,h3⟩:=h.wH;obtain⟨k1,k2⟩:=PR.aJ (o-p.size) h2 hn;refine⟨?_,by simp;omega⟩;rw[Nb,MW (by omega),Nq,h3];exact k1
theorem PR.take{C:Cx}: ∀ {n:Nat} {ps cs l},PR C ps cs->aO ps n=some l->PR C l (cs.take n)/\n<=cs.length
 |0,ps,cs,l,h,e=>by
  simp[aO]at e;subst e;exact⟨by simpa using PR.nil,by simp⟩
 |n+1,[],cs,l,h,e=>by simp[aO]at e
 |n+1,p::ps,cs,l,h,e=>by
  obtain⟨c1,c2,rfl,h1,h2,h3⟩:=h.wH;unfold aO at e;cases hb:Ox p.size (n+1)with
  |false=>simp[hb]at e
  |true=>
   simp only[hb,cond_true]at e;have hle:=Oj hb;split at e
   ·rename_i l' hl;obtain rfl:=MK e;obtain⟨k1,k2⟩:=PR.take h2 hl;refine⟨?_,by simp;omega⟩;rw[NG,NI (by omega),h3];exact h1.cons k1
   ·simp at e
 termination_by _ ps=>ps.length
end Go.AM
end
section
namespace Go.AM
theorem PR.Ae{C:Cx}: ∀ {n:Nat} {ps cs l},PR C ps cs->aO ps n=some l->PR C (ps.drop l.length) (cs.drop n)
 |0,ps,cs,l,h,e=>by simp[aO]at e;subst e;simpa using h
 |n+1,[],cs,l,h,e=>by simp[aO]at e
 |n+1,p::ps,cs,l,h,e=>by
  obtain⟨c1,c2,rfl,h1,h2,h3⟩:=h.wH;unfold aO at e;cases hb:Ox p.size (n+1)with
  |false=>simp[hb]at e
  |true=>
   simp only[hb,cond_true]at e;have hle:=Oj hb;split at e
   ·rename_i l' hl;obtain rfl:=MK e;have k1:=PR.Ae h2 hl;rw[Nb (l₁:=c1),@MW _ c1 _ (by omega),Nq,h3];exact k1
   ·simp at e
 termination_by _ ps=>ps.length
theorem PR.put{C:Cx}: ∀ {o:Nat} {n:Nat} {ps cs new qs ds},PR C ps cs->putCells ps o new n=some qs->PR C new ds->ds.length=n->
  PR C qs (cs.take o++(ds++cs.drop (o+n)))/\o+n<=cs.length
 |0,n,ps,cs,new,qs,ds,h,e,hn,hd=>by
  have e':(match aO ps n with|some l=>some (new++ps.drop l.length)|none=>none)=some qs:=by rw[<-e];cases ps<;>rfl
  split at e'
  ·rename_i l hl;obtain rfl:=MK e';obtain⟨k1,k2⟩:=h.take hl;have k3:=h.Ae hl;refine⟨?_,by omega⟩;simpa using hn.append k3
  ·simp at e'
 |o+1,n,[],cs,new,qs,ds,h,e,hn,hd=>by simp[putCells]at e
 |o+1,n,p::ps,cs,new,qs,ds,h,e,hn,hd=>by
  obtain⟨c1,c2,rfl,h1,h2,h3⟩:=h.wH;unfold putCells at e;cases hb:Ox p.size (o+1)with
  |false=>simp[hb]at e
  |true=>
   simp only[hb,cond_true]at e;have hle:=Oj hb;split at e
   ·rename_i l hl;obtain rfl:=MK e;obtain⟨k1,k2⟩:=PR.put h2 hl hn hd;refine⟨?_,by simp;omega⟩;rw[NG,NI (by omega),Nb,MW (by omega),Nq,h3,MZ];rw[show o+1+n-p.size=o+1-p.size+n by omega];exact h1.cons k1
   ·simp at e
 termination_by _ _ ps=>ps.length
theorem PR.lH{C:Cx}: ∀ {t:Ty} {x:t.den} {cs:List Value},Rep C t x cs->PR C (inj t x) cs
 | .int _,_,_,h=>by obtain⟨rfl,h⟩:=h;exact .sc (.int h) rfl rfl .nil
 | .bool,_,_,h=>by obtain rfl:=h;exact .sc .bool rfl rfl .nil
 | .str,_,_,h=>by obtain⟨_,rfl,h⟩:=h;exact .sc (.str h) rfl rfl .nil
 | .lst _,_,_,h=>by
  have h0:=h;obtain⟨_,_,_,rfl,_⟩:=h;exact .sc (.lst h0) rfl rfl .nil
 | .arr _ _,_,cs,h=>by have:=PR.arr h .nil;rw[OJ]at this;exact this
 | .unit,_,_,h=>by obtain rfl:=h;exact .nil
 | .pair _ _,_,_,⟨_,_,e,h1,h2⟩=>by subst e;exact(PR.lH h1).append (PR.lH h2)
theorem PR.pack{C:Cx}: ∀ {t:Ty} {ps:List AV} {cs:List Value} {x:t.den} {r:List AV},PR C ps cs->AM.pack t ps=some (x,r)->
  ∃c1 c2,cs=c1++c2/\Rep C t x c1/\PR C r c2
 | .int k,ps,cs,x,r,h,e=>by
  cases ps with
  |nil=>simp[AM.pack]at e
  |cons p ps=>
   cases p<;>simp[AM.pack]at e
   obtain⟨e0,e⟩:=e;obtain⟨e1,e2⟩:=ND e;cases h with
   |sc h1 h2 h3 h4=>
    cases h1 with
    |int hr=>subst e0;subst e1;subst e2;exact⟨[_],_,rfl,⟨rfl,hr⟩,h4⟩
 | .bool,ps,cs,x,r,h,e=>by
  cases ps with
  |nil=>simp[AM.pack]at e
  |cons p ps=>
   cases p<;>simp[AM.pack]at e
   obtain⟨e1,e2⟩:=ND e;cases h with
   |sc h1 h2 h3 h4=>
    cases h1 with
    |bool=>subst e1;subst e2;exact⟨[_],_,rfl,rfl,h4⟩
 | .str,ps,cs,x,r,h,e=>by
  cases ps with
  |nil=>simp[AM.pack]at e
  |cons p ps=>
   cases p<;>simp[AM.pack]at e
   obtain⟨e1,e2⟩:=ND e;cases h with
   |sc h1 h2 h3 h4=>
    cases h1 with
    |str hr=>subst e1;subst e2;exact⟨[_],_,rfl,⟨_,rfl,hr⟩,h4⟩
 | .lst t,ps,cs,x,r,h,e=>by
  cases ps with
  |nil=>simp[AM.pack]at e
  |cons p ps=>
   cases p<;>simp[AM.pack]at e
   case lst t' xs=>
    obtain⟨e0,e⟩:=e;subst e0;obtain⟨e1,e2⟩:=ND e;cases h with
    |sc h1 h2 h3 h4=>
     cases h1 with
     |lst hr=>subst e1;subst e2;exact⟨[_],_,rfl,hr,h4⟩
   case aC=>
    obtain⟨e1,e2⟩:=ND e;cases h with
    |sc h1 h2 h3 h4=>
     cases h1 with
     |aC=>subst e1;subst e2;exact⟨[_],_,rfl,⟨none,0,0,rfl,rfl,by omega,.inl ⟨rfl,fun _=>rfl⟩⟩,h4⟩
 | .arr n t,ps,cs,x,r,h,e=>by
  cases ps with
  |nil=>simp[AM.pack]at e
  |cons p ps=>
   cases p<;>simp[AM.pack]at e
   obtain⟨e0,e9,e⟩:=e;subst e0;subst e9;obtain⟨e1,e2⟩:=ND e;cases h with
   |sc h1 h2 h3 h4=>simp[AV.fV]at h2
   |arr h1 h2=>subst e1;subst e2;exact⟨_,_,rfl,h1,h2⟩
 | .unit,ps,cs,x,r,h,e=>by
  have e:some ((),ps)=some (x,r):=by rw[<-e];cases ps<;>rfl
  obtain⟨e1,e2⟩:=ND (MK e);subst e2;exact⟨[],cs,rfl,rfl,h⟩
 | .pair a b,ps,cs,x,r,h,e=>by
  have e:(match AM.pack a ps with
   |some (x,r')=>(match AM.pack b r' with|some (y,r'')=>some ((x,y),r'')|none=>none)
   |none=>none)=some (x,r):=by rw[<-e];cases ps<;>rfl
  split at e
  ·rename_i x1 r1 e1;split at e
   ·rename_i y1 r2 e2;obtain⟨e3,e4⟩:=ND (MK e);subst e3;subst e4;obtain⟨c1,c2,rfl,k1,k2⟩:=PR.pack h e1;obtain⟨c3,c4,rfl,k3,k4⟩:=PR.pack k2 e2;exact⟨c1++c3,c4,by simp,⟨c1,c3,rfl,k1,k3⟩,k4⟩
   ·simp at e
  ·simp at e
theorem PR.ay{C:Cx}{t:Ty}{ps:List AV}{cs:List Value}{x:t.den}(h:PR C ps cs)(e:AM.ay t ps=some x):Rep C t x cs:=by
 unfold AM.ay at e;split at e
 ·rename_i y e1;obtain rfl:=MK e;obtain⟨c1,c2,rfl,k1,k2⟩:=h.pack e1;cases k2;simpa using k1
 ·simp at e
theorem pY{α:Type}(d:α){xs:List α}{i:Int}(h0:0<=i)(h1:i<xs.length): ∃h:i.toNat<xs.length,rd d xs i=xs[i.toNat]:=by
 have h:i.toNat<xs.length:=by omega
 refine⟨h,?_⟩;unfold rd;simp[h]
theorem Rep.sub{C:Cx}: ∀ {t:Ty} {x:t.den} {cs:List Value} {o:Nat} {s:Sub t.den},Rep C t x cs->jF t x o=some s->
  s.n=some s.xs.length/\o+s.xs.length*s.t.size<=cs.length/\Cat (Rep C s.t) s.xs ((cs.drop o).take (s.xs.length*s.t.size))/\
  ∀ys ds,ys.length=s.xs.length->Cat (Rep C s.t) ys ds->Rep C t (s.put ys) (cs.take o++(ds++cs.drop (o+s.xs.length*s.t.size)))
 | .int _,_,_,_,_,_,e=>by simp[jF]at e
 | .bool,_,_,_,_,_,e=>by simp[jF]at e
 | .str,_,_,_,_,_,e=>by simp[jF]at e
 | .lst _,_,_,_,_,_,e=>by simp[jF]at e
 | .unit,_,_,_,_,_,e=>by simp[jF]at e
 | .arr n t,x,cs,o,s,⟨hn,h⟩,e=>by
  cases o with
  |succ o=>simp[jF]at e
  |zero=>
   simp only[jF,Oe]at e;subst e;have hl:=Cat.length (fun _ _ h=>Rep.length h) h;refine⟨by simp[<-hn],by simp[hl],?_,?_⟩
   ·simpa[<-hl]using h
   ·intro ys ds hy hd;refine⟨by simpa[hy]using hn,?_⟩;simpa[<-hl]using hd
 | .pair a b,x,cs,o,s,⟨c1,c2,hc,h1,h2⟩,e=>by
  subst hc;have l1:=h1.length;unfold jF at e;cases hb:NM o a.size with
  |true=>
   have hlt:o<a.size:=by rw[<-O9];simpa using hb
   simp only[hb,cond_true]at e;split at e
   ·rename_i s' e';obtain rfl:=MK e;obtain⟨k1,k2,k3,k4⟩:=Rep.sub h1 e';refine⟨k1,by simp;omega,?_,?_⟩
    ·rw[Nb,NG,show s'.xs.length*s'.t.size-(c1.drop o).length=0 by simp;omega];simpa using k3
    ·intro ys ds hy hd;have:=k4 ys ds hy hd;refine⟨_,c2,?_,this,h2⟩;rw[NG,show o-c1.length=0 by omega,Nb,show o+s'.xs.length*s'.t.size-c1.length=0 by omega];simp
   ·simp at e
  |false=>
   have hge:a.size<=o:=by
    have: ¬o<a.size:=by intro h;rw[<-O9]at h;simp[hb]at h
    omega
   simp only[hb,cond_false]at e;split at e
   ·rename_i s' e';obtain rfl:=MK e;obtain⟨k1,k2,k3,k4⟩:=Rep.sub h2 e';refine⟨k1,by simp;omega,?_,?_⟩
    ·rw[Nb,MW (by omega),Nq,l1];exact k3
    ·intro ys ds hy hd;have:=k4 ys ds hy hd;refine⟨c1,_,?_,h1,this⟩;rw[NG,NI (by omega),Nb,MW (by omega),Nq,l1,MZ];rw[show o+s'.xs.length*s'.t.size-a.size=o-a.size+s'.xs.length*s'.t.size by omega]
   ·simp at e
theorem dW{k:Nat}{m:Option Nat}(h:eP (some k) m=true):m=some k:=by
 cases m with
 |none=>simp[eP]at h
 |some j=>simp[eP]at h;rw[h]
theorem dw{α:Type}(cs:List α)(o a b k:Nat)(h:a+b<=k):(((cs.drop o).take k).drop a).take b=(cs.drop (o+a)).take b:=by rw[Og,List.take_take,OV,PN (by omega)]
theorem bC{i m z:Nat}(h:i<m):i*z+z<=m*z:=by
 have:(i+1)*z<=m*z:=Nat.mul_le_mul_right z h;rw[Ot]at this;omega
theorem Rep.getPath{C:Cx}(len:Nat): ∀ {p:List jq} {t:Ty} {x:t.den} {cs:List Value} {o n:Nat} {l:List AV},Rep C t x cs->AM.getPath p t x o n=some l->jJ len p->
  PR C l ((cs.drop (o+aG p)).take n)/\(n≠0->o+aG p+n<=cs.length)
 |[],t,x,cs,o,n,l,h,e,_=>by
  simp only[AM.getPath]at e;simp only[aG,Ns];cases n with
  |zero=>simp[aO]at e;subst e;exact⟨by simpa using PR.nil,by simp⟩
  |succ n=>
   have hne:aJ (inj t x) o≠[]:=by intro h;rw[h]at e;simp[aO]at e
   obtain⟨k1,k2⟩:=(PR.lH h).aJ o hne;obtain⟨k3,k4⟩:=k1.take e;refine⟨k3,fun _=>by simp at k4;omega⟩
 | .off d::p,t,x,cs,o,n,l,h,e,hp=>by
  have:=Rep.getPath len (p:=p) h e hp;simpa[aG,MV]using this
 | .ix i z m::p,t,x,cs,o,n,l,h,e,hp=>by
  simp only[AM.getPath]at e;split at e
  ·rename_i s hs;obtain⟨k1,k2,k3,k4⟩:=h.sub hs;cases hb:eP s.n m&&MQ s.t.size z with
   |false=>simp[hb]at e
   |true=>
    simp only[hb,cond_true]at e;simp only[MP]at hb;obtain⟨hb1,hb2⟩:=hb;rw[k1]at hb1;obtain rfl:=dW hb1;obtain rfl:=ML hb2;obtain⟨p1,p2,p3⟩:=hp;simp only[Po]at p2;obtain⟨hi,hr⟩:=pY s.t.zero p1 p2;rw[hr]at e;have hg:=Cat.get (fun _ _ h=>Rep.length h) k3 hi;have hm:=bC (z:=s.t.size) hi;rw[dw _ _ _ _ _ hm]at hg;obtain⟨q1,q2⟩:=Rep.getPath len (p:=p) hg e p3;have hl:=hg.length;refine⟨?_,fun hn=> ?_⟩
    ·by_cases hn:n=0
     ·subst hn;simpa using q1
     ·have q2:=q2 hn;rw[hl]at q2;rw[dw _ _ _ _ _ (by omega)]at q1;simpa[aG,MV]using q1
    ·have q2:=q2 hn;rw[hl]at q2;simp only[aG];omega
  ·simp at e
theorem Rep.setPath{C:Cx}(len:Nat): ∀ {p:List jq} {t:Ty} {x y:t.den} {cs ds:List Value} {o n:Nat} {new:List AV},Rep C t x cs->AM.setPath p t x o new n=some y->jJ len p->
  PR C new ds->ds.length=n->Rep C t y (cs.take (o+aG p)++(ds++cs.drop (o+aG p+n)))/\o+aG p+n<=cs.length
 |[],t,x,y,cs,ds,o,n,new,h,e,_,hn,hd=>by
  simp only[AM.setPath]at e;split at e
  ·rename_i ps hps;obtain⟨k1,k2⟩:=(PR.lH h).put hps hn hd;simpa[aG]using ⟨k1.ay e,k2⟩
  ·simp at e
 | .off d::p,t,x,y,cs,ds,o,n,new,h,e,hp,hn,hd=>by
  have:=Rep.setPath len (p:=p) h e hp hn hd;simpa[aG,MV]using this
 | .ix i z m::p,t,x,y,cs,ds,o,n,new,h,e,hp,hn,hd=>by
  simp only[AM.setPath]at e;split at e
  ·rename_i s hs;obtain⟨k1,k2,k3,k4⟩:=h.sub hs;cases hb:eP s.n m&&MQ s.t.size z with
   |false=>simp[hb]at e
   |true=>
    simp only[hb,cond_true]at e;simp only[MP]at hb;obtain⟨hb1,hb2⟩:=hb;rw[k1]at hb1;obtain rfl:=dW hb1;obtain rfl:=ML hb2;obtain⟨p1,p2,p3⟩:=hp;simp only[Po]at p2;obtain⟨hi,hr⟩:=pY s.t.zero p1 p2;rw[hr]at e;split at e
    ·rename_i y' hy';obtain rfl:=MK e;have hg:=Cat.get (fun _ _ h=>Rep.length h) k3 hi;have hm:=bC (z:=s.t.size) hi;rw[dw _ _ _ _ _ hm]at hg;obtain⟨q1,q2⟩:=Rep.setPath len (p:=p) hg hy' p3 hn hd;have hl:=hg.length;rw[hl]at q2;have hset:=Cat.set (fun _ _ h=>Rep.length h) k3 hi q1;have:=k4 _ _ (by simp) hset;refine⟨?_,by simp only[aG];omega⟩;refine(congrArg (Rep C t _) ?_).mp this;simp only[aG];generalize i.toNat*s.t.size=a at*;generalize s.xs.length*s.t.size=b at*;generalize s.t.size=c at*;generalize aG p=d at*;have hle:o+b<=cs.length:=k2;apply O8
     intro j;simp only[OU,NJ,Nr,NW,Nk,NV];have e1:min (o+(a+d)) cs.length=o+(a+d):=by omega
     have e2:min o cs.length=o:=by omega
     have e3:min a (min b (cs.length-o))=a:=by omega
     have e4:min d (min c (cs.length-(o+a)))=d:=by omega
     simp only[e1,e2,e3,e4]
     grind
    ·simp at e
  ·simp at e
end Go.AM
end
section
namespace Go.AM
theorem zF{C:Cx}{p:AV}{s:Sub AV}{c:List Value}(h:PR C [p] c)(e:jG p=some s):
  (s.n=some s.xs.length\/s.n=none)/\c.length=s.xs.length*s.t.size/\p.size=c.length/\Cat (Rep C s.t) s.xs c/\
  ∀ys ds,ys.length=s.xs.length->Cat (Rep C s.t) ys ds->PR C [s.put ys] ds:=by
 have hl:=h.length;simp at hl;cases p<;>simp[jG]at e
 case arr n t xs=>
  subst e;cases h with
  |sc _ h2 _ _=>simp[AV.fV]at h2
  |arr h1 h2=>
   cases h2;obtain⟨k1,k2⟩:=h1;have k3:=Cat.length (fun _ _ h=>Rep.length h) k2;refine⟨.inl (by simp[<-k1]),by simpa using k3,by omega,by simpa using k2,fun ys ds hy hd=> ?_⟩;have:=PR.arr (n:=n) (t:=t) (xs:=ys) (c1:=ds) ⟨hy.trans k1,hd⟩ .nil;simpa using this
 case row t xs=>
  subst e;cases h with
  |sc _ h2 _ _=>simp[AV.fV]at h2
  |row h1 h2=>
   cases h2;have k3:=Cat.length (fun _ _ h=>Rep.length h) h1;refine⟨.inr rfl,by simpa using k3,by omega,by simpa using h1,fun ys ds hy hd=> ?_⟩;have:=PR.row (t:=t) (xs:=ys) (c1:=ds) hd .nil;simpa using this
theorem PR.cO{C:Cx}: ∀ {ps:List AV} {cs:List Value} {o:Nat} {s:Sub AV},PR C ps cs->AM.cO ps o=some s->
  (s.n=some s.xs.length\/s.n=none)/\o+s.xs.length*s.t.size<=cs.length/\Cat (Rep C s.t) s.xs ((cs.drop o).take (s.xs.length*s.t.size))/\
  ∀ys ds,ys.length=s.xs.length->Cat (Rep C s.t) ys ds->PR C (putAt ps o (s.put ys)) (cs.take o++(ds++cs.drop (o+s.xs.length*s.t.size)))
 |[],cs,o,s,h,e=>by simp[AM.cO,AM.aJ]at e
 |p::ps,cs,o,s,h,e=>by
  obtain⟨c1,c2,rfl,h1,h2,h3⟩:=h.wH;unfold AM.cO AM.aJ at e;unfold putAt;cases ho:MQ o 0 with
  |true=>
   obtain rfl:=ML ho;simp only[ho,cond_true]at e;obtain⟨k1,k2,k3,k4,k5⟩:=zF h1 e;refine⟨k1,by simp;omega,?_,fun ys ds hy hd=> ?_⟩
   ·simpa[<-k2]using k4
   ·have:=(k5 ys ds hy hd).cons h2;simp only[cond_true,List.take_zero,Nq,NP,<-k2];simpa using this
  |false=>
   simp only[ho,cond_false]at e ⊢
   cases hb:NM o p.size with
   |true=>simp[hb]at e
   |false=>
    simp only[hb,cond_false]at e;have hge:p.size<=o:=by
     have: ¬o<p.size:=by intro h;rw[<-O9]at h;simp[hb]at h
     omega
    obtain⟨k1,k2,k3,k4⟩:=PR.cO (o:=o-p.size) h2 e;refine⟨k1,by simp;omega,?_,fun ys ds hy hd=> ?_⟩
    ·rw[Nb (l₁:=c1),@MW _ c1 _ (by omega),Nq,h3];exact k3
    ·have:=h1.cons (k4 ys ds hy hd);rw[NG,NI (by omega),Nb (l₁:=c1),@MW _ c1 _ (by omega),Nq,h3,MZ,
      show o+s.xs.length*s.t.size-p.size=o-p.size+s.xs.length*s.t.size by omega]
     exact this
def dR(len:Nat)(ps:List AV):Prop:= ∀t xs,AV.row t xs∈ps->len=xs.length
theorem yg: ∀ {ps:List AV} {o:Nat} {s:Sub AV},AM.cO ps o=some s->s.n=none->AV.row s.t s.xs∈ps
 |[],o,s,e,_=>by simp[AM.cO,AM.aJ]at e
 |p::r,o,s,e,hn=>by
  unfold AM.cO AM.aJ at e;cases ho:MQ o 0 with
  |true=>
   simp only[ho,cond_true]at e;cases p<;>simp[jG]at e<;>subst e<;>simp at hn ⊢
  |false=>
   simp only[ho,cond_false]at e;cases hb:NM o p.size with
   |true=>simp[hb]at e
   |false=>
    simp only[hb,cond_false]at e;exact Om _ (yg e hn)
theorem dR.sub{len:Nat}{ps:List AV}(h:dR len ps){o:Nat}{s:Sub AV}(e:AM.cO ps o=some s)(hn:s.n=none):len=s.xs.length:=h _ _ (yg e hn)
theorem PR.iP{C:Cx}{len:Nat}: ∀ {p:List jq} {ps:List AV} {cs:List Value} {o n:Nat} {l:List AV},PR C ps cs->dR len ps->AM.iP ps o p n=some l->jJ len p->
  PR C l ((cs.drop (o+aG p)).take n)/\(n≠0->o+aG p+n<=cs.length)
 |[],ps,cs,o,n,l,h,_,e,_=>by
  simp only[AM.iP]at e;simp only[aG,Ns];cases n with
  |zero=>simp[aO]at e;subst e;exact⟨by simpa using PR.nil,by simp⟩
  |succ n=>
   have hne:AM.aJ ps o≠[]:=by intro h;rw[h]at e;simp[aO]at e
   obtain⟨k1,k2⟩:=h.aJ o hne;obtain⟨k3,k4⟩:=k1.take e;refine⟨k3,fun _=>by simp at k4;omega⟩
 | .off d::p,ps,cs,o,n,l,h,hr,e,hp=>by
  have:=PR.iP (p:=p) h hr e hp;simpa[aG,MV]using this
 | .ix i z m::p,ps,cs,o,n,l,h,hrl,e,hp=>by
  simp only[AM.iP]at e;split at e
  ·rename_i s hs;obtain⟨k1,k2,k3,k4⟩:=h.cO hs;cases hb:eP s.n m&&MQ s.t.size z with
   |false=>simp[hb]at e
   |true=>
    simp only[hb,cond_true]at e;simp only[MP]at hb;obtain⟨hb1,hb2⟩:=hb;obtain rfl:=ML hb2;obtain⟨p1,p2,p3⟩:=hp;have p2':i<s.xs.length:=by
     rcases k1 with k1|k1
     ·rw[k1]at hb1;obtain rfl:=dW hb1;simpa using p2
     ·have:=hrl.sub hs k1;rw[k1]at hb1;cases m with
      |none=>simpa[this]using p2
      |some _=>simp[eP]at hb1
    obtain⟨hi,hr⟩:=pY s.t.zero p1 p2';rw[hr]at e;have hg:=Cat.get (fun _ _ h=>Rep.length h) k3 hi;have hm:=bC (z:=s.t.size) hi;rw[dw _ _ _ _ _ hm]at hg;obtain⟨q1,q2⟩:=Rep.getPath len (p:=p) hg e p3;have hl:=hg.length;refine⟨?_,fun hn=> ?_⟩
    ·by_cases hn:n=0
     ·subst hn;simpa using q1
     ·have q2:=q2 hn;rw[hl]at q2;rw[dw _ _ _ _ _ (by omega)]at q1;simpa[aG,MV]using q1
    ·have q2:=q2 hn;rw[hl]at q2;simp only[aG];omega
  ·simp at e
theorem E5{α:Type}(cs ds:List α){o a b c d n:Nat}(hle:o+b<=cs.length)(hab:a+c<=b)(hdn:d+n<=c):
  cs.take o++((((cs.drop o).take b).take a++(((((cs.drop o).take b).drop a).take c).take d++(ds++((((cs.drop o).take b).drop a).take c).drop (d+n))++((cs.drop o).take b).drop (a+c)))++cs.drop (o+b))=
  cs.take (o+(a+d))++(ds++cs.drop (o+(a+d)+n)):=by
 apply O8
 intro j;simp only[OU,NJ,Nr,NW,Nk,NV]
 grind
theorem PR.f_{C:Cx}{len:Nat}: ∀ {p:List jq} {ps qs:List AV} {cs ds:List Value} {o n:Nat} {new:List AV},PR C ps cs->dR len ps->AM.f_ ps o p new n=some qs->jJ len p->
  PR C new ds->ds.length=n->PR C qs (cs.take (o+aG p)++(ds++cs.drop (o+aG p+n)))/\o+aG p+n<=cs.length
 |[],ps,qs,cs,ds,o,n,new,h,_,e,_,hn,hd=>by
  simp only[AM.f_]at e;split at e
  ·rename_i l hl;simp only[cond_eq_ite]at e;split at e
   ·obtain rfl:=MK e;simpa[aG]using h.put hl hn hd
   ·simp at e
  ·simp at e
 | .off d::p,ps,qs,cs,ds,o,n,new,h,hr,e,hp,hn,hd=>by
  have:=PR.f_ (p:=p) h hr e hp hn hd;simpa[aG,MV]using this
 | .ix i z m::p,ps,qs,cs,ds,o,n,new,h,hrl,e,hp,hn,hd=>by
  simp only[AM.f_]at e;split at e
  ·rename_i s hs;obtain⟨k1,k2,k3,k4⟩:=h.cO hs;cases hb:eP s.n m&&MQ s.t.size z with
   |false=>simp[hb]at e
   |true=>
    simp only[hb,cond_true]at e;simp only[MP]at hb;obtain⟨hb1,hb2⟩:=hb;obtain rfl:=ML hb2;obtain⟨p1,p2,p3⟩:=hp;have p2':i<s.xs.length:=by
     rcases k1 with k1|k1
     ·rw[k1]at hb1;obtain rfl:=dW hb1;simpa using p2
     ·have:=hrl.sub hs k1;rw[k1]at hb1;cases m with
      |none=>simpa[this]using p2
      |some _=>simp[eP]at hb1
    obtain⟨hi,hr⟩:=pY s.t.zero p1 p2';rw[hr]at e;split at e
    ·rename_i y' hy';obtain rfl:=MK e;have hg:=Cat.get (fun _ _ h=>Rep.length h) k3 hi;have hm:=bC (z:=s.t.size) hi;obtain⟨q1,q2⟩:=Rep.setPath len (p:=p) hg hy' p3 hn hd;have hl:=hg.length;rw[hl]at q2;have hset:=Cat.set (fun _ _ h=>Rep.length h) k3 hi q1;have:=k4 _ _ (by simp) hset;refine⟨?_,by simp only[aG];omega⟩;refine(congrArg (PR C _) ?_).mp this;simp only[aG,NP]at q2 ⊢
     rw[<-E5 cs ds k2 hm q2]
    ·simp at e
  ·simp at e
theorem jW{len:Nat}{l:List AV}(h:l.all noRow=true):dR len l:=by
 intro t xs e;have:=Pm.1 h _ e;simp[noRow]at this
theorem jX{len:Nat}: ∀ {ps:List AV} {o:Nat} {s:Sub AV},dR len ps->AM.cO ps o=some s-> ∀(ys:List s.t.den),ys.length=s.xs.length->dR len (putAt ps o (s.put ys))
 |[],o,s,h,e,ys,hy=>by simp[AM.cO,AM.aJ]at e
 |p::r,o,s,h,e,ys,hy=>by
  unfold AM.cO AM.aJ at e;unfold putAt;cases ho:MQ o 0 with
  |true=>
   simp only[ho,cond_true]at e ⊢
   intro t xs hm;simp only[O5]at hm;rcases hm with hm|hm
   ·cases p<;>simp[jG]at e<;>subst e<;>simp at hm
    obtain⟨rfl,hm⟩:=hm;have:=h _ _ (O6);cases hm;rw[this,<-hy]
   ·exact h _ _ (Om _ hm)
  |false=>
   simp only[ho,cond_false]at e ⊢
   cases hb:NM o p.size with
   |true=>simp[hb]at e
   |false=>
    simp only[hb,cond_false]at e;have ih:=jX (fun t xs hm=>h t xs (Om _ hm)) e ys hy;intro t xs hm;simp only[O5]at hm;rcases hm with hm|hm
    ·exact h _ _ (by rw[hm];exact O6)
    ·exact ih _ _ hm
theorem jK{len:Nat}: ∀ {p:List jq} {ps qs:List AV} {o n:Nat} {new:List AV},dR len ps->AM.f_ ps o p new n=some qs->dR len qs
 |[],ps,qs,o,n,new,h,e=>by
  simp only[AM.f_]at e;split at e
  ·simp only[cond_eq_ite]at e;split at e
   ·rename_i hl;obtain rfl:=MK e;exact jW hl
   ·simp at e
  ·simp at e
 | .off d::p,ps,qs,o,n,new,h,e=>jK (p:=p) h e
 | .ix i z m::p,ps,qs,o,n,new,h,e=>by
  simp only[AM.f_]at e;split at e
  ·rename_i s hs;simp only[cond_eq_ite]at e;split at e
   ·split at e
    ·obtain rfl:=MK e;exact jX h hs _ (by simp)
    ·simp at e
   ·simp at e
  ·simp at e
end Go.AM
end
section
set_option linter.unusedVariables false
namespace Go.AM
open Go.RowKit Go.Lib Go.Proofs Go.Shelf
def Sz(w w':World):Prop:= ∀k j,(w.cell? ⟨k,j,none⟩).isSome=true->(w'.cell? ⟨k,j,none⟩).isSome=true
theorem lt_of_cell{w:World}{b j:Nat}(h:(w.cell? ⟨b,j,none⟩).isSome=true):b<w.heap.size:=by
 obtain⟨v,hv⟩:=Nz.1 h;exact OD w _ hv
theorem Sz.Gs{w w':World}(h: ∀k,k<w.heap.size->w'.heap[k]?=w.heap[k]?):Sz w w':=fun k j hk=>by rw[MR (a:=⟨k,j,none⟩) (h k (lt_of_cell hk))];exact hk
section
variable {P:Program} {w:World}
theorem yL(t u ty e:TypeId)(i:TypeInfo)(ht:P.underlying t=some (.slice e))(hu:P.underlying u=some .string)(hi:P.info? e=some i)(hz:i.zero=some (.int .u8 0))
  (hsize:i.size=1) (hby:i.bytes=1)
  (v:Value) (n:Nat) (xs:List Value) (hown:w.ownsRowF 0 e 1 v n xs) (s:ByteArray)
  (h63:n+s.size<=maxLen) (hbytes:n+s.size<=140737488355328):
  ∃v' w',(Builtin.append_ #[t,u] ty #[v,.string s]).run P w= .ok v' w'/\w'.ownsRowF 0 e 1 v' (n+s.size) (xs++strCells s)/\w.grownBy w' v.ownBlock/\
   (∀k,v'.ownBlock=some k->v.ownBlock=some k\/w.heap.size<=k)/\(v'= .slice none 0 0 ↔ v= .slice none 0 0/\s.size=0)/\Sz w w':=by
 rcases hown.2 with⟨rfl,rfl⟩|⟨g,cap,cur,fz,rfl,hbg,hg,hfz,hnc,hcm,hcs,htake⟩
 ·obtain⟨v',w',h1,h2,h3,h4⟩:=run_append_own_string (P:=P) w w.heap.size t u ty e i ht hu hi hz hsize hby (.slice none 0 0) 0 xs ⟨hown.1,.inl ⟨rfl,rfl⟩⟩ s h63 hbytes (Nv _);refine⟨v',w',h1,World.ownsRowF_of ⟨h2.1,h2.2.imp id fun ⟨g,cap,cur,a,b,c⟩=>⟨g,cap,cur,a,NQ _,c⟩⟩,h3,fun k hk=> .inr ?_,h4,.Gs fun k hk=>h3.block k hk (by simp[Nc])⟩;rcases h2.2 with⟨rfl,_⟩|⟨g,cap,cur,rfl,hb,_⟩
  ·simp[Nc]at hk
  ·simp only[Nc,Oe]at hk;omega
 ·have hsmall:n+s.size<=9223372036854775807:=by simp only[maxLen]at h63;omega
  have hxl:xs.length=n:=by simpa using hown.1
  have hlen:(xs++strCells s).length=(n+s.size)*1:=by rw[Nk,hxl,strCells_length,Nat.mul_one]
  by_cases hroom:n+s.size<=cap
  ·have hcs':cur.size=cap:=by simpa using hcs
   have hr:=run_append_room_stringF (P:=P) w t u ty e i ht hu hi hsize g n cap cur fz hg (by simpa using hfz) s hroom (by omega);refine⟨_,_,hr,⟨hlen,.inr ⟨g,cap,_,fz,rfl,NQ _,setRow_heap w g cur _ e _ hg,by omega,hroom,hcm,?_,?_⟩⟩,⟨rfl,rfl,rfl,by simp,fun k _ hk=>setRow_other w g k _ (fun e=>hk (by simp[Nc,e]))⟩,fun k hk=> .inl hk,by simp,fun k j hk=> ?_⟩
   ·simp only[OA,Nk,NW,NV,OW,strCells_length];omega
   ·have ht':cur.toList.take n=xs:=by simpa using htake
    rw[ht',<-hlen];exact Oh
   ·by_cases hkg:k=g
    ·subst hkg;rw[Nl hg]at hk;rw[Nl (setRow_heap w k cur _ e _ hg)];simp only[Array.getElem?_eq_some_iff,Nz]at hk ⊢
     obtain⟨_,hk,_⟩:=hk;have ht':cur.toList.take n=xs:=by simpa using htake
     have hsz:(cur.toList.take n++strCells s++cur.toList.drop (n+s.size)).length=cur.size:=by
      simp only[Nk,NW,NV,OW,strCells_length];omega
     refine⟨_,?_,rfl⟩;simp only[OA];rw[hsz];exact hk
    ·rw[MR (a:=⟨k,j,none⟩) (setRow_other w g k _ hkg)];exact hk
  ·have holds: ∀j u,xs[j]?=some u->w.cell? ((⟨g,0,none⟩:Addr).add j)=some u:=hown.cells (g:=g) rfl;have hr:=run_append_grow_string (P:=P) w t u ty e i (.int .u8 0) ht hu hi hz ⟨g,0,none⟩ n cap xs (by rw[hsize];simpa using hxl) holds s (by omega) (by omega) (by rw[hby];exact growslice_fits (by omega) (by omega));have hge:=grownCap_ge w (n+s.size) cap e;have hcm2:grownCap w (n+s.size) cap e<=maxLen:=grownCap_le_maxLen w (n+s.size) cap e h63;refine⟨_,_,hr,⟨hlen,.inr ⟨w.heap.size,_,_,(0,0),rfl,NQ _,heap_alloc_new w.drew _,NQ _,hge,hcm2,?_,?_⟩⟩,⟨rfl,rfl,rfl,by simp,fun k hk _=>by first|exact Go.Lib.heap_alloc_old w.drew _ k hk|exact Go.RowKit.heap_alloc_old w.drew _ k hk|exact heap_alloc_old w.drew _ hk⟩,fun k hk=> .inr ?_,by simp,.Gs fun k hk=>by first|exact Go.Lib.heap_alloc_old w.drew _ k hk|exact Go.RowKit.heap_alloc_old w.drew _ k hk|exact heap_alloc_old w.drew _ hk⟩
   ·have hz1:(PE PV 0).cells.size=1:=rfl;simp only[Array.size_append,OA,size_zeroCells,hz1,hxl,strCells_length];omega
   ·simp only[Array.toList_append,MZ];rw[<-MZ,<-hlen];exact Oh
   ·simp only[Nc,Oe]at hk;omega
theorem ny{ops:Array Oper}{rest:List Oper}{o:Oper}{a:Act}{Q:Exit->Act->World->Prop}(hgd:o.guard=none)(sl x:Operand)(t u:TypeId)
  (ho:o.op= .call {callee:= .builtin .append,args:= #[sl,x],argTypes:= #[t,u]})
  (e:TypeId) (i:TypeInfo) (ht:P.underlying t=some (.slice e)) (hu:P.underlying u=some .string) (hi:P.info? e=some i) (hz:i.zero=some (.int .u8 0))
  (hsize:i.size=1) (hby:i.bytes=1)
  (v:Value) (n:Nat) (xs:List Value) (hs:a.eval sl=v) (hown:w.ownsRowF 0 e 1 v n xs) (s:ByteArray) (hx:a.eval x= .string s)
  (h63:n+s.size<=maxLen) (hbytes:n+s.size<=140737488355328)
  (h: ∀v' w',w'.ownsRowF 0 e 1 v' (n+s.size) (xs++strCells s)->w.grownBy w' v.ownBlock->(∀k,v'.ownBlock=some k->v.ownBlock=some k\/w.heap.size<=k)->(v'= .slice none 0 0 ↔ v= .slice none 0 0/\s.size=0)->Sz w w'->wpList P ops Q rest (a.put o.dst v') w'):wpList P ops Q (o::rest) a w:=by
 refine wpList_plain hgd fun K hK=> ?_
 obtain⟨v',w',hr,h2,h3,h4,h5,h6⟩:=yL (P:=P) t u o.type e i ht hu hi hz hsize hby v n xs hown s h63 hbytes;unfold Oper.wp execOp;simp only[ho,resolve,invoke,builtin,MO,NC,MN,List.map_toArray,O1,List.map_nil,hs,hx,hr];exact hK _ _ (h v' w' h2 h3 h4 h5 h6)
end
structure Only(b:Nat)(row:Option Nat)(w w':World):Prop where
 os:w'.os=w.os
 tape:w'.tape=w.tape
 output:w'.output=w.output
 size:w.heap.size<=w'.heap.size
 block: ∀k,k<w.heap.size->k≠b->some k≠row->w'.heap[k]?=w.heap[k]?
 sz:Sz w w'
theorem Only.refl(b:Nat)(row:Option Nat)(w:World):Only b row w w:=⟨rfl,rfl,rfl,Nv _,fun _ _ _ _=>rfl,fun _ _ h=>h⟩
theorem Only.setCell{b:Nat}{row:Option Nat}{w w':World}(h:Only b row w w')(p:Addr)(hp:p.block=b)(v:Value):Only b row w (w'.setCell p v):=
 ⟨h.os,h.tape,h.output,by have:=h.size;simpa[NR]using this,fun k hk hb hr=>(N8 w' p v k (fun e=>hb (by rw[e,hp]))).trans (h.block k hk hb hr),fun k j hk=>by
  obtain⟨u,hu⟩:=Nz.1 (h.sz k j hk);obtain⟨u',hu'⟩:=cell?_setCell_some (p:=p) (x:=v) hu;rw[hu'];rfl⟩
theorem Only.grown{b:Nat}{row:Option Nat}{w w1 w':World}(h:Only b row w w1)(g:w1.grownBy w' row)(z:Sz w1 w'):Only b row w w':=
 ⟨g.os.trans h.os,g.tape.trans h.tape,g.output.trans h.output,NZ h.size g.size,fun k hk hb hr=>(g.block k (Nat.lt_of_lt_of_le hk h.size) hr).trans (h.block k hk hb hr),fun k j hk=>z k j (h.sz k j hk)⟩
structure sN(T e:TypeId)(b:Nat)(v:Value)(bs:List Value)(w:World):Prop where
 cells: ∃p,(p= .pointer none\/p= .pointer (some ⟨b,0,none⟩))/\w.heap[b]?=some (.cells #[p,v] T (0,0))
 row:w.ownsRowF 0 e 1 v bs.length bs
 ne:v.ownBlock≠some b
 nil:bs=[]->v= .slice none 0 0
theorem sN.is{T e:TypeId}{b:Nat}{v:Value}{bs:List Value}{w:World}(h:sN T e b v bs w):IsBuilderF T e 0 b bs w:=by
 obtain⟨⟨p,hp,hc⟩,hr,hn,_⟩:=h;rcases hp with rfl|rfl
 ·exact .inl ⟨NQ _,v,hc,hr,hn⟩
 ·exact .inr ⟨NQ _,v,hc,hr,hn⟩
variable {P:Program} {ρ:Ren}
def BD(T e:TypeId)(b:Nat)(v:Value)(bs:List Value)(w:World)(x:Ending)(w':World):Prop:=
 x= .returned (.tuple #[])/\w'.heap[b]?=some (.cells #[.pointer (some ⟨b,0,none⟩),v] T (0,0))/\w'.ownsRowF 0 e 1 v bs.length bs/\Only b v.ownBlock w w'/\w'.heap.size=w.heap.size
theorem K_{T e:TypeId}{f:FuncId}{b:Nat}{v:Value}{bs:List Value}{w:World}(h:sN T e b v bs w)
  (fresh:w.cell? ⟨b,0,none⟩=some (.pointer none)->w.shape? b=some (T,2)->w.frozen? ⟨b,0,none⟩=false->Calls P f #[.pointer (some ⟨b,0,none⟩)] w fun e w'=>e= .returned (.tuple #[])/\w'=w.setCell ⟨b,0,none⟩ (.pointer (some ⟨b,0,none⟩)))
  (used:w.cell? ⟨b,0,none⟩=some (.pointer (some ⟨b,0,none⟩))->Calls P f #[.pointer (some ⟨b,0,none⟩)] w fun e w'=>e= .returned (.tuple #[])/\w'=w):
  Calls P f #[.pointer (some ⟨b,0,none⟩)] w (BD T e b v bs w):=by
 obtain⟨⟨p,hp,hc⟩,hr,hn,_⟩:=h;have hAt:BuilderAtF T e 0 b p bs w:=⟨NQ _,v,hc,hr,hn⟩;rcases hp with rfl|rfl
 ·refine(fresh hAt.cell0 hAt.shape hAt.frozen0).mono ?_
  rintro e w' ⟨rfl,rfl⟩
  refine⟨rfl,by simp[NR,Nh,hc],?_,(Only.refl b v.ownBlock w).setCell ⟨b,0,none⟩ rfl _,by simp[NR]⟩;exact hr.kept (row:=some b) ⟨rfl,rfl,rfl,by simp[NR],fun k _ hk=>N8 _ _ _ _ (fun e=>hk (by simp[e]))⟩ (Or.inr hn)
 ·refine(used hAt.cell0).mono ?_
  rintro e w' ⟨rfl,rfl⟩
  exact⟨rfl,hc,hr,Only.refl _ _ _,rfl⟩
set_option maxHeartbeats 2000000 in
set_option maxRecDepth 100000 in
theorem Fh(L:Lays.n169 P ρ)(X:PW P ρ)(f166:P.funcs[ρ.f 166]?=some (Body.n166 ρ))(e240: ∀args w,(callFunc (ρ.f 240) args).run P w= .ok (.enter (ρ.f 240) args) w)
  (cc: ∀b v bs w,sN (ρ.t 72) (ρ.t 5) b v bs w->Calls P (ρ.f 240) #[.pointer (some ⟨b,0,none⟩)] w (BD (ρ.t 72) (ρ.t 5) b v bs w))
  (b:Nat) (v:Value) (bs:List Value) (s:ByteArray) (w:World) (h:sN (ρ.t 72) (ρ.t 5) b v bs w) (hlen:bs.length+s.size<=140737488355328):
  Calls P (ρ.f 166) #[.pointer (some ⟨b,0,none⟩),.string s] w fun e w'=>e= .returned (.tuple #[.int .i64 s.size,.nilIface])/\Only b v.ownBlock w w'/\
   ∃v',sN (ρ.t 72) (ρ.t 5) b v' (bs++strCells s) w'/\ ∀k,v'.ownBlock=some k->v.ownBlock=some k\/w.heap.size<=k:=by
 obtain⟨i0,hi,hz0,hz1,hz2⟩:=info_parts X.infoByte;have mixed:=L.mixed;have t72:=L.t72;have a72:=L.a72;have z72:=L.z72;have v72:=L.v72;have u72:=run_underlying L.t72;have t70:=L.t70;have a70:=L.a70;have z70:=L.z70;have v70:=L.v70;have u70:=run_underlying L.t70;have t37:=L.t37;have a37:=L.a37;have z37:=L.z37;have v37:=L.v37;have u37:=run_underlying L.t37;have t3:=L.t3;have a3:=L.a3;have z3:=L.z3;have v3:=L.v3;have u3:=run_underlying L.t3;have t9:=L.t9;have a9:=L.a9;have z9:=L.z9;have v9:=L.v9;have u9:=run_underlying L.t9;have t5:=X.t5;have a5:=X.a5;have z5:=X.z5;have v5:=X.v5;have u5:=run_underlying X.t5;have hcc:=cc b v bs w h;unfold BD at hcc;have hne:=h.ne;have hnil:=h.nil;clear h
 go_enter f166,Body.n166_ntmps ρ
 go_wp2_with (go_at_fn (ρ.f 240);refine hcc.mono ?_)
 rintro e w1 ⟨rfl,hbk,hown,ho1,hs1⟩
 have c0:w1.cell? ⟨b,0,none⟩=some (.pointer (some ⟨b,0,none⟩)):=by rw[Nl hbk];rfl
 have c1:w1.cell? ⟨b,1,none⟩=some v:=by rw[Nl hbk];rfl
 go_wp2_with (at_builtin;refine ny rfl _ _ (ρ.t 37) (ρ.t 9) rfl (ρ.t 5) i0 L.t37 L.t9 hi hz0 hz1 hz2 _ _ _ rfl hown s rfl ?c3 ?c4 ?_)
 case c3=>unfold maxLen;omega
 case c4=>omega
 intro v' w2 hown' hgrow hnew JF hsz2;have hlt:b<w1.heap.size:=by
  rcases Ph b w1.heap.size with h'|h'
  ·exact h'
  ·simp[N_ h']at hbk
 have hb2:w2.heap[b]?=some (.cells #[.pointer (some ⟨b,0,none⟩),v] (ρ.t 72) (0,0)):=by
  rw[hgrow.block b hlt (fun e=>hne e.symm)];exact hbk
 have d0:w2.cell? ⟨b,0,none⟩=some (.pointer (some ⟨b,0,none⟩)):=by rw[Nl hb2];rfl
 have d1:w2.cell? ⟨b,1,none⟩=some v:=by rw[Nl hb2];rfl
 have f1:w2.frozen? ⟨b,1,none⟩=false:=Lib.frozen_of_heap hb2 1;obtain⟨ao,n',cap,rfl⟩: ∃ao n' cap,v'= .slice ao n' cap:=by
  rcases hown'.2 with⟨hv,_⟩|⟨g,cap,cur,fz,hv,_⟩
  ·exact⟨_,_,_,hv⟩
  ·exact⟨_,_,_,hv⟩
 go_wp2
 go_ret2
 have hA:=Qe (T:=(ρ.t 72)) (e:=(ρ.t 5)) (NQ _) hb2 (bs':=bs++Lib.strCells s) (by simpa[Lib.strCells_length]using hown') X.neB5;obtain⟨_,v2,h2,h3,h4⟩:=hA;have hv2:v2= .slice ao n' cap:=by
  have:(w2.setCell ⟨b,1,none⟩ (.slice ao n' cap)).heap[b]?=some (.cells #[.pointer (some ⟨b,0,none⟩),.slice ao n' cap] (ρ.t 72) (0,0)):=by simp[NR,Nh,hb2]
  rw[this]at h2;simpa using h2.symm
 subst hv2;exact⟨rfl,(ho1.grown hgrow hsz2).setCell _ rfl _,_,⟨⟨_,.inr rfl,h2⟩,h3,h4,fun h0=>JF.2 ⟨hnil (OG.1 h0).1,by have q:s.size=0:=(strCells_length s).symm.trans (congrArg M_ (OG.1 h0).2);first|exact q|simpa using q⟩⟩,fun k hk=>by first|exact hnew k hk|(rw[<-hs1];exact hnew k hk)⟩
theorem J9(L:Lays.n170 P ρ)(b:Nat)(v:Value)(bs:List Value)(w:World)(h:sN (ρ.t 72) (ρ.t 5) b v bs w):
  Calls P (ρ.f 170) #[.pointer (some ⟨b,0,none⟩)] w fun e w'=>e= .returned (.int .i64 bs.length)/\w'=w:=Any.Builder_Len_f L 0 b bs w h.is
theorem Only.drew{b:Nat}{row:Option Nat}{w w':World}(h:Only b row w w'):Only b row w w'.drew:=⟨h.os,h.tape,h.output,h.size,h.block,h.sz⟩
theorem Only.freeze{b g:Nat}{w w':World}(h:Only b (some g) w w')(n:Nat):Only b (some g) w (w'.freeze ⟨g,0,none⟩ n):=by
 unfold PY;split
 ·exact h
 ·exact⟨h.os,h.tape,h.output,by simpa using h.size,fun k hk hb hr=>by
   rw[<-h.block k hk hb hr];simp only[Nh];rw[if_neg (fun e=>hr (by simp[e]))],fun k j hk=>by
   have hk:=h.sz k j hk;by_cases hkg:g=k
   ·subst hkg;unfold Qd at hk ⊢
    simp only[Nh,if_true];cases hgk:w'.heap[g]? with
    |none=>simp only[hgk]at hk;cases hk
    |some o=>cases o with
     |cells c e fr=>simp only[hgk]at hk;exact hk
     |_=>simp only[hgk]at hk;cases hk
   ·rw[MR (a:=⟨k,j,none⟩) (w:=w') (by simp only[Nh];rw[if_neg hkg])];exact hk⟩
set_option maxHeartbeats 2000000 in
set_option maxRecDepth 100000 in
theorem IJ(L:Lays.n169 P ρ)(X:PW P ρ)(b:Nat)(v:Value)(l:List UInt8)(w:World)(h:sN (ρ.t 72) (ρ.t 5) b v (byteCells l) w):
  Calls P (ρ.f 169) #[.pointer (some ⟨b,0,none⟩)] w fun e w'=>e= .returned (.string ⟨l.toArray⟩)/\Only b v.ownBlock w w'/\sN (ρ.t 72) (ρ.t 5) b v (byteCells l) w':=by
 have mixed:=L.mixed;have t72:=L.t72;have a72:=L.a72;have z72:=L.z72;have v72:=L.v72;have u72:=run_underlying L.t72;have t70:=L.t70;have a70:=L.a70;have z70:=L.z70;have v70:=L.v70;have u70:=run_underlying L.t70;have t37:=L.t37;have a37:=L.a37;have z37:=L.z37;have v37:=L.v37;have u37:=run_underlying L.t37;have t127:=L.t127;have a127:=L.a127;have z127:=L.z127;have v127:=L.v127;have u127:=run_underlying L.t127;have t3:=L.t3;have a3:=L.a3;have z3:=L.z3;have v3:=L.v3;have u3:=run_underlying L.t3;have t9:=L.t9;have a9:=L.a9;have z9:=L.z9;have v9:=L.v9;have u9:=run_underlying L.t9;have t5:=X.t5;have a5:=X.a5;have z5:=X.z5;have v5:=X.v5;have u5:=run_underlying X.t5;have hB:sN (ρ.t 72) (ρ.t 5) b v (byteCells l) w.drew:=⟨h.cells,h.row,h.ne,h.nil⟩;obtain⟨⟨p,hp,hbk⟩,hown,hne,hnil⟩:=h;by_cases h0:l=[]
 ·subst h0;obtain rfl:=hnil rfl;have hUS:=Any.unsafeString_none L X;have c1:w.drew.cell? ⟨b,1,none⟩=some (.slice none 0 0):=by
   have:w.drew.heap[b]?=some (.cells #[p,.slice none 0 0] (ρ.t 72) (0,0)):=hbk;rw[Nl this];rfl
  have hSD:(Oz #[(ρ.t 37)] (ρ.t 127) #[.slice none 0 0]).run P w.drew= .ok (.pointer none) w.drew:=rfl
  go_enter L.f169,Pz ρ
  go_wp2
  go_region_o
  all_goals (go_wp2;go_ret;exact⟨rfl,(Only.refl _ _ _).drew,hB⟩)
 ·have hl0:l.length≠0:=by simpa using h0
  rw[Nw]at hown;obtain⟨g,cap,cur,fz,rfl,hbg,hg,hfz,hnc,hcm,hcs,htake⟩: ∃g cap cur fz,v= .slice (some ⟨g,0,none⟩) l.length cap/\0<=g/\w.heap[g]?=some (.cells cur (ρ.t 5) fz)/\fz.2<=l.length*1/\l.length<=cap/\cap<=maxLen/\cur.size=cap*1/\cur.toList.take (l.length*1)=OC l:=by
   rcases hown.2 with⟨_,hz⟩|⟨g,cap,cur,fz,hv,r⟩
   ·exact absurd hz hl0
   ·exact⟨g,cap,cur,fz,hv,r⟩
  have c1:w.drew.cell? ⟨b,1,none⟩=some (.slice (some ⟨g,0,none⟩) l.length cap):=by
   have:w.drew.heap[b]?=some (.cells #[p,.slice (some ⟨g,0,none⟩) l.length cap] (ρ.t 72) (0,0)):=hbk;rw[Nl this];rfl
  have hSD:(Oz #[(ρ.t 37)] (ρ.t 127) #[.slice (some ⟨g,0,none⟩) l.length cap]).run P w.drew= .ok (.pointer (some ⟨g,0,none⟩)) w.drew:=
   Lib.run_unsafeSliceData_row _ _ _ _ _ _ (by omega)
  have hUS:(Builtin.unsafeString_ #[(ρ.t 127),(ρ.t 3)] (ρ.t 9) #[.pointer (some ⟨g,0,none⟩),.int .i64 l.length]).run P w.drew= .ok (.string ⟨l.toArray⟩) (w.drew.freeze ⟨g,0,none⟩ l.length):=by
   refine Lib.run_unsafeString_row w.drew (ρ.t 127) (ρ.t 3) (ρ.t 9) (ρ.t 5) L.t127 X.cellsByte g cur.size (by have hg':w.drew.heap[g]?=some (.cells cur (ρ.t 5) fz):=hg;simp[World.shape?,hg']) l h0 (by omega) (by unfold maxLen at hcm;omega) ?_;intro j x hx;have:=hown.cells (g:=g) rfl j (.int .u8 x.toNat) (by simp[OC,hx]);exact this
  have hkeep:sN (ρ.t 72) (ρ.t 5) b (.slice (some ⟨g,0,none⟩) l.length cap) (OC l) (w.drew.freeze ⟨g,0,none⟩ l.length):=by
   have hA:Lib.BuilderAtF (ρ.t 72) (ρ.t 5) 0 b p (OC l) w.drew:=⟨NQ _,_,hbk,by rw[Nw];exact hown,hne⟩;have hF:=hA.froze (g:=g) (cap:=cap) (by rw[Nw];exact c1);rw[Nw]at hF;obtain⟨_,v2,k2,k3,k4⟩:=hF;have hgb:g≠b:=fun e=>hne (by simp[Nc,e])
   have hv2:v2= .slice (some ⟨g,0,none⟩) l.length cap:=by
    have:(w.drew.freeze ⟨g,0,none⟩ l.length).heap[b]?=some (.cells #[p,.slice (some ⟨g,0,none⟩) l.length cap] (ρ.t 72) (0,0)):=by
     unfold PY;rw[if_neg hl0];simp only[Nh];rw[if_neg hgb];exact hbk
    rw[this]at k2;simpa using k2.symm
   subst hv2;exact⟨⟨p,hp,k2⟩,k3,k4,fun z=>absurd (congrArg M_ z) (by rw[Nw];exact hl0)⟩
  go_enter L.f169,Pz ρ
  go_wp2
  go_region_o
  all_goals (go_wp2;go_ret;exact⟨rfl,(Only.refl _ _ _).drew.freeze _,hkeep⟩)
end Go.AM
end
section
namespace Go.AM
variable [Tabs]
open Go.RowKit
structure Base where
 ro:Nat->Nat->Prop
 io:Nat->Prop
instance:CoeFun Base fun _=>Nat->Nat->Prop:=⟨Base.ro⟩
structure Keep(X:Nat->Prop)(a w:World):Prop where
 os:w.os=a.os
 tape:w.tape=a.tape
 output:w.output=a.output
 size:a.heap.size<=w.heap.size
 block: ∀k,k<a.heap.size-> ¬X k->w.heap[k]?=a.heap[k]?
theorem Keep.trans{X:Nat->Prop}{a b c:World}(h:Keep X a b)(k:Below a.heap.size b c):Keep X a c:=
 ⟨k.os.trans h.os,k.tape.trans h.tape,k.output.trans h.output,NZ h.size k.size,fun i hi hx=>(k.block i hi).trans (h.block i hi hx)⟩
theorem Keep.setCell{X:Nat->Prop}{a w:World}{p:Addr}(hc:X p.block\/a.heap.size<=p.block)(u:Value)(h:Keep X a w):Keep X a (w.setCell p u):=
 ⟨h.os,h.tape,h.output,by have:=h.size;simpa[NR]using this,fun k hk hx=>(N8 w p u k (fun e=>by
  subst e;rcases hc with hc|hc
  ·exact hx hc
  ·omega)).trans (h.block k hk hx)⟩
theorem Keep.setCells{X:Nat->Prop}{a:World}{c:Nat}(hc:X c\/a.heap.size<=c): ∀(vs:List Value) (o:Nat) {w:World},Keep X a w->Keep X a (w.setCells c o vs)
 |[],_,_,h=>h
 |v::r,o,_,h=>Keep.setCells hc r (o+1) (h.setCell (p:=⟨c,o,none⟩) hc v)
theorem Keep.below{X:Nat->Prop}{a w:World}(h:Keep X a w)(hX: ∀k,k<a.heap.size-> ¬X k):Below a.heap.size a w:=
 ⟨h.os,h.tape,h.output,h.size,fun k hk=>h.block k hk (hX k hk)⟩
def je:Jump->Code
 | .ret=> .ret
 | .exit id=> .exit id
def jV(C:Cx)(e:Env)(tmps:Array Value):Prop:= ∀t,VR C (e.get t) (tmps.getD t undef)
def uj(P:Program)(f:FuncId)(n:Nat):Prop:= ∃fn c,P.funcs[f]?=some fn/\fn.body=some c/\bZ fn.ntmps c=true/\fn.ntmps<=n
def kV(P:Program)(C:Cx)(e:tC):gI->Prop
 | .cells ver _ ps=>e.ver=ver/\e.perm=false/\dR e.len ps/\match e.cb with
  |none=> ∃t,ps=[.row t []]
  |some c=> ∃pre,PR C ps pre/\C.w.rangeAt c 0 pre/\ ∀j,(C.w.cell? ⟨c,j,none⟩).isSome=true->C.w.frozen? ⟨c,j,none⟩=false
 | .loop st pend fn env ps p d=>e.perm=true/\ ∃c,e.cb=some c/\ ∃l:Loop,C.w.heap[c]?=some (.loop l)/\l.state=st/\l.pending=pend.map je/\l.fn=fn/\l.params=ps.toArray/\
   l.assign=aU P fn (p++[.l])/\l.body=aU P fn (p++[.r])/\jV C env l.tmps/\((∀t∈ps,t<l.tmps.size)/\uj P fn l.tmps.size)/\ ∃ed,C.M d=some ed/\ed.perm=true/\ed.cb=some l.defers
 | .deferred taken=>e.perm=true/\ ∃c,e.cb=some c/\C.w.heap[c]?=some (.deferred (if taken then none else some []))
 | .iZ _ _ xs=>e.perm=true/\e.ver=0/\ ∀n∈xs,ak .u8 n=true
structure Hid(w0:World)(C:Cx)(h:Hp)(H:Nat->Option Nat):Prop where
 iZ: ∀b T e xs,h.get b=some (.iZ T e xs)-> ∃en c v,C.M b=some en/\en.perm=true/\en.cb=some c/\sN T e c v (xs.map fun n=>PE .u8 n) C.w/\H b=v.ownBlock
 old: ∀b g,H b=some g->w0.heap.size<=g/\g<C.w.heap.size
 cb: ∀b g x en,H b=some g->C.M x=some en->en.cb≠some g
 one: ∀b b' g,H b=some g->H b'=some g->b=b'
 ro: ∀b g j,H b=some g-> ¬C.RO g j
theorem sN.keep{T e:TypeId}{c:Nat}{v:Value}{bs:List Value}{w w':World}(h:sN T e c v bs w)(hc:w'.heap[c]?=w.heap[c]?)(hg: ∀g,v.ownBlock=some g->w'.heap[g]?=w.heap[g]?):sN T e c v bs w':=by
 obtain⟨⟨p,hp,k⟩,⟨r1,r2⟩,hn,hl⟩:=h;refine⟨⟨p,hp,hc.trans k⟩,⟨r1,?_⟩,hn,hl⟩;rcases r2 with r2|⟨g,cap,cur,fz,rfl,a,b,r⟩
 ·exact .inl r2
 ·exact .inr ⟨g,cap,cur,fz,rfl,a,(hg g rfl).trans b,r⟩
theorem Hid.step{w0:World}{C C':Cx}{h h':Hp}{H:Nat->Option Nat}(I:Hid w0 C h H)
  (hb: ∀b T e xs,h'.get b=some (.iZ T e xs)->h.get b=some (.iZ T e xs))
  (hM: ∀b en,C.M b=some en->en.perm=true->C'.M b=some en)
  (hsz:C.w.heap.size<=C'.w.heap.size)
  (hw: ∀b en c T e xs,C.M b=some en->en.perm=true->en.cb=some c->h'.get b=some (.iZ T e xs)->C'.w.heap[c]?=C.w.heap[c]?)
  (hg: ∀g,g<C.w.heap.size->w0.heap.size<=g->(∀x en,C.M x=some en->en.cb≠some g)->C'.w.heap[g]?=C.w.heap[g]?)
  (hc: ∀x en g,C'.M x=some en->en.cb=some g->(∃y en',C.M y=some en'/\en'.cb=some g)\/C.w.heap.size<=g)
  (hr: ∀g j,C'.RO g j->C.RO g j\/(∃y en',C.M y=some en'/\en'.cb=some g)\/C.w.heap.size<=g\/g<w0.heap.size):Hid w0 C' h' H:=by
 refine⟨fun b T e xs q=> ?_,fun b g q=> ?_,fun b g x en q hx hxc=> ?_,I.one,fun b g j q hro=> ?_⟩
 ·obtain⟨en,c,v,k1,k2,k3,k4,k5⟩:=I.iZ b T e xs (hb _ _ _ _ q);refine⟨en,c,v,hM _ _ k1 k2,k2,k3,k4.keep (hw _ _ _ _ _ _ k1 k2 k3 q) fun g hgv=> ?_,k5⟩;have:=I.old b g (k5.trans hgv);exact hg g this.2 this.1 fun x en' hx=>I.cb b g x en' (k5.trans hgv) hx
 ·have:=I.old b g q;exact⟨this.1,by omega⟩
 ·have:=I.old b g q;rcases hc x en g hx hxc with⟨y,en',k1,k2⟩|k
  ·exact I.cb b g y en' q k1 k2
  ·omega
 ·have:=I.old b g q;rcases hr g j hro with k|⟨y,en',k1,k2⟩|k|k
  ·exact I.ro b g j q k
  ·exact I.cb b g y en' q k1 k2
  ·omega
  ·omega
def cZ(C:Cx):Prop:= ∀g t x,Tabs.tab g=some ⟨t,x⟩-> ∃ds,Rep C t x ds/\Cells C g 0 ds
theorem cZ.mono{C C':Cx}(l:C.Le C')(h:cZ C):cZ C':=fun g t x e=>let ⟨ds,h1,h2⟩:=h g t x e;⟨ds,h1.mono l,h2.mono l⟩
def J7(C:Cx):Prop:=cZ C/\Tabs.good C.w
def Good(S0:Base)(w0:World):Prop:=Tabs.good w0/\ ∀g∈Tabs.gs,¬S0.io g
structure Inv(P:Program)(S0:Base)(w0:World)(C:Cx)(h:Hp):Prop where
 below:Keep S0.io w0 C.w
 obj: ∀b o,h.get b=some o-> ∃e,C.M b=some e/\kV P C e o
 dom: ∀b e,C.M b=some e-> ∃o,h.get b=some o
 loc: ∀b e c,C.M b=some e->e.cb=some c->(S0.io c\/w0.heap.size<=c)/\c<C.w.heap.size
 inj: ∀b e b' e' c,C.M b=some e->e.cb=some c->C.M b'=some e'->e'.cb=some c->b=b'
 ro: ∀c j,C.RO c j->c<C.w.heap.size/\(S0 c j\/S0.io c\/w0.heap.size<=c)
 w_: ∀b e c j,C.M b=some e->e.cb=some c->C.RO c j-> ∃v ps,h.get b=some (.cells v true ps)/\j<aH ps
 pin: ∀c,S0.io c->(∃e,C.M aX=some e/\e.cb=some c)/\ ∀j,(w0.cell? ⟨c,j,none⟩).isSome=true->(C.w.cell? ⟨c,j,none⟩).isSome=true
 hid: ∃H,Hid w0 C h H
 tabs:cZ C
 good:Good S0 w0
theorem Inv.DN{P:Program}{S0:Base}{w0:World}{C:Cx}{h:Hp}(I:Inv P S0 w0 C h):Tabs.good C.w:=
 Tabs.keep _ _ I.good.1 fun g hg=>I.below.block g (Tabs.lt _ I.good.1 g hg) (I.good.2 g hg)
theorem jV.mono{C C':Cx}(l:C.Le C'){e tmps}(h:jV C e tmps):jV C' e tmps:=fun t=>(h t).mono l
theorem iq{w:World}{b j:Nat}(h:(w.cell? ⟨b,j,none⟩).isSome=true):b<w.heap.size:=by
 obtain⟨v,hv⟩:=Nz.1 h;exact OD w _ hv
theorem Hp.aB(b:Nat)(o:gI)(h:Hp)(x:Nat):Hp.get ((b,o)::h) x=if b=x then some o else h.get x:=by
 simp only[Hp.get];cases e:MQ b x with
 |true=>rw[if_pos (ML e)];rfl
 |false=>rw[if_neg (by intro q;subst q;simp at e)];rfl
theorem Env.aB(t:Nat)(v:AV)(e:Env)(x:Nat):Env.get ((t,v)::e) x=if t=x then v else e.get x:=by
 simp only[Env.get];cases h:MQ t x with
 |true=>rw[if_pos (ML h)];rfl
 |false=>rw[if_neg (by intro q;subst q;simp at h)];rfl
theorem kV.carry{P:Program}{C C':Cx}(l:C.Le C'){e:tC}{o:gI}(r:kV P C e o)
  (hb: ∀c,e.cb=some c->C'.w.heap[c]?=C.w.heap[c]?):kV P C' e o:=by
 cases o with
 |cells v ro ps=>
  obtain⟨h1,h0,h2,h3⟩:=r;refine⟨h1,h0,h2,?_⟩;revert h3;cases hc:e.cb with
  |none=>exact id
  |some c=>
   have hb:=hb c hc;have hcell: ∀j,C'.w.cell? ⟨c,j,none⟩=C.w.cell? ⟨c,j,none⟩:=fun j=>MR (a:=⟨c,j,none⟩) hb
   rintro⟨pre,k1,k2,k3⟩
   exact⟨pre,k1.mono l,fun j v hv=>(hcell _).trans (k2 j v hv),fun j hj=>(World.frozen?_of_block (a:=⟨c,j,none⟩) hb).trans (k3 j (by rw[<-hcell];exact hj))⟩
 |loop st pend fn env ps p d=>
  obtain⟨h1,c,hc,lp,g1,g2,g3,g4,g5,g6,g7,g8,g9,ed,g10,g11,g12⟩:=r;obtain⟨e',k1,_,_,k4⟩:=l.ent _ _ g10;obtain rfl:=k4 g11;exact⟨h1,c,hc,lp,(hb c hc).trans g1,g2,g3,g4,g5,g6,g7,g8.mono l,g9,e',k1,g11,g12⟩
 |deferred t=>
  obtain⟨h1,c,hc,g⟩:=r;exact⟨h1,c,hc,(hb c hc).trans g⟩
 |iZ=>exact r
theorem Inv.turn{P:Program}{S0:Base}{w0:World}{C:Cx}{h:Hp}(I:Inv P S0 w0 C h){b:Nat}{e e':tC}{ao:gI}{w':World}
  (hM:C.M b=some e) (hv:e.ver<=e'.ver) (he:e.ver=e'.ver->e'=e) (hp:e.perm=true->e'=e)
  (bel:Keep S0.io w0 w') (hsz:C.w.heap.size<=w'.heap.size)
  (hoth: ∀k,k<C.w.heap.size->e.cb≠some k->w'.heap[k]?=C.w.heap[k]?)
  (hro: ∀c j,e.cb=some c->C.RO c j->w'.cell? ⟨c,j,none⟩=C.w.cell? ⟨c,j,none⟩)
  (hex: ∀c j,e.cb=some c->(C.w.cell? ⟨c,j,none⟩).isSome=true->(w'.cell? ⟨c,j,none⟩).isSome=true)
  (hcb: ∀c,e'.cb=some c->e.cb=some c\/(C.w.heap.size<=c/\c<w'.heap.size))
  (KF: ∀c j,e.cb=some c->e'.cb=some c->C.RO c j-> ∃v ps,ao= .cells v true ps/\j<aH ps)
  (sZ:C.Le ⟨w',C.RO,fun x=>if x=b then some e' else C.M x⟩->kV P ⟨w',C.RO,fun x=>if x=b then some e' else C.M x⟩ e' ao)
  (JJ: ∀c,b=aX->e.cb=some c->e'.cb=some c:=by intro _ _ h;exact h)
  (hao: ∀T e xs,ao≠ .iZ T e xs:=by intro _ _ _ h;cases h):
  C.Le ⟨w',C.RO,fun x=>if x=b then some e' else C.M x⟩/\Inv P S0 w0 ⟨w',C.RO,fun x=>if x=b then some e' else C.M x⟩ ((b,ao)::h):=by
 have le:C.Le ⟨w',C.RO,fun x=>if x=b then some e' else C.M x⟩:=by
  refine⟨fun _ _ r=>r,fun c j r=> ?_,fun x ex hx=> ?_,fun c j r=> ?_⟩
  ·by_cases hc:e.cb=some c
   ·exact hro _ _ hc r
   ·exact MR (a:=⟨c,j,none⟩) (hoth c (I.ro _ _ r).1 hc)
  ·by_cases hxb:x=b
   ·subst hxb;rw[hM]at hx;obtain rfl:=MK hx;exact⟨e',by simp,hv,he,hp⟩
   ·exact⟨ex,by simp[hxb,hx],Nv _,fun _=>rfl,fun _=>rfl⟩
  ·by_cases hc:e.cb=some c
   ·exact hex _ _ hc r
   ·have:=MR (a:=⟨c,j,none⟩) (hoth c (iq r) hc);rw[this];exact r
 have Jg: ∀c,e'.cb=some c->(S0.io c\/w0.heap.size<=c)/\c<w'.heap.size:=fun c hc=>by
  rcases hcb c hc with h1|h1
  ·have:=I.loc _ _ _ hM h1;exact⟨this.1,by omega⟩
  ·have:=bel.size;have:=I.below.size;exact⟨.inr (by omega),by omega⟩
 refine⟨le,bel,?_,?_,?_,?_,?_,?_,?pin,?hid,I.tabs.mono le,I.good⟩
 ·intro x o hx;rw[Hp.aB]at hx;by_cases hxb:b=x
  ·subst hxb;rw[if_pos rfl]at hx;obtain rfl:=MK hx;exact⟨e',by simp,sZ le⟩
  ·rw[if_neg hxb]at hx;obtain⟨ex,h1,h2⟩:=I.obj _ _ hx;refine⟨ex,by simp[Oy hxb,h1],h2.carry le fun c hc=> ?_⟩;have hl:=I.loc _ _ _ h1 hc;exact hoth c hl.2 fun hq=>hxb (I.inj _ _ _ _ _ hM hq h1 hc)
 ·intro x ex hx;rw[Hp.aB];by_cases hxb:b=x
  ·exact⟨ao,by simp[hxb]⟩
  ·rw[if_neg hxb];exact I.dom _ ex (by simpa[Oy hxb]using hx)
 ·intro x ex c hx hc;by_cases hxb:x=b
  ·subst hxb;simp at hx;subst hx;exact Jg c hc
  ·simp[hxb]at hx;have:=I.loc _ _ _ hx hc;exact⟨this.1,by show c<w'.heap.size;omega⟩
 ·intro x ex y ey c hx hxc hy Ci;by_cases hxb:x=b<;>by_cases hyb:y=b
  ·omega
  ·subst hxb;simp at hx;subst hx;simp[hyb]at hy;have hl:=I.loc _ _ _ hy Ci;rcases hcb c hxc with h1|h1
   ·exact I.inj _ _ _ _ _ hM h1 hy Ci
   ·omega
  ·subst hyb;simp at hy;subst hy;simp[hxb]at hx;have hl:=I.loc _ _ _ hx hxc;rcases hcb c Ci with h1|h1
   ·exact I.inj _ _ _ _ _ hx hxc hM h1
   ·omega
  ·simp[hxb]at hx;simp[hyb]at hy;exact I.inj _ _ _ _ _ hx hxc hy Ci
 ·intro c j r;have:=I.ro c j r;exact⟨by show c<w'.heap.size;omega,this.2⟩
 ·intro x ex c j hx hc r;rw[Hp.aB];by_cases hxb:x=b
  ·subst hxb;simp at hx;subst hx;have hl:=(I.ro c j r).1;rcases hcb c hc with h1|h1
   ·obtain⟨v,ps,k1,k2⟩:=KF c j h1 hc r;exact⟨v,ps,by simp[k1],k2⟩
   ·omega
  ·simp[hxb]at hx;rw[if_neg (Oy hxb)];exact I.w_ _ _ _ _ hx hc r
 ·intro c hc;obtain⟨⟨ex,h1,h2⟩,h3⟩:=I.pin c hc;refine⟨?_,fun j hj=>le.sz _ _ (h3 j hj)⟩;by_cases hq:aX=b
  ·subst hq;rw[hM]at h1;obtain rfl:=MK h1;exact⟨e',by simp,JJ c rfl h2⟩
  ·exact⟨ex,by simp[hq,h1],h2⟩
 ·obtain⟨H,hH⟩:=I.hid;refine⟨H,hH.step (fun x T t xs q=> ?_) (fun x en q hq=> ?_) hsz (fun x en c T t xs q hq hc k=> ?_) (fun g h1 h2 h3=> ?_) (fun x en g q hc=> ?_) (fun g j r=> .inl r)⟩
  ·rw[Hp.aB]at q;split at q
   ·exact absurd (MK q) (hao _ _ _)
   ·exact q
  ·by_cases hxb:x=b
   ·subst hxb;rw[hM]at q;obtain rfl:=MK q;simp[hp hq]
   ·simp[hxb,q]
  ·have hxb:x≠b:=by
    rintro rfl
    rw[Hp.aB,if_pos rfl]at k;exact absurd (MK k) (hao _ _ _)
   exact hoth c (I.loc _ _ _ q hc).2 fun hq=>hxb (I.inj _ _ _ _ _ q hc hM hq)
  ·exact hoth g h1 (h3 _ _ hM)
  ·by_cases hxb:x=b
   ·subst hxb;simp at q;subst q;rcases hcb g hc with k|k
    ·exact .inl ⟨_,_,hM,k⟩
    ·exact .inr k.1
   ·simp[hxb]at q;exact .inl ⟨_,_,q,hc⟩
theorem Inv.Iw{P:Program}{S0:Base}{w0:World}{C:Cx}{h:Hp}(I:Inv P S0 w0 C h){b:Nat}{e':tC}{ao:gI}{w':World}
  (hM:C.M b=none) (bel:Keep S0.io w0 w') (hsz:C.w.heap.size<=w'.heap.size)
  (hoth: ∀k,k<C.w.heap.size->w'.heap[k]?=C.w.heap[k]?)
  (hcb: ∀c,e'.cb=some c->C.w.heap.size<=c/\c<w'.heap.size)
  (sZ:C.Le ⟨w',C.RO,fun x=>if x=b then some e' else C.M x⟩->kV P ⟨w',C.RO,fun x=>if x=b then some e' else C.M x⟩ e' ao)
  (KA: ∀H,Hid w0 C h H-> ∃H',Hid w0 ⟨w',C.RO,fun x=>if x=b then some e' else C.M x⟩ ((b,ao)::h) H'):
  C.Le ⟨w',C.RO,fun x=>if x=b then some e' else C.M x⟩/\Inv P S0 w0 ⟨w',C.RO,fun x=>if x=b then some e' else C.M x⟩ ((b,ao)::h):=by
 have ne: ∀x ex,C.M x=some ex->x≠b:=fun x ex hx hq=>by subst hq;rw[hM]at hx;simp at hx
 have le:C.Le ⟨w',C.RO,fun x=>if x=b then some e' else C.M x⟩:=by
  refine⟨fun _ _ r=>r,fun c j r=>MR (a:=⟨c,j,none⟩) (hoth c (I.ro _ _ r).1),fun x ex hx=> ?_,fun c j r=> ?_⟩
  ·exact⟨ex,by simp[ne _ _ hx,hx],Nv _,fun _=>rfl,fun _=>rfl⟩
  ·have:=MR (a:=⟨c,j,none⟩) (hoth c (iq r));rw[this];exact r
 have hbs:=I.below.size;refine⟨le,bel,?_,?_,?_,?_,?_,?_,?pin,?hid,I.tabs.mono le,I.good⟩
 ·intro x o hx;rw[Hp.aB]at hx;by_cases hxb:b=x
  ·subst hxb;rw[if_pos rfl]at hx;obtain rfl:=MK hx;exact⟨e',by simp,sZ le⟩
  ·rw[if_neg hxb]at hx;obtain⟨ex,h1,h2⟩:=I.obj _ _ hx;refine⟨ex,by simp[Oy hxb,h1],h2.carry le fun c hc=>hoth c (I.loc _ _ _ h1 hc).2⟩
 ·intro x ex hx;rw[Hp.aB];by_cases hxb:b=x
  ·exact⟨ao,by simp[hxb]⟩
  ·rw[if_neg hxb];exact I.dom _ ex (by simpa[Oy hxb]using hx)
 ·intro x ex c hx hc;by_cases hxb:x=b
  ·subst hxb;simp at hx;subst hx;have:=hcb c hc;exact⟨by omega,this.2⟩
  ·simp[hxb]at hx;have:=I.loc _ _ _ hx hc;exact⟨this.1,by show c<w'.heap.size;omega⟩
 ·intro x ex y ey c hx hxc hy Ci;by_cases hxb:x=b<;>by_cases hyb:y=b
  ·omega
  ·subst hxb;simp at hx;subst hx;simp[hyb]at hy;have hl:=I.loc _ _ _ hy Ci;have:=hcb c hxc;omega
  ·subst hyb;simp at hy;subst hy;simp[hxb]at hx;have hl:=I.loc _ _ _ hx hxc;have:=hcb c Ci;omega
  ·simp[hxb]at hx;simp[hyb]at hy;exact I.inj _ _ _ _ _ hx hxc hy Ci
 ·intro c j r;have:=I.ro c j r;exact⟨by show c<w'.heap.size;omega,this.2⟩
 ·intro x ex c j hx hc r;rw[Hp.aB];by_cases hxb:x=b
  ·subst hxb;simp at hx;subst hx;have hl:=(I.ro c j r).1;have:=hcb c hc;omega
  ·simp[hxb]at hx;rw[if_neg (Oy hxb)];exact I.w_ _ _ _ _ hx hc r
 ·intro c hc;obtain⟨⟨ex,h1,h2⟩,h3⟩:=I.pin c hc;exact⟨⟨ex,by simp[ne _ _ h1,h1],h2⟩,fun j hj=>le.sz _ _ (h3 j hj)⟩
 ·obtain⟨H,hH⟩:=I.hid;exact KA H hH
theorem Inv.make{P:Program}{S0:Base}{w0:World}{C:Cx}{h:Hp}(I:Inv P S0 w0 C h){b:Nat}{e':tC}{ao:gI}{w':World}
  (hM:C.M b=none) (bel:Keep S0.io w0 w') (hsz:C.w.heap.size<=w'.heap.size)
  (hoth: ∀k,k<C.w.heap.size->w'.heap[k]?=C.w.heap[k]?)
  (hcb: ∀c,e'.cb=some c->C.w.heap.size<=c/\c<w'.heap.size)
  (sZ:C.Le ⟨w',C.RO,fun x=>if x=b then some e' else C.M x⟩->kV P ⟨w',C.RO,fun x=>if x=b then some e' else C.M x⟩ e' ao)
  (hao: ∀T e xs,ao≠ .iZ T e xs:=by intro _ _ _ h;cases h):
  C.Le ⟨w',C.RO,fun x=>if x=b then some e' else C.M x⟩/\Inv P S0 w0 ⟨w',C.RO,fun x=>if x=b then some e' else C.M x⟩ ((b,ao)::h):=
 I.Iw hM bel hsz hoth hcb sZ fun H hH=>by
  have ne: ∀x ex,C.M x=some ex->x≠b:=fun x ex hx hq=>by subst hq;rw[hM]at hx;simp at hx
  refine⟨H,hH.step (fun x T t xs q=> ?_) (fun x en q _=>by simp[ne _ _ q,q]) hsz (fun x en c T t xs q _ hc _=>hoth c (I.loc _ _ _ q hc).2) (fun g h1 _ _=>hoth g h1) (fun x en g q hc=> ?_) (fun g j r=> .inl r)⟩
  ·rw[Hp.aB]at q;split at q
   ·exact absurd (MK q) (hao _ _ _)
   ·exact q
  ·by_cases hxb:x=b
   ·subst hxb;simp at q;subst q;exact .inr (hcb g hc).1
   ·simp[hxb]at q;exact .inl ⟨_,_,q,hc⟩
theorem Inv.still{P:Program}{S0:Base}{w0:World}{C:Cx}{h:Hp}(I:Inv P S0 w0 C h){w':World}(hh:w'.heap=C.w.heap)
  (bel:Keep S0.io w0 w'):C.Le ⟨w',C.RO,C.M⟩/\Inv P S0 w0 ⟨w',C.RO,C.M⟩ h:=by
 have le:C.Le ⟨w',C.RO,C.M⟩:=⟨fun _ _ r=>r,fun c j _=>MR (a:=⟨c,j,none⟩) (by rw[hh]),fun _ e h=>⟨e,h,Nv _,fun _=>rfl,fun _=>rfl⟩,
  fun c j r=>by rw[MR (a:=⟨c,j,none⟩) (w:=C.w) (w':=w') (by rw[hh])];exact r⟩
 exact⟨le,bel,fun b o hb=>let ⟨e,h1,h2⟩:=I.obj b o hb;⟨e,h1,h2.carry le fun c _=>by rw[hh]⟩,I.dom,fun b e c h1 h2=>by have:=I.loc b e c h1 h2;rw[<-hh]at this;exact this,I.inj,
  fun c j r=>by have:=I.ro c j r;rw[<-hh]at this;exact this,I.w_,fun c hc=>⟨(I.pin c hc).1,fun j hj=>le.sz _ _ ((I.pin c hc).2 j hj)⟩,
  let ⟨H,hH⟩:=I.hid;⟨H,hH.step (fun _ _ _ _ q=>q) (fun _ _ q _=>q) (Nat.le_of_eq (by rw[hh])) (fun _ _ _ _ _ _ _ _ _ _=>by rw[hh]) (fun _ _ _ _=>by rw[hh]) (fun x en g q hc=> .inl ⟨x,en,q,hc⟩) (fun _ _ r=> .inl r)⟩,I.tabs.mono le,I.good⟩
theorem Inv.H9{P:Program}{S0:Base}{w0:World}{C:Cx}{h:Hp}(I:Inv P S0 w0 C h){b:Nat}{T e:TypeId}(hM:C.M b=none):
  let C':Cx:=⟨C.w.alloc (.cells #[.pointer none,.slice none 0 0] T),C.RO,fun x=>if x=b then some ⟨0,some C.w.heap.size,0,true⟩else C.M x⟩
  C.Le C'/\Inv P S0 w0 C' ((b,.iZ T e [])::h):=by
 have hold: ∀k,k<C.w.heap.size->(C.w.alloc (.cells #[.pointer none,.slice none 0 0] T)).heap[k]?=C.w.heap[k]?:=fun k hk=>by
  simp only[World.alloc,Oq];rw[if_neg (by omega)]
 have hsz:(C.w.alloc (.cells #[.pointer none,.slice none 0 0] T)).heap.size=C.w.heap.size+1:=Array.size_push _;have hnew:(C.w.alloc (.cells #[.pointer none,.slice none 0 0] T)).heap[C.w.heap.size]?=some (.cells #[.pointer none,.slice none 0 0] T (0,0)):=by
  show (C.w.heap.push _)[C.w.heap.size]?=_;simp
 refine I.Iw hM ⟨I.below.os,I.below.tape,I.below.output,by have:=I.below.size;omega,fun k hk hx=>(hold k (by have:=I.below.size;omega)).trans (I.below.block k hk hx)⟩ (by omega) hold (fun c hc=>by cases hc;omega) (fun _=>⟨rfl,rfl,fun n hn=>by cases hn⟩) fun H hH=> ?_
 refine⟨fun x=>if x=b then none else H x,fun x T' e2 xs q=> ?_,fun x g q=> ?_,fun x g y en q hy Ci=> ?_,fun x x' g q q'=> ?_,fun x g j q hr=> ?_⟩
 ·rw[Hp.aB]at q;by_cases hxb:b=x
  ·subst hxb;rw[if_pos rfl]at q;cases q;exact⟨⟨0,some C.w.heap.size,0,true⟩,C.w.heap.size,.slice none 0 0,by simp,rfl,rfl,⟨⟨.pointer none,.inl rfl,hnew⟩,⟨rfl,.inl ⟨rfl,rfl⟩⟩,by simp[Nc],fun _=>rfl⟩,by simp[Nc]⟩
  ·rw[if_neg hxb]at q;obtain⟨en,c,v,k1,k2,k3,k4,k5⟩:=hH.iZ x T' e2 xs q;refine⟨en,c,v,by simp[Oy hxb,k1],k2,k3,k4.keep (hold c (I.loc _ _ _ k1 k3).2) fun g hg=>hold g (hH.old x g (k5.trans hg)).2,by simp[Oy hxb,k5]⟩
 ·split at q
  ·cases q
  ·have:=hH.old x g q;exact⟨this.1,by show g<(C.w.alloc _).heap.size;omega⟩
 ·split at q
  ·cases q
  ·have hy:(if y=b then some (⟨0,some C.w.heap.size,0,true⟩:tC)else C.M y)=some en:=hy;split at hy
   ·cases hy;cases Ci;have:=hH.old x _ q;omega
   ·exact hH.cb x g y en q hy Ci
 ·split at q
  ·cases q
  ·split at q'
   ·cases q'
   ·exact hH.one x x' g q q'
 ·split at q
  ·cases q
  ·exact hH.ro x g j q hr
theorem Inv.zI{P:Program}{S0:Base}{w0:World}{C:Cx}{h:Hp}(I:Inv P S0 w0 C h){b:Nat}{T e:TypeId}{xs ys:List Int}(hb:h.get b=some (.iZ T e xs))(hys: ∀n∈ys,ak .u8 n=true):
  ∃en c v,C.M b=some en/\en.perm=true/\en.ver=0/\en.cb=some c/\(∀n∈xs,ak .u8 n=true)/\sN T e c v (xs.map fun n=>PE .u8 n) C.w/\
   ∀w' v',Only c v.ownBlock C.w w'->sN T e c v' (ys.map fun n=>PE .u8 n) w'->(∀k,v'.ownBlock=some k->v.ownBlock=some k\/C.w.heap.size<=k)->
    C.Le ⟨w',C.RO,C.M⟩/\Inv P S0 w0 ⟨w',C.RO,C.M⟩ ((b,.iZ T e ys)::h):=by
 obtain⟨H,hH⟩:=I.hid;obtain⟨en,c,v,k1,k2,k3,k4,k5⟩:=hH.iZ b T e xs hb;obtain⟨en',q1,q2,q3,q4⟩:=I.obj b _ hb;rw[k1]at q1;obtain rfl:=MK q1;refine⟨en,c,v,k1,k2,q3,k3,q4,k4,fun w' v' ho hv hn=> ?_⟩;have lc:=I.loc _ _ _ k1 k3;have hsz:=ho.size;have Mc:=I.below.size;have Kz: ∀j,¬C.RO c j:=fun j hj=>by
  obtain⟨v,ps,z,_⟩:=I.w_ _ _ _ _ k1 k3 hj;rw[hb]at z;cases z
 have hold: ∀k,k<C.w.heap.size->k≠c->H b≠some k->w'.heap[k]?=C.w.heap[k]?:=fun k hk hc hg=>ho.block k hk hc (fun z=>hg (k5.trans z.symm))
 have le:C.Le ⟨w',C.RO,C.M⟩:=by
  refine⟨fun _ _ r=>r,fun k j r=> ?_,fun x ex hx=>⟨ex,hx,Nv _,fun _=>rfl,fun _=>rfl⟩,fun k j r=>ho.sz k j r⟩;refine MR (a:=⟨k,j,none⟩) (hold k (I.ro _ _ r).1 (fun z=>Kz j (z▸r)) fun z=>hH.ro b k j z r)
 have Lr: ∀x ex k,C.M x=some ex->ex.cb=some k->x≠b->w'.heap[k]?=C.w.heap[k]?:=fun x ex k hx hk hxb=>
  hold k (I.loc _ _ _ hx hk).2 (fun z=>hxb (I.inj _ _ _ _ _ hx hk k1 (z▸k3))) fun z=>hH.cb b k x ex z hx hk
 refine⟨le,⟨ho.os.trans I.below.os,ho.tape.trans I.below.tape,ho.output.trans I.below.output,by show w0.heap.size<=w'.heap.size;omega,fun k hk hx=> ?_⟩,fun x o hx=> ?_,fun x ex hx=> ?_,fun x ex k hx hk=> ?_,I.inj,fun k j r=> ?_,fun x ex k j hx hk r=> ?_,fun k hk=>⟨(I.pin k hk).1,fun j hj=>le.sz _ _ ((I.pin k hk).2 j hj)⟩,?_,I.tabs.mono le,I.good⟩
 ·refine(hold k (by omega) ?_ fun z=> ?_).trans (I.below.block k hk hx)
  ·rintro rfl
   rcases lc.1 with z|z
   ·exact hx z
   ·omega
  ·have:=(hH.old b k z).1;omega
 ·rw[Hp.aB]at hx;by_cases hxb:b=x
  ·subst hxb;rw[if_pos rfl]at hx;obtain rfl:=MK hx;exact⟨en,k1,k2,q3,hys⟩
  ·rw[if_neg hxb]at hx;obtain⟨ex,h1,h2⟩:=I.obj _ _ hx;exact⟨ex,h1,h2.carry le fun k hk=>Lr x ex k h1 hk (Oy hxb)⟩
 ·rw[Hp.aB];by_cases hxb:b=x
  ·exact⟨_,if_pos hxb⟩
  ·rw[if_neg hxb];exact I.dom x ex hx
 ·have:=I.loc x ex k hx hk;exact⟨this.1,by show k<w'.heap.size;omega⟩
 ·have:=I.ro k j r;exact⟨by show k<w'.heap.size;omega,this.2⟩
 ·obtain⟨v,ps,z1,z2⟩:=I.w_ x ex k j hx hk r;refine⟨v,ps,?_,z2⟩;rw[Hp.aB,if_neg]
  ·exact z1
  ·rintro rfl
   rw[hb]at z1;cases z1
 ·refine⟨fun x=>if x=b then v'.ownBlock else H x,fun x T' e2 zs q=> ?_,fun x g q=> ?_,fun x g y ey q hy Ci=> ?_,fun x x' g q q'=> ?_,fun x g j q hr=> ?_⟩
  ·rw[Hp.aB]at q;by_cases hxb:b=x
   ·subst hxb;rw[if_pos rfl]at q;cases q;exact⟨en,c,v',k1,k2,k3,hv,by simp⟩
   ·rw[if_neg hxb]at q;obtain⟨J_,c2,v2,z1,z2,z3,z4,z5⟩:=hH.iZ x T' e2 zs q;refine⟨J_,c2,v2,z1,z2,z3,z4.keep (Lr x J_ c2 z1 z3 (Oy hxb)) fun g hg=> ?_,by simp[Oy hxb,z5]⟩;have:=hH.old x g (z5.trans hg);refine hold g this.2 (fun z=>hH.cb x g b en (z5.trans hg) k1 (z▸k3)) fun z=>hxb (hH.one b x g z (z5.trans hg))
  ·split at q
   ·rcases hn g q with z|z
    ·have:=hH.old b g (k5.trans z);exact⟨this.1,by show g<w'.heap.size;omega⟩
    ·refine⟨by omega,?_⟩;rcases hv.row.2 with⟨rfl,_⟩|⟨g',cap,cur,fz,rfl,_,r,_⟩
     ·simp[Nc]at q
     ·simp only[Nc,Oe]at q;subst q;show g'<w'.heap.size;rcases Ph g' w'.heap.size with k|k
      ·exact k
      ·rw[N_ k]at r;cases r
   ·have:=hH.old x g q;exact⟨this.1,by show g<w'.heap.size;omega⟩
  ·split at q
   ·rcases hn g q with z|z
    ·exact hH.cb b g y ey (k5.trans z) hy Ci
    ·have:=I.loc y ey g hy Ci;omega
   ·exact hH.cb x g y ey q hy Ci
  ·split at q
   ·rename_i hx1;split at q'
    ·rename_i hx2;omega
    ·rcases hn g q with z|z
     ·have:=hH.one b x' g (k5.trans z) q';omega
     ·have:=hH.old x' g q';omega
   ·split at q'
    ·rcases hn g q' with z|z
     ·have:=hH.one b x g (k5.trans z) q;omega
     ·have:=hH.old x g q;omega
    ·exact hH.one x x' g q q'
  ·split at q
   ·rcases hn g q with z|z
    ·exact hH.ro b g j (k5.trans z) hr
    ·have:=I.ro g j hr;omega
   ·exact hH.ro x g j q hr
end Go.AM
end
section
namespace Go.AM
variable [Tabs]
open Go.RowKit
def xk(P:Program)(cs:List Frame)(r:Result Next)(v:Value)(w':World):Prop:=
 r= .ok (.value v) w'\/(r= .ok .skip w'/\v=undef)\/
 ∃f args w1,r= .ok (.enter f args) w1/\ ∃fr,Steps P (lone (Frame.enter P f args .normal) cs w1) (lone fr cs w')/\fr.fn=f/\fr.leaving P w' (.returned v)
def Does(P:Program)(S0:Base)(w0:World)(cs:List Frame)(C:Cx)(h:Hp)(nx:Nat)(r:Result Next)(x:AV×h_):Prop:=
 ∃v C',xk P cs r v C'.w/\Inv P S0 w0 C' (x.2++h)/\C.Le C'/\VR C' x.1 v/\ ∀y,C'.M y≠none->C.M y≠none\/y=nx
inductive F.Ev {β:Type}:F β->β->Prop
 |ret {b}:F.Ev (.ret b) b
 |guard {k b}:F.Ev k b->F.Ev (.guard true k) b
 |vJ {a c b}:F.Ev a b->F.Ev (.ite true a c) b
 |vI {a c b}:F.Ev c b->F.Ev (.ite false a c) b
 |call {γ:Type} {d:γ} {x:Option γ} {k:γ->F β} {g b}:x=some g->F.Ev (k g) b->F.Ev (.call d x k) b
theorem F.qZ{β α:Type}{K:β->Option α}{r:α}: ∀ {x:F β},x.run K=some r-> ∃b,x.Ev b/\K b=some r
 | .ret b,h=>⟨b,.ret,h⟩
 | .fail,h=>by simp[F.run]at h
 | .guard c k,h=>by
  cases c with
  |false=>simp[F.run]at h
  |true=>obtain⟨b,h1,h2⟩:=F.qZ (x:=k) h;exact⟨b,.guard h1,h2⟩
 | .ite c a e,h=>by
  cases c with
  |false=>obtain⟨b,h1,h2⟩:=F.qZ (x:=e) h;exact⟨b,.vI h1,h2⟩
  |true=>obtain⟨b,h1,h2⟩:=F.qZ (x:=a) h;exact⟨b,.vJ h1,h2⟩
 | .call d x k,h=>by
  cases x with
  |none=>simp[F.run]at h
  |some g=>obtain⟨b,h1,h2⟩:=F.qZ (x:=k g) h;exact⟨b,.call rfl h1,h2⟩
theorem F.bV{β δ:Type}{f:β->F δ}{d:δ}{x:F β}(h:(x.bind f).Ev d): ∃b,x.Ev b/\(f b).Ev d:=by
 induction x with
 |ret b=>exact⟨b,.ret,h⟩
 |fail=>exact nomatch h
 |guard c k ih=>
  simp only[F.bind]at h;cases h with
  |guard h=>obtain⟨b,h1,h2⟩:=ih h;exact⟨b,.guard h1,h2⟩
 |ite c a e ih1 ih2=>
  simp only[F.bind]at h;cases h with
  |vJ h=>obtain⟨b,h1,h2⟩:=ih1 h;exact⟨b,.vJ h1,h2⟩
  |vI h=>obtain⟨b,h1,h2⟩:=ih2 h;exact⟨b,.vI h1,h2⟩
 |call d x k ih=>
  simp only[F.bind]at h;generalize hk:(fun g=>(k g).bind f)=k' at h;cases h with
  |call e h=>subst hk;obtain⟨b,h1,h2⟩:=ih _ h;exact⟨b,.call e h1,h2⟩
theorem F.au{β:Type}{b c:β}(h:(F.ret b).Ev c):c=b:=by cases h;rfl
theorem F.ah{β:Type}{c:β}(h:(F.fail:F β).Ev c):False:=nomatch h
theorem F.aF{β:Type}{c:Bool}{k:F β}{b:β}(h:(F.guard c k).Ev b):c=true/\k.Ev b:=by cases h;exact⟨rfl,‹_›⟩
theorem F.aj{v:AV}{x:AV×h_}(h:(one v).Ev x):x=(v,[]):=F.au h
theorem wrap_in(k:IntKind)(n:Int):ak k (k.wrap n)=true:=by
 unfold ak;simp only[MP,decide_eq_true_eq];unfold IntKind.wrap Qb Qa;cases k<;>simp[PX,PO]<;>(try split)<;>omega
theorem fP{k:IntKind}{n:Int}:ak k n=true ↔ k.min<=n/\n<=k.max:=by unfold ak;simp
theorem rU(k:IntKind):k.min<=0/\0<=k.max:=by cases k<;>simp[Qb,Qa,PX,PO]
theorem tmod_in{k:IntKind}{a b:Int}(h:ak k a=true):ak k (a.tmod b)=true:=by
 rw[fP]at*;have hz:=rU k;have hn:(a.tmod b).natAbs<=a.natAbs:=by rw[Int.natAbs_tmod];exact Nat.mod_le _ _
 rcases PZ 0 a with ha|ha
 ·have:=PG b ha;omega
 ·have:=PG b (show 0<= -a by omega);rw[Int.neg_tmod]at this;omega
theorem Ht{k:IntKind}{a:Int}{n:Nat}(h:ak k a=true):ak k (a.fdiv (2^n))=true:=by
 rw[fP]at*;have hz:=rU k;have hp:(0:Int)<2^n:=Int.pow_pos (by decide);rw[Int.fdiv_eq_ediv_of_nonneg _ (by omega)];rcases PZ 0 a with ha|ha
 ·have:=Int.ediv_nonneg ha (show (0:Int)<=2^n by omega);have:=Int.ediv_le_self (2^n) ha;omega
 ·have h1:a<=a/2^n:=by
   rw[Int.le_ediv_iff_mul_le hp];have:=Int.mul_le_mul_of_nonpos_left ha (show (1:Int)<=2^n by omega);omega
  have h2:a/2^n<=0:=Int.ediv_le_of_le_mul hp (by omega);omega
end Go.AM
end
section
namespace Go.AM
variable [Tabs]
open Go.RowKit
def qB(P:Program)(C:Cx)(s:Sem Value)(x:AV×h_):Prop:= ∃v,s.run P C.w= .ok v C.w/\VR C x.1 v/\x.2=[]
theorem oM(op:BinOp)(k:IntKind)(x y:Int):ak k (nC op k x y)=true:=by unfold nC;split<;>exact wrap_in _ _
theorem IQ(a b:Int):(a==b)=decide (a=b):=rfl
theorem Jf(a b:Int):(a != b)= !decide (a=b):=rfl
theorem Ar{P:Program}{C:Cx}{op:BinOp}{k:IntKind}{a b:Int}{x:AV×h_}(h:(FX op k a b).Ev x)(ha:ak k a=true)(hs:op≠ .shl)(hr:op≠ .shr)(t:TypeId):
  qB P C (binOp op t (.int k a) (.int k b)) x:=by
 cases op<;>simp only[FX]at h
 case shl=>contradiction
 case shr=>contradiction
 case quo=>
  obtain⟨h1,h2⟩:=F.aF h;obtain rfl:=F.aj h2;have hb:b≠0:=by simpa using h1
  exact⟨.int k (k.wrap (a.tdiv b)),by simp[binOp,Op.intDiv,hb],.int (wrap_in _ _),rfl⟩
 case rem=>
  obtain⟨h1,h2⟩:=F.aF h;obtain rfl:=F.aj h2;have hb:b≠0:=by simpa using h1
  exact⟨.int k (a.tmod b),by simp[binOp,Op.intDiv,hb],.int (tmod_in ha),rfl⟩
 case add=>obtain rfl:=F.aj h;exact⟨.int k (k.wrap (a+b)),by simp[binOp,Pv],.int (wrap_in _ _),rfl⟩
 case sub=>obtain rfl:=F.aj h;exact⟨.int k (k.wrap (a-b)),by simp[binOp,Pv],.int (wrap_in _ _),rfl⟩
 case mul=>obtain rfl:=F.aj h;exact⟨.int k (k.wrap (a*b)),by simp[binOp,Pv],.int (wrap_in _ _),rfl⟩
 case and=>obtain rfl:=F.aj h;exact⟨.int k (I9 k a b),by simp[binOp,O7,I9,nC],.int (oM _ _ _ _),rfl⟩
 case or=>obtain rfl:=F.aj h;exact⟨.int k (KL k a b),by simp[binOp,O7,KL,nC],.int (oM _ _ _ _),rfl⟩
 case xor=>obtain rfl:=F.aj h;exact⟨.int k (Hz k a b),by simp[binOp,O7,Hz,nC],.int (oM _ _ _ _),rfl⟩
 case andNot=>obtain rfl:=F.aj h;exact⟨.int k (FW k a b),by simp[binOp,O7,FW,nC],.int (oM _ _ _ _),rfl⟩
 case eql=>obtain rfl:=F.aj h;exact⟨.bool (decide (a=b)),by simp[binOp,OH,IQ],.bool,rfl⟩
 case neq=>obtain rfl:=F.aj h;exact⟨.bool (!decide (a=b)),by simp[binOp,OH,Jf],.bool,rfl⟩
 case lss=>obtain rfl:=F.aj h;exact⟨.bool (decide (a<b)),by simp[binOp,OH],.bool,rfl⟩
 case leq=>obtain rfl:=F.aj h;exact⟨.bool (decide (a<=b)),by simp[binOp,OH],.bool,rfl⟩
 case gtr=>obtain rfl:=F.aj h;exact⟨.bool (decide (a>b)),by simp[binOp,OH],.bool,rfl⟩
 case geq=>obtain rfl:=F.aj h;exact⟨.bool (decide (a>=b)),by simp[binOp,OH],.bool,rfl⟩
theorem Ir{s t:ByteArray}:bytesOf s=bytesOf t ↔ s=t:=by
 constructor
 ·intro h;unfold bytesOf at h;have:=(O4 (f:=fun b:UInt8=>(b.toNat:Int)) (fun a b h=>OL.1 (by have h:(a.toNat:Int)=b.toNat:=h;omega))).1 h;cases s;cases t;simp_all
 ·rintro rfl;rfl
theorem bytesOf_length(s:ByteArray):(bytesOf s).length=s.size:=by simp[bytesOf]
theorem uN(s t:ByteArray):bytesOf (s++t)=bytesOf s++bytesOf t:=by simp[bytesOf]
theorem bytesLess_eq: ∀x y:List UInt8,Ou x y=strLt (x.map fun b=>(b.toNat:Int)) (y.map fun b=>(b.toNat:Int))
 |x,[]=>by cases x<;>simp[Ou,strLt]
 |[],y::ys=>by simp[Ou,strLt]
 |a::x,b::y=>by
  simp only[Ou,strLt,O1,bytesLess_eq x y];congr 1
  ·simp[UInt8.lt_iff_toNat_lt]
  ·congr 1;by_cases h:a=b
   ·simp[h]
   ·have:(a.toNat:Int)≠b.toNat:=fun q=>h (OL.1 (by omega))
    simp[h,this]
theorem Az(x y:List UInt8):(x==y)=decide (x.map (fun b=>(b.toNat:Int))=y.map (fun b=>(b.toNat:Int))):=by
 rw[Bool.eq_iff_iff];simp only[beq_iff_eq,decide_eq_true_eq];constructor
 ·rintro rfl;rfl
 ·intro h;exact(O4 (f:=fun b:UInt8=>(b.toNat:Int)) (fun a b h=>OL.1 (by have h:(a.toNat:Int)=b.toNat:=h;omega))).1 h
theorem Bo{P:Program}{C:Cx}{op:BinOp}{s u:ByteArray}{x:AV×h_}(h:(GR op (bytesOf s) (bytesOf u)).Ev x)(t:TypeId):
  qB P C (binOp op t (.string s) (.string u)) x:=by
 have e1:(s.toList==u.toList)=decide (bytesOf s=bytesOf u):=by rw[Np,Np,Az];rfl
 have e2:Ou s.toList u.toList=strLt (bytesOf s) (bytesOf u):=by rw[Np,Np,bytesLess_eq];rfl
 cases op<;>simp only[GR]at h
 case add=>
  obtain⟨h1,h2⟩:=F.aF h;obtain rfl:=F.aj h2;have hb:s.size+u.size<=9223372036854775807:=by simpa[bytesOf_length,maxStr]using h1
  refine⟨.string (s++u),?_,.str (uN _ _),rfl⟩;have: ¬(((s.size+u.size:Nat):Int)>P_.max):=by
   have e:P_.max=9223372036854775807:=rfl;omega
  simp only[binOp,Op.stringOp];rw[if_neg this];rfl
 case eql=>obtain rfl:=F.aj h;exact⟨_,rfl,by rw[e1];exact .bool,rfl⟩
 case neq=>obtain rfl:=F.aj h;exact⟨_,rfl,by rw[e1];exact .bool,rfl⟩
 case lss=>obtain rfl:=F.aj h;exact⟨_,rfl,by rw[e2];exact .bool,rfl⟩
 case leq=>obtain rfl:=F.aj h;exact⟨_,rfl,by rw[e1,e2];exact .bool,rfl⟩
 case gtr=>obtain rfl:=F.aj h;exact⟨_,rfl,by rw[e1,e2];exact .bool,rfl⟩
 case geq=>obtain rfl:=F.aj h;exact⟨_,rfl,by rw[e2];exact .bool,rfl⟩
 all_goals exact(F.ah h).elim
end Go.AM
end
section
namespace Go.AM
variable [Tabs]
open Go.RowKit
theorem b_{P:Program}{n:Nat}{t:TypeId}{ty:Ty}(h:bU P n t=some ty):P.cellsOf t=ty.size:=by
 have hs: ∀ty',sized P t ty'=some ty->P.cellsOf t=ty.size:=by
  intro ty' h;unfold sized at h;cases hb:MQ (P.cellsOf t) ty'.size with
  |false=>simp[hb]at h
  |true=>simp[hb]at h;subst h;exact ML hb
 cases n with
 |zero=>simp[bU]at h
 |succ n=>
  unfold bU at h;split at h
  ·exact hs _ h
  ·exact hs _ h
  ·exact hs _ h
  ·split at h
   ·exact hs _ h
   ·simp at h
  ·split at h
   ·exact hs _ h
   ·simp at h
  ·split at h
   ·rename_i l hl;simp only[cond_eq_ite]at h;split at h
    ·exact hs _ h
    ·simp at h
   ·simp at h
  ·simp at h
def bT(P:Program)(t:TypeId)(cs:List Value):Value:=
 match P.underlying t with
 |some (.struct _)=> .agg cs.toArray
 |some (.array _ _)=> .agg cs.toArray
 |_=>cs.headD undef
theorem eu{P:Program}{t:TypeId}{i:TypeInfo}(h:P.info? t=some i):P.cellsOf t=i.size:=by simp[Py,h]
theorem bD{P:Program}{t:TypeId}{d:TypeDesc}(h:P.underlying t=some d): ∃i,P.info? t=some i:=by
 unfold Program.underlying at h;cases hi:P.info? t with
 |none=>simp[hi]at h
 |some i=>exact⟨i,rfl⟩
theorem yC{P:Program}(w:World){t:TypeId}{d:TypeDesc}(hu:P.underlying t=some d):(isAgg t).run P w= .ok d.isRow w:=by
 unfold isAgg;rw[MO,run_underlying hu w];cases d<;>rfl
theorem run_sizeOf{P:Program}(w:World){t:TypeId}{i:TypeInfo}(hi:P.info? t=some i):(sizeOf t).run P w= .ok (P.cellsOf t) w:=by simp[sizeOf,typeInfo,hi,eu hi]
theorem dD{P:Program}{t:TypeId}{d:TypeDesc}(hu:P.underlying t=some d)(hd:d.isRow=true)(cs:List Value):bT P t cs= .agg cs.toArray:=by unfold bT;rw[hu];cases d<;>simp at hd<;>rfl
theorem aY{P:Program}{t:TypeId}{d:TypeDesc}(hu:P.underlying t=some d)(hd:d.isRow=false)(cs:List Value):bT P t cs=cs.headD undef:=by unfold bT;rw[hu];cases d<;>simp at hd<;>rfl
theorem jk{P:Program}(w:World){t:TypeId}{d:TypeDesc}(hu:P.underlying t=some d)(cs:Array Value)(off:Nat)(hle:off+P.cellsOf t<=cs.size)(h1:d.isRow=false->P.cellsOf t=1):
  (part t cs off).run P w= .ok (bT P t ((cs.toList.drop off).take (P.cellsOf t))) w:=by
 obtain⟨i,hi⟩:=bD hu;unfold part;rw[MO,yC w hu,MN];cases hd:d.isRow with
 |true=>
  rw[if_pos rfl,MO,run_sizeOf w hi,MN,dD hu hd];simp only[NC];congr 2;apply Qg
  simp
 |false=>
  have h1:=h1 hd;rw[if_neg (by simp),aY hu hd,h1];have hlt:off<cs.toList.length:=by simp;omega
  have e:(cs.toList.drop off).take 1=[cs.toList[off]]:=by rw[Ov hlt];rfl
  rw[e];have e2:cs[off]?=some cs.toList[off]:=by rw[<-Oi,Nj hlt]
  rw[e2];rfl
theorem qw{P:Program}{n:Nat}{t:TypeId}{ty:Ty}{d:TypeDesc}(h:bU P n t=some ty)(hu:P.underlying t=some d)(hd:d.isRow=false):P.cellsOf t=1:=by
 rw[b_ h];have hs: ∀ty',sized P t ty'=some ty->ty=ty':=by
  intro ty' h;unfold sized at h;cases hb:MQ (P.cellsOf t) ty'.size with
  |false=>simp[hb]at h
  |true=>simp[hb]at h;exact h.symm
 cases n with
 |zero=>simp[bU]at h
 |succ n=>
  unfold bU at h;rw[hu]at h;cases d<;>simp at h hd
  ·rw[hs _ h];rfl
  ·rw[hs _ h];rfl
  ·rw[hs _ h];rfl
  ·split at h
   ·rw[hs _ h];rfl
   ·simp at h
theorem xP{P:Program}(w:World)(f:Nat->Sem Bool)(r:Nat->Bool): ∀(l:List Nat),(∀i∈l,(f i).run P w= .ok (r i) w)->
  ((do
   let s <-forIn l ((none,()):Option Bool×Unit) fun i _=>do
    if !(<-f i)then pure (ForInStep.done (some false,()))else pure (ForInStep.yield (none,()))
   match s.fst with
   |some a=>pure a
   |none=>pure true):Sem Bool).run P w= .ok (l.all r) w
 |[],_=>by simp
 |i::l,h=>by
  have ih:=xP w f r l (fun j hj=>h j (by simp[hj]));simp only[List.forIn_cons,MO,h i (by simp),MN]at ih ⊢
  cases hr:r i with
  |false=>simp[hr]
  |true=>simp[hr]at ih ⊢;exact ih
theorem run_equalIn_array{P:Program}(w:World)(d:Nat){t e:TypeId}{n:Nat}(xs ys:Array Value)(hu:P.underlying t=some (.array n e)){i:TypeInfo}(hi:P.info? e=some i)(r:Nat->Bool)(a b:Nat->Value)
  (ha: ∀k,k<n->(part e xs (k*P.cellsOf e)).run P w= .ok (a k) w) (hb: ∀k,k<n->(part e ys (k*P.cellsOf e)).run P w= .ok (b k) w)
  (hr: ∀k,k<n->(Na d e (a k) (b k)).run P w= .ok (r k) w):
  (Na (d+1) t (.agg xs) (.agg ys)).run P w= .ok ((NY n).all r) w:=by
 simp only[Na,MO,run_underlying hu,MN,run_sizeOf w hi];have:=xP (P:=P) w (fun k=>do
  let x <-part e xs (k*P.cellsOf e)
  let y <-part e ys (k*P.cellsOf e)
  Na d e x y) r (NY n) (fun k hk=>by
   have hk:k<n:=by simpa using hk
   simp only[MO,ha k hk,hb k hk,hr k hk,MN])
 rw[<-this,OQ];simp only[P7,Nat.sub_zero,Nat.add_sub_cancel,Nat.div_one,List.range_eq_range',MO,bind_assoc];congr 1
 funext a w'
 rcases a with⟨_|_,_⟩<;>rfl
theorem Rep.KO{C:Cx}{a:Ty}{l:List Ty}{x:(Ty.st (a::l)).den}{cs:List Value}(h:Rep C (Ty.st (a::l)) x cs):
  ∃(y:a.den) (z:(Ty.st l).den) (c1 c2:List Value),cs=c1++c2/\Rep C a y c1/\Rep C (Ty.st l) z c2:=by
 cases l with
 |nil=>exact⟨x,(),cs,[],by simp,h,rfl⟩
 |cons b r=>obtain⟨c1,c2,e,h1,h2⟩:=h;exact⟨x.1,x.2,c1,c2,e,h1,h2⟩
def E8{a:Ty}: {l:List Ty}->(Ty.st (a::l)).den->a.den
 |[],x=>x
 |_::_,x=>x.1
def E_{a:Ty}: {l:List Ty}->(Ty.st (a::l)).den->(Ty.st l).den
 |[],_=>()
 |_::_,x=>x.2
theorem Rep.st{C:Cx}{a:Ty}{l:List Ty}{x:(Ty.st (a::l)).den}{cs:List Value}(h:Rep C (Ty.st (a::l)) x cs):
  ∃c1 c2,cs=c1++c2/\Rep C a (E8 x) c1/\Rep C (Ty.st l) (E_ x) c2:=by
 cases l with
 |nil=>exact⟨cs,[],by simp,h,rfl⟩
 |cons b r=>obtain⟨c1,c2,e,h1,h2⟩:=h;exact⟨c1,c2,e,h1,h2⟩
theorem IL{a:Ty}{l:List Ty}(x y:(Ty.st (a::l)).den):(Ty.st (a::l)).DF x y=(a.DF (E8 x) (E8 y)&&(Ty.st l).DF (E_ x) (E_ y)):=by
 cases l with
 |nil=>simp[E8,E_,Ty.st,Ty.DF]
 |cons b r=>rfl
theorem Ku(a:Ty)(l:List Ty):(Ty.st (a::l)).size=a.size+(Ty.st l).size:=by
 cases l with
 |nil=>simp[Ty.st,Ty.size]
 |cons b r=>rfl
theorem Ez(s u:ByteArray):(s.toList==u.toList)=decide (bytesOf s=bytesOf u):=by rw[Np,Np,Az];rfl
theorem aN{P:Program}{t:TypeId}{ty ty':Ty}(h:sized P t ty'=some ty):ty=ty':=by
 unfold sized at h;cases hb:MQ (P.cellsOf t) ty'.size with
 |false=>simp[hb]at h
 |true=>simp[hb]at h;exact h.symm
theorem BZ{P:Program}(w:World): ∀(n:Nat) {t:TypeId} {ty:Ty} {C:Cx} {x y:ty.den} {cs ds:List Value} {d:Nat},bU P n t=some ty->(∃m,Hr P m t=true)->n<=d->
  Rep C ty x cs->Rep C ty y ds->(Na d t (bT P t cs) (bT P t ds)).run P w= .ok (ty.DF x y) w
 |0,_,_,_,_,_,_,_,_,h,_,_,_,_=>by simp[bU]at h
 |n+1,t,ty,C,x,y,cs,ds,0,h,_,hd,_,_=>by omega
 |n+1,t,ty,C,x,y,cs,ds,d+1,h,⟨m,he⟩,hd,hx,hy=>by
  have h0:=h;unfold bU at h;have hm: ∃m',m=m'+1:=by cases m with|zero=>simp[Hr]at he|succ m=>exact⟨m,rfl⟩
  obtain⟨m,rfl⟩:=hm;unfold Hr at he;split at h
  ·rename_i hu;obtain rfl:=aN h;obtain rfl:cs=[.bool x]:=hx;obtain rfl:ds=[.bool y]:=hy;rw[aY hu rfl,aY hu rfl];exact run_equalIn_bool' w d t x y hu
  ·rename_i k hu;obtain rfl:=aN h;obtain⟨rfl,_⟩:=hx;obtain⟨rfl,_⟩:=hy;rw[aY hu rfl,aY hu rfl];exact run_equalIn_int w d t k k x y hu
  ·rename_i hu;obtain rfl:=aN h;obtain⟨s,rfl,rfl⟩:=hx;obtain⟨u,rfl,rfl⟩:=hy;rw[aY hu rfl,aY hu rfl];have:=run_equalIn_string (P:=P) w d t s u hu;rw[Ez]at this;exact this
  ·rename_i e hu;rw[hu]at he;simp at he
  ·rename_i k e hu;rw[hu]at he;split at h
   ·rename_i te hte;obtain rfl:=aN h;obtain⟨hx1,hx2⟩:=hx;obtain⟨hy1,hy2⟩:=hy;rw[dD hu rfl,dD hu rfl];have hz:=b_ hte;have hlx:=Cat.length (fun _ _ h=>Rep.length h) hx2;have LP:=Cat.length (fun _ _ h=>Rep.length h) hy2;have hex: ∃de,P.underlying e=some de:=by
     cases hq:P.underlying e with
     |none=>cases n<;>simp[bU,hq]at hte
     |some de=>exact⟨de,rfl⟩
    obtain⟨de,hde⟩:=hex;obtain⟨i,hi⟩:=bD hde;refine run_equalIn_array w d _ _ hu hi _ (fun j=>bT P e ((cs.drop (j*te.size)).take te.size)) (fun j=>bT P e ((ds.drop (j*te.size)).take te.size)) ?_ ?_ ?_
    ·intro j hj;have:=bC (z:=te.size) hj;rw[<-hz];exact jk w hde _ _ (by simp[hz,hlx,hx1];omega) (fun q=>qw hte hde q)
    ·intro j hj;have:=bC (z:=te.size) hj;rw[<-hz];exact jk w hde _ _ (by simp[hz,LP,hy1];omega) (fun q=>qw hte hde q)
    ·intro j hj;have gx:=Cat.get (fun _ _ h=>Rep.length h) hx2 (k:=j) (by omega);have gy:=Cat.get (fun _ _ h=>Rep.length h) hy2 (k:=j) (by omega);obtain⟨i1,e1⟩:=pY te.zero (xs:=x) (i:=(j:Int)) (by omega) (by omega);obtain⟨i2,e2⟩:=pY te.zero (xs:=y) (i:=(j:Int)) (by omega) (by omega);rw[e1,e2];exact BZ w n hte ⟨m,by simpa using he⟩ (by omega) gx gy
   ·simp at h
  ·rename_i fs hu;rw[hu]at he;split at h
   ·rename_i l hl;simp only[cond_eq_ite]at h;split at h
    ·rename_i ho;obtain rfl:=aN h;simp only[MP,Oa,Pm]at he;have hf:P.fieldsOf t=fs:=by simp[Program.fieldsOf,hu]
     rw[dD hu rfl,dD hu rfl,run_equalIn_struct (P:=P) w d t _ _ (by rw[hf];exact hu) he.1,hf];have key: ∀(fl:List Field) (tys:List Ty) (o:Nat) (x' y':(Ty.st tys).den),ig (fun f=>bU P n f.type) fl=some tys->qQ fl tys o=true->(∀f∈fl,(f.name== "_")=false/\Hr P m f.type=true)->o<=cs.length->o<=ds.length->
       Rep C (Ty.st tys) x' (cs.drop o)->Rep C (Ty.st tys) y' (ds.drop o)->(Pq d cs.toArray ds.toArray fl).run P w= .ok ((Ty.st tys).DF x' y') w:=by
      intro fl
      induction fl with
      |nil=>
       intro tys o x' y' ha ho hn lx ly rx ry;simp[ig]at ha;subst ha;simp[Pq,Ty.st,Ty.DF]
      |cons f fl ih=>
       intro tys o x' y' ha ho hn lx ly rx ry;unfold ig at ha;split at ha
       ·rename_i tf htf;split at ha
        ·rename_i l' hl';obtain rfl:=MK ha;simp only[qQ,MP]at ho;obtain⟨ho1,ho2⟩:=ho;obtain rfl:=ML ho1;obtain⟨hn1,hn2⟩:=hn f (by simp);have hz:=b_ htf;obtain⟨c1,c2,ec,Ls,LZ⟩:=rx.st;obtain⟨d1,d2,ed,Lu,L6⟩:=ry.st;have lc:=Ls.length;have ld:=Lu.length;have MB:c1.length+c2.length=cs.length-f.offset:=by have:=congrArg M_ ec;simpa using this.symm
         have MC:d1.length+d2.length=ds.length-f.offset:=by have:=congrArg M_ ed;simpa using this.symm
         have hex: ∃de,P.underlying f.type=some de:=by
          cases hq:P.underlying f.type with
          |none=>cases n<;>simp[bU,hq]at htf
          |some de=>exact⟨de,rfl⟩
         obtain⟨de,hde⟩:=hex;have e1:(cs.drop f.offset).take tf.size=c1:=by rw[ec,<-lc,Oh]
         have e2:(ds.drop f.offset).take tf.size=d1:=by rw[ed,<-ld,Oh]
         ·have pa:=jk (P:=P) w hde cs.toArray f.offset (by simp;omega) (fun q=>qw htf hde q);have pb:=jk (P:=P) w hde ds.toArray f.offset (by simp;omega) (fun q=>qw htf hde q);rw[hz]at pa pb;simp only[e1,e2]at pa pb;have r1:=BZ w n htf ⟨m,hn2⟩ (show n<=d by omega) Ls Lu;have e3:cs.drop (f.offset+tf.size)=c2:=by rw[<-OV,ec,<-lc,PU]
          have e4:ds.drop (f.offset+tf.size)=d2:=by rw[<-OV,ed,<-ld,PU]
          have r2:=ih l' (f.offset+tf.size) (E_ x') (E_ y') hl' ho2 (fun g hg=>hn g (by simp[hg])) (by omega) (by omega) (by rw[e3];exact LZ) (by rw[e4];exact L6);rw[IL,Pq,if_pos (by simpa using hn1),MO,pa,MN,MO,pb,MN,MO,r1,MN];cases hq:tf.DF (E8 x') (E8 y')with
          |true=>simpa using r2
          |false=>simp
        ·simp at ha
       ·simp at ha
     exact key fs.toList l 0 x y hl ho (fun f hf=>by have:=he.2 f hf;simpa using this) (by omega) (by omega) (by simpa using hx) (by simpa using hy)
    ·simp at h
   ·simp at h
  ·simp at h
end Go.AM
end
section
namespace Go.AM
variable [Tabs]
open Go.RowKit
theorem mF{P:Program}{n:Nat}{t:TypeId}{ty:Ty}(h:bU P n t=some ty): ∃d,P.underlying t=some d:=by
 cases hq:P.underlying t with
 |none=>cases n<;>simp[bU,hq]at h
 |some de=>exact⟨de,rfl⟩
theorem Dn{P:Program}{n:Nat}{t:TypeId}{ty:Ty}{d:TypeDesc}(h:bU P n t=some ty)(hu:P.underlying t=some d):
  d.isRow=false-> ∃k,ty= .int k\/ty= .bool\/ty= .str\/ ∃e,ty= .lst e:=by
 intro hd;cases n with
 |zero=>simp[bU]at h
 |succ n=>
  unfold bU at h;rw[hu]at h;cases d<;>simp at h hd
  ·exact⟨.i8,.inr (.inl (aN h))⟩
  ·exact⟨_,.inl (aN h)⟩
  ·exact⟨.i8,.inr (.inr (.inl (aN h)))⟩
  ·split at h
   ·exact⟨.i8,.inr (.inr (.inr ⟨_,aN h⟩))⟩
   ·simp at h
def aT:AV->Bool
 | .int .. | .bool _| .str _| .lst .. | .arr .. | .aC=>true
 |_=>false
theorem qU: ∀ {t:Ty} {p:AV} {r r':List AV} {x:t.den},aT p=false->pack t (p::r)=some (x,r')->r'=p::r
 | .int _,p,r,r',x,hp,e=>by cases p<;>simp[pack,aT]at hp e
 | .bool,p,r,r',x,hp,e=>by cases p<;>simp[pack,aT]at hp e
 | .str,p,r,r',x,hp,e=>by cases p<;>simp[pack,aT]at hp e
 | .lst _,p,r,r',x,hp,e=>by cases p<;>simp[pack,aT]at hp e
 | .arr _ _,p,r,r',x,hp,e=>by cases p<;>simp[pack,aT]at hp e
 | .unit,p,r,r',x,hp,e=>by
  have e:some ((),p::r)=some (x,r'):=e;exact(ND (MK e)).2.symm
 | .pair a b,p,r,r',x,hp,e=>by
  have e:(match pack a (p::r)with
   |some (x,r')=>(match pack b r' with|some (y,r'')=>some ((x,y),r'')|none=>none)
   |none=>none)=some (x,r'):=e
  split at e
  ·rename_i x1 r1 e1;obtain rfl:=qU hp e1;split at e
   ·rename_i y1 r2 e2;obtain rfl:=qU hp e2;exact(ND (MK e)).2.symm
   ·simp at e
  ·simp at e
theorem pW{t:Ty}{p:AV}{x:t.den}(hp:aT p=false)(e:ay t [p]=some x):False:=by
 unfold ay at e;split at e
 ·rename_i y e1;have:=qU hp e1;simp at this
 ·simp at e
theorem PR.one{C:Cx}{p:AV}{v:Value}(h:VR C p v)(hp:p.fV=true)(hv:cellV v=true):PR C [p] [v]:= .sc h hp hv .nil
theorem VR.J5{C:Cx}{a:AV}{v:Value}{ty:Ty}{x:ty.den}(h:VR C a v)(e:ay ty a.parts=some x):
  ∃cs,Rep C ty x cs/\((a.isAgg=true/\v= .agg cs.toArray)\/(a.isAgg=false/\cs=[v]/\cellV v=true)):=by
 cases h with
 |agg h=>exact⟨_,h.ay e,.inl ⟨rfl,rfl⟩⟩
 | @arr n t xs cs h=>
  have k:PR C [.arr n t xs] cs.toList:=by have:=PR.arr h .nil;rw[OJ]at this;exact this
  exact⟨cs.toList,k.ay e,.inl ⟨rfl,by simp⟩⟩
 |int h=>exact⟨_,(PR.one (.int h) rfl rfl).ay e,.inr ⟨rfl,rfl,rfl⟩⟩
 |bool=>exact⟨_,(PR.one .bool rfl rfl).ay e,.inr ⟨rfl,rfl,rfl⟩⟩
 |str h=>exact⟨_,(PR.one (.str h) rfl rfl).ay e,.inr ⟨rfl,rfl,rfl⟩⟩
 | @lst t xs v h=>
  have hv:cellV v=true:=by
   obtain⟨_,_,_,h,_⟩:=h;cases h;rfl
  exact⟨_,(PR.one (.lst h) rfl hv).ay e,.inr ⟨rfl,rfl,hv⟩⟩
 |aC=>exact⟨_,(PR.one .aC rfl rfl).ay e,.inr ⟨rfl,rfl,rfl⟩⟩
 |_=>exact(pW rfl e).elim
theorem mZ{P:Program}{t:TypeId}{d:TypeDesc}(h:P.underlying t=some d):rowT P t=d.isRow:=by unfold rowT;rw[h];cases d<;>rfl
theorem rG{P:Program}{C:Cx}{n:Nat}{t:TypeId}{ty:Ty}{x:ty.den}{a:AV}{v:Value}(ht:bU P n t=some ty)(h:VR C a v)(e:ay ty a.parts=some x)
  (hr:a.isAgg=rowT P t): ∃cs,Rep C ty x cs/\v=bT P t cs/\(rowT P t=true->v= .agg cs.toArray)/\(rowT P t=false->cellV v=true):=by
 obtain⟨d,hd⟩:=mF ht;have hd':=mZ hd;obtain⟨cs,h1,h2⟩:=h.J5 e;refine⟨cs,h1,?_⟩;rcases h2 with⟨h3,h4⟩|⟨h3,h4,h5⟩
 ·have hb:d.isRow=true:=by rw[<-hd',<-hr,h3]
  exact⟨by rw[dD hd hb,h4],fun _=>h4,fun q=>by simp[hd',hb]at q⟩
 ·have hb:d.isRow=false:=by rw[<-hd',<-hr,h3]
  exact⟨by rw[aY hd hb,h4];rfl,fun q=>by simp[hd',hb]at q,fun _=>h5⟩
theorem Jl{l:List Ty}{e:Ty}(h:Ty.st l= .lst e):l=[.lst e]:=by
 match l,h with
 |[a],h=>rw[show Ty.st [a]=a from rfl]at h;rw[h]
theorem DI{P:Program}: ∀(n:Nat) {t:TypeId} {e:Ty},bU P n t=some (.lst e)-> ∀m,Hr P m t=false
 |0,t,e,h,m=>by simp[bU]at h
 |n+1,t,e,h,0=>rfl
 |n+1,t,e,h,m+1=>by
  have sz: ∀ty',sized P t ty'=some (Ty.lst e)->ty'=Ty.lst e:=fun ty' h=>(aN h).symm
  unfold bU at h;unfold Hr;split at h
  ·have:=sz _ h;simp at this
  ·have:=sz _ h;simp at this
  ·have:=sz _ h;simp at this
  ·rename_i el hu;rw[hu]
  ·split at h
   ·have:=sz _ h;simp at this
   ·simp at h
  ·rename_i fs hu;rw[hu];split at h
   ·rename_i l hl;simp only[cond_eq_ite]at h;split at h
    ·obtain rfl:=Jl (sz _ h);simp only;cases hf:fs.toList with
     |nil=>rw[hf]at hl;simp[ig]at hl
     |cons f fl=>
      rw[hf]at hl;unfold ig at hl;split at hl
      ·rename_i tf htf;split at hl
       ·simp at hl;obtain⟨rfl,_⟩:=hl;simp[DI n htf m]
       ·simp at hl
      ·simp at hl
    ·simp at h
   ·simp at h
  ·simp at h
theorem EY{P:Program}(w:World)(t:TypeId)(x y:Value):(OM t x y).run P w=(Na (9999+1) t x y).run P w:=rfl
theorem Af{P:Program}{C:Cx}{t:TypeId}{x y:AV}{a b:Value}{r:Bool}(h:eqNil P t x y=some r)(hx:VR C x a)(hy:VR C y b)(X Y:Operand):
  (eqGuard .eql t X Y a b).run P C.w= .ok () C.w/\(eqGuard .neq t X Y a b).run P C.w= .ok () C.w/\
  (binOp .eql t a b).run P C.w= .ok (.bool r) C.w/\(binOp .neq t a b).run P C.w= .ok (.bool (!r)) C.w:=by
 have go: ∀ {a b:Value},(∀d,(Na (d+1) t a b).run P C.w= .ok r C.w)->(binOp .eql t a b=do pure (.bool (<-OM t a b)))->(binOp .neq t a b=do pure (.bool (!(<-OM t a b))))->
   (binOp .eql t a b).run P C.w= .ok (.bool r) C.w/\(binOp .neq t a b).run P C.w= .ok (.bool (!r)) C.w:=by
  intro a b hd h1 h2;rw[h1,h2,MO,MO,EY,hd];exact⟨rfl,rfl⟩
 unfold eqNil at h;split at h
 ·rename_i e hu;split at h<;>simp at h
  ·subst h;cases hx;cases hy;exact⟨rfl,rfl,go (fun d=>by simp only[Na,MO,run_underlying hu,MN];rfl) rfl rfl⟩
  ·subst h;cases hy;cases hx with
   |iO _ k=>
    obtain⟨a,n,c,rfl⟩:=k;exact⟨rfl,rfl,go (fun d=>by simp only[Na,MO,run_underlying hu,MN];rfl) rfl rfl⟩
  ·subst h;cases hy;cases hx with
   |kP _ _ _ k=>
    obtain⟨a,n,c,rfl⟩:=k;exact⟨rfl,rfl,go (fun d=>by simp only[Na,MO,run_underlying hu,MN];rfl) rfl rfl⟩
 ·rename_i hu;split at h<;>simp at h<;>subst h<;>cases hx<;>cases hy<;>
  exact⟨rfl,rfl,go (fun d=>by simp only[Na,MO,run_underlying hu,MN];rfl) rfl rfl⟩
 ·rename_i e hu;split at h<;>simp at h<;>subst h<;>cases hx<;>cases hy<;>
  exact⟨rfl,rfl,go (fun d=>by simp only[Na,MO,run_underlying hu,MN];rfl) rfl rfl⟩
 ·rename_i e hu;split at h
  ·simp at h;subst h;cases hx;cases hy;exact⟨rfl,rfl,go (fun d=>by simp only[Na,MO,run_underlying hu,MN];rfl) rfl rfl⟩
  ·simp at h;subst h;cases hx;cases hy;exact⟨rfl,rfl,go (fun d=>by simp only[Na,MO,run_underlying hu,MN];rfl) rfl rfl⟩
  ·simp only[cond_eq_ite]at h;split at h
   ·rename_i hm;simp at h;subst h;cases hx;cases hy;have hG: ∀op,(op= .eql\/op= .neq)->(eqGuard op t X Y .nilIface .nilIface).run P C.w= .ok () C.w:=by
     intro op hop;have hg:(Pg Px t .nilIface .nilIface).run P C.w= .ok false C.w:=by
      have: ∀d,(Pg (d+1) t .nilIface .nilIface).run P C.w= .ok false C.w:=fun d=>by simp only[Pg,MO,run_underlying hu,MN,hm];rfl
      exact this 9999
     rcases hop with rfl|rfl<;>
     ·unfold eqGuard;rw[if_neg (by decide)];cases X<;>cases Y<;>first|rfl|(show Sem.run P (_ >>= _) C.w=_;rw[MO,hg];rfl)
    exact⟨hG _ (.inl rfl),hG _ (.inr rfl),go (fun d=>by simp only[Na,MO,run_underlying hu,MN];rfl) rfl rfl⟩
   ·simp at h
  ·simp at h
 ·simp at h
theorem AX{k:IntKind}{x:AV}{p:(Ty.int k).den}(h:ay (.int k) x.parts=some p)(hx:x.isAgg=false): ∃n,x= .int k n:=by
 cases x<;>simp[AV.isAgg]at hx<;>simp[ay,pack,AV.parts]at h
 rename_i k' n;by_cases e:k'=k
 ·subst e;exact⟨n,rfl⟩
 ·simp[e]at h
theorem AY{x:AV}{p:Ty.str.den}(h:ay .str x.parts=some p)(hx:x.isAgg=false): ∃n,x= .str n:=by
 cases x<;>simp[AV.isAgg]at hx<;>simp[ay,pack,AV.parts]at h
 exact⟨_,rfl⟩
theorem xH{P:Program}{C:Cx}{t:TypeId}{x y:AV}{a b:Value}{r:Bool}(h:Ko P t x y=some r)(hx:VR C x a)(hy:VR C y b)(X Y:Operand)
  (hi: ∀k n k' n',x= .int k n->y= .int k' n'->False) (hs: ∀s s',x= .str s->y= .str s'->False):
  (eqGuard .eql t X Y a b).run P C.w= .ok () C.w/\(eqGuard .neq t X Y a b).run P C.w= .ok () C.w/\
  (binOp .eql t a b).run P C.w= .ok (.bool r) C.w/\(binOp .neq t a b).run P C.w= .ok (.bool (!r)) C.w:=by
 unfold Ko at h;split at h
 ·rename_i b' hb;obtain rfl:=MK h;exact Af hb hx hy X Y
 ·split at h
  ·rename_i ty ht;simp only[cond_eq_ite]at h;split at h
   ·rename_i hc;simp only[MP,beq_iff_eq,Oa]at hc;obtain⟨⟨⟨c1,c2⟩,c3⟩,c4⟩:=hc;split at h
    ·rename_i p q hp hq;obtain rfl:=MK h;obtain⟨cs,r1,e1,f1,g1⟩:=rG ht hx hp c3;obtain⟨ds,r2,e2,f2,g2⟩:=rG ht hy hq c4;have k:=BZ C.w ug ht ⟨_,c1⟩ (show ug<=10000 by decide) r1 r2;cases hrow:rowT P t with
     |true=>
      have f1:=f1 hrow;have f2:=f2 hrow;rw[<-e1,<-e2]at k;subst f1;subst f2;refine⟨run_eqGuard_agg C.w _ t X Y _ _ c2,run_eqGuard_agg C.w _ t X Y _ _ c2,?_,?_⟩
      ·rw[run_eql_struct,k];rfl
      ·rw[run_neq_struct,k];rfl
     |false=>
      obtain⟨d,hd⟩:=mF ht;rw[mZ hd]at hrow;obtain⟨k',hty⟩:=Dn ht hd hrow;rw[aY hd hrow]at e1 e2;rcases hty with rfl|rfl|rfl|⟨e,rfl⟩
      ·obtain⟨n1,e1⟩:=AX hp (by rw[c3,mZ hd,hrow]);obtain⟨n2,e2⟩:=AX hq (by rw[c4,mZ hd,hrow]);exact(hi _ _ _ _ e1 e2).elim
      ·obtain rfl:=r1;obtain rfl:=r2;subst e1;subst e2;rw[aY hd hrow,aY hd hrow]at k;refine⟨rfl,rfl,?_,?_⟩
       ·have:binOp .eql t (.bool p) (.bool q)=(do pure (.bool (<-OM t (.bool p) (.bool q)))):=rfl;show (binOp .eql t (.bool p) (.bool q)).run P C.w=_;rw[this,MO,OM,show Px=10000 from rfl];rw[show (Na 10000 t (.bool p) (.bool q)).run P C.w= .ok (Ty.DF .bool p q) C.w from k];rfl
       ·have:binOp .neq t (.bool p) (.bool q)=(do pure (.bool (!(<-OM t (.bool p) (.bool q))))):=rfl;show (binOp .neq t (.bool p) (.bool q)).run P C.w=_;rw[this,MO,OM,show Px=10000 from rfl];rw[show (Na 10000 t (.bool p) (.bool q)).run P C.w= .ok (Ty.DF .bool p q) C.w from k];rfl
      ·obtain⟨n1,e1⟩:=AY hp (by rw[c3,mZ hd,hrow]);obtain⟨n2,e2⟩:=AY hq (by rw[c4,mZ hd,hrow]);exact(hs _ _ e1 e2).elim
      ·have:=DI _ ht;rw[this]at c1;simp at c1
    ·simp at h
   ·simp at h
  ·simp at h
end Go.AM
end
section
namespace Go.AM
variable [Tabs]
open Go.RowKit
theorem qJ{P:Program}(w:World)(op:BinOp)(t:TypeId)(X Y:Operand)(k k':IntKind)(a b:Int):(eqGuard op t X Y (.int k a) (.int k' b)).run P w= .ok () w:=by cases op<;>rfl
theorem EK{P:Program}(w:World)(op:BinOp)(t:TypeId)(X Y:Operand)(a b:ByteArray):(eqGuard op t X Y (.string a) (.string b)).run P w= .ok () w:=by cases op<;>rfl
theorem BJ{P:Program}{C:Cx}{op:BinOp}{t:TypeId}{x y:AV}{a b:Value}{r:AV×h_}(h:(II P op t x y).Ev r)(hx:VR C x a)(hy:VR C y b)(X Y:Operand):
  ∃v,(do eqGuard op t X Y a b;binOp op t a b:Sem Value).run P C.w= .ok v C.w/\VR C r.1 v/\r.2=[]:=by
 unfold II at h;split at h
 ·rename_i k m k' n;cases hx;cases hy;obtain⟨h1,h2⟩:=F.aF h;obtain rfl:=F.aj h2;have hb: ¬n<0:=by simpa using h1
  refine⟨.int k (I_ k m n),?_,.int (wrap_in _ _),rfl⟩;rw[MO,qJ,MN];simp[binOp,Op.shift,hb,I_]
 ·rename_i k m k' n;cases hx with
  |int hr=>
  cases hy;obtain⟨h1,h2⟩:=F.aF h;obtain rfl:=F.aj h2;have hb: ¬n<0:=by simpa using h1
  refine⟨.int k (Ja k m n),?_,.int (Ht hr),rfl⟩;rw[MO,qJ,MN];simp[binOp,Op.shift,hb,Ja]
 ·rename_i k m k' n h1 h2;cases hx with
  |int hr=>
  cases hy;simp only[cond_eq_ite]at h;split at h
  ·rename_i hk;obtain rfl:=of_decide_eq_true hk;obtain⟨v,e,e1,e2⟩:=Ar (P:=P) (C:=C) h hr (fun q=>h1 q) (fun q=>h2 q) t;exact⟨v,by rw[MO,qJ,MN,e],e1,e2⟩
  ·exact(F.ah h).elim
 ·cases hx with
  |str e1=>
  cases hy with
  |str e2=>
  subst e1;subst e2;obtain⟨v,e,e1,e2⟩:=Bo (P:=P) (C:=C) h t;exact⟨v,by rw[MO,EK,MN,e],e1,e2⟩
 ·rename_i n1 n2 n3;split at h
  ·rename_i b' hb;obtain rfl:=F.aj h;obtain⟨k1,k2,k3,k4⟩:=xH hb hx hy X Y
    (fun k n k' n' e1 e2=>by first|exact n3 _ _ _ _ e1 e2|exact n1 _ _ _ _ e1 e2|exact n2 _ _ _ _ e1 e2)
    (fun s s' e1 e2=>by first|exact n3 _ _ e1 e2|exact n2 _ _ e1 e2|exact n1 _ _ e1 e2)
   exact⟨.bool b',by rw[MO,k1,MN,k3],.bool,rfl⟩
  ·exact(F.ah h).elim
 ·rename_i n1 n2 n3;split at h
  ·rename_i b' hb;obtain rfl:=F.aj h;obtain⟨k1,k2,k3,k4⟩:=xH hb hx hy X Y
    (fun k n k' n' e1 e2=>by first|exact n3 _ _ _ _ e1 e2|exact n1 _ _ _ _ e1 e2|exact n2 _ _ _ _ e1 e2)
    (fun s s' e1 e2=>by first|exact n3 _ _ e1 e2|exact n2 _ _ e1 e2|exact n1 _ _ e1 e2)
   exact⟨.bool (!b'),by rw[MO,k2,MN,k4],.bool,rfl⟩
  ·exact(F.ah h).elim
 ·exact(F.ah h).elim
theorem gV{P:Program}{t:TypeId}(h:cu P t=true): ∃d,P.underlying t=some d/\(d.isRow=false->P.cellsOf t=1):=by
 unfold cu at h;split at h
 ·rename_i hu;exact⟨_,hu,fun q=>by simp at q⟩
 ·rename_i hu;exact⟨_,hu,fun q=>by simp at q⟩
 ·rename_i d _ _ hu;exact⟨_,hu,fun _=>ML h⟩
 ·simp at h
theorem jC{P:Program}(w:World){t:TypeId}{d:TypeDesc}(hu:P.underlying t=some d)(h1:d.isRow=false->P.cellsOf t=1){c o:Nat}{cs:List Value}
  (hc:w.rangeAt c o cs) (hl:cs.length=P.cellsOf t):(loadVar t ⟨c,o,none⟩).run P w= .ok (bT P t cs) w:=by
 obtain⟨i,hi⟩:=bD hu;cases hd:d.isRow with
 |true=>
  rw[dD hu hd];exact run_loadVar_mid w c o t cs d hc hu hd (by simp[hi,hl,eu hi])
 |false=>
  rw[aY hu hd];have h1:=h1 hd;obtain⟨v,rfl⟩: ∃v,cs=[v]:=by
   match cs,(show cs.length=1 by omega)with
   |[v],_=>exact⟨v,rfl⟩
  unfold loadVar;rw[MO,yC w hu,MN,hd,if_neg (by simp),run_load];have:=hc 0 v rfl;simp only[Ns]at this;rw[this];rfl
theorem iI{P:Program}{C:Cx}{t:TypeId}{d:TypeDesc}{l:List AV}{cs:List Value}(h:PR C l cs)(hu:P.underlying t=some d):VR C (vT P t l) (bT P t cs):=by
 unfold vT bT;rw[hu];cases d
 case struct fs=>exact .agg h
 case array n e=>
  simp only;split
  ·unfold Ip;split
   ·rename_i n t xs;cases h with
    |sc _ h2 _ _=>simp[AV.fV]at h2
    |arr h1 h2=>cases h2;exact .arr (by simpa using h1)
   ·exact .junk _
  ·exact .agg h
 all_goals
  simp only;unfold Fz;split
  ·rename_i v;cases hv:v.fV with
   |false=>exact .junk _
   |true=>
    simp only[cond_true];cases h with
    |sc h1 h2 h3 h4=>cases h4;exact h1
    |arr _ _=>simp[AV.fV]at hv
    |row _ _=>simp[AV.fV]at hv
  ·exact .junk _
theorem Hp.ED{h:Hp}{b v:Nat}{x:Bool×List AV}(e:h.cells b v=some x): ∃ro,h.get b=some (.cells v ro x.2)/\x.1= !ro:=by
 unfold Hp.cells at e;split at e
 ·rename_i ver ro ps hg;cases hb:MQ ver v with
  |false=>simp[hb]at e
  |true=>
   simp[hb]at e;subst e;obtain rfl:=ML hb;exact⟨ro,hg,rfl⟩
 ·simp at e
def bP(h' h:Hp):Prop:= ∀b o,h'.get b=some o->h.get b=some o
theorem Inv.block{P:Program}{S0:Base}{w0:World}{C:Cx}{h h':Hp}(I:Inv P S0 w0 C h)(hs:bP h' h){b v:Nat}{x:Bool×List AV}(e:h'.cells b v=some x):
  ∃ro en,h.get b=some (.cells v ro x.2)/\x.1= !ro/\C.M b=some en/\en.ver=v/\en.perm=false/\dR en.len x.2/\match en.cb with
   |none=> ∃t,x.2=[.row t []]
   |some c=> ∃pre,PR C x.2 pre/\C.w.rangeAt c 0 pre/\ ∀j,(C.w.cell? ⟨c,j,none⟩).isSome=true->C.w.frozen? ⟨c,j,none⟩=false:=by
 obtain⟨ro,h1,h2⟩:=Hp.ED e;have h1:=hs _ _ h1;obtain⟨en,h3,h4,h5,h6,h7⟩:=I.obj _ _ h1;exact⟨ro,en,h1,h2,h3,h4,h5,h6,h7⟩
theorem Ba{w:World}{c o:Nat}{cs:List Value}(h:w.rangeAt c 0 cs)(n:Nat):w.rangeAt c o ((cs.drop o).take n):=by
 intro j v hv;rw[NJ]at hv;split at hv
 ·rw[Nr]at hv;have:=h _ _ hv;simpa using this
 ·simp at hv
theorem rQ{P:Program}{S0:Base}{w0:World}{C:Cx}{h h':Hp}(I:Inv P S0 w0 C h)(hs:bP h' h){t:TypeId}{a:AV}{v:Value}{r:AV×h_}
  (e:(DY P h' t a).Ev r) (hv:VR C a v):qB P C (O_ t v) r:=by
 unfold DY at e;split at e
 ·rename_i b ver o path;split at e
  ·rename_i w ps hc;split at e
   ·rename_i l hl;simp only[cond_eq_ite]at e;split at e
    ·rename_i hz;obtain rfl:=F.aj e;obtain⟨d,hu,h1⟩:=gV hz;obtain⟨ro,en,g1,g2,g3,g4,g5,g6,g7⟩:=I.block hs hc;cases hv with
     |ptr k1 k2 k3 k4=>
      rw[g3]at k1;obtain rfl:=MK k1;obtain⟨c,q1,q2,q3⟩:=k3 g4.symm;rw[q1]at g7;obtain⟨pre,p1,p2,_⟩:=g7;obtain⟨s1,s2⟩:=p1.iP g6 hl q3;subst q2;refine⟨bT P t ((pre.drop (o+aG path)).take (P.cellsOf t)),?_,iI s1 hu,rfl⟩;simp only[O_,NH,MO,NC,MN];refine jC C.w hu h1 (Ba p2 _) ?_;by_cases hn:P.cellsOf t=0
      ·simp[hn]
      ·have:=s2 hn;simp;omega
    ·exact(F.ah e).elim
   ·exact(F.ah e).elim
  ·exact(F.ah e).elim
 ·rename_i ty x o;split at e
  ·rename_i l hl;simp only[cond_eq_ite]at e;split at e
   ·rename_i hz;obtain rfl:=F.aj e;obtain⟨d,hu,h1⟩:=gV hz;cases hv with
    | @rp _ _ _ b p ds k1 k2=>
     have hg:getPath [] ty x o (P.cellsOf t)=some l:=hl;obtain⟨s1,s2⟩:=Rep.getPath 0 k1 hg trivial;simp only[aG,Ns]at s1 s2;refine⟨bT P t ((ds.drop o).take (P.cellsOf t)),?_,iI s1 hu,rfl⟩;simp only[O_,NH,MO,NC,MN];refine jC C.w hu h1 ?_ ?_
     ·intro j u hj;rw[NJ]at hj;split at hj
      ·rw[Nr]at hj;rw[MV];exact(k2 _ _ hj).1
      ·simp at hj
     ·by_cases hn:P.cellsOf t=0
      ·simp[hn]
      ·have:=s2 hn;simp;omega
   ·exact(F.ah e).elim
  ·exact(F.ah e).elim
 ·exact(F.ah e).elim
end Go.AM
end
section
namespace Go.AM
variable [Tabs]
open Go.RowKit
theorem Below.setCells{B:Nat}{a:World}{c:Nat}(hc:B<=c): ∀(vs:List Value) (o:Nat) {w:World},Below B a w->Below B a (w.setCells c o vs)
 |[],_,_,h=>h
 |v::r,o,_,h=>Below.setCells hc r (o+1) (h.setCell (p:=⟨c,o,none⟩) hc v)
theorem fC{c:Nat}: ∀(vs:List Value) (o:Nat) (w:World) (k:Nat),k≠c->(w.setCells c o vs).heap[k]?=w.heap[k]?
 |[],_,_,_,_=>rfl
 |v::r,o,w,k,h=>by rw[PS,fC r (o+1) _ k h,N8 _ _ _ _ h]
theorem size_setCells{c:Nat}: ∀(vs:List Value) (o:Nat) (w:World),(w.setCells c o vs).heap.size=w.heap.size
 |[],_,_=>rfl
 |v::r,o,w=>by rw[PS,size_setCells r (o+1)];simp[NR]
theorem rX{w:World}{c o:Nat}{pre ds:List Value}(h:w.rangeAt c 0 pre)(hle:o+ds.length<=pre.length):
  (w.setCells c o ds).rangeAt c 0 (pre.take o++(ds++pre.drop (o+ds.length))):=by
 have hex: ∀j,j<ds.length->(w.cell? ⟨c,o+j,none⟩).isSome=true:=fun j hj=>by
  have:=h (o+j) pre[o+j] (by rw[Nj (by omega)]);simp only[NP]at this;rw[this];rfl
 intro j v hv;simp only[NP];by_cases h1:j<o
 ·rw[Ny c ds o w _ (fun _ _=> .inl h1)];rw[NU (by simp;omega),List.getElem?_take_of_lt h1]at hv;have:=h j v hv;simpa using this
 ·by_cases h2:j<o+ds.length
  ·rw[NS (by simp;omega)]at hv;have e:j-(pre.take o).length=j-o:=by simp;omega
   rw[e,NU (by omega)]at hv;have:=OE c ds o w hex (j-o) (by omega);rw[show o+(j-o)=j by omega]at this;rw[this,<-hv,Nj]
  ·rw[Ny c ds o w _ (fun _ _=> .inr (by show o+ds.length<=j;omega))];rw[NS (by simp;omega)]at hv;have e:j-(pre.take o).length=j-o:=by simp;omega
   rw[e,NS (by omega),Nr]at hv;rw[show o+ds.length+(j-o-ds.length)=j by omega]at hv;have:=h j v hv;simpa using this
theorem Rep.cellV{C:Cx}: ∀ {t:Ty} {x:t.den} {cs:List Value},Rep C t x cs-> ∀v∈cs,AM.cellV v=true
 | .int _,_,_,h,v,hv=>by obtain⟨rfl,_⟩:=h;simp at hv;subst hv;rfl
 | .bool,_,_,h,v,hv=>by obtain rfl:=h;simp at hv;subst hv;rfl
 | .str,_,_,h,v,hv=>by obtain⟨_,rfl,_⟩:=h;simp at hv;subst hv;rfl
 | .lst _,_,_,h,v,hv=>by obtain⟨_,_,_,rfl,_⟩:=h;simp at hv;subst hv;rfl
 | .arr n t,xs,cs,⟨_,h⟩,v,hv=>by
  have: ∀ {xs:List t.den} {cs:List Value},Cat (Rep C t) xs cs-> ∀v∈cs,AM.cellV v=true:=by
   intro xs
   induction xs with
   |nil=>intro cs h v hv;obtain rfl:=h;simp at hv
   |cons x r ih=>
    rintro cs ⟨c1,c2,rfl,h1,h2⟩ v hv
    rcases N9.1 hv with hv|hv
    ·exact Rep.cellV h1 v hv
    ·exact ih h2 v hv
  exact this h v hv
 | .unit,_,_,h,v,hv=>by obtain rfl:=h;simp at hv
 | .pair _ _,_,_,⟨_,_,e,h1,h2⟩,v,hv=>by
  subst e;rcases N9.1 hv with hv|hv
  ·exact Rep.cellV h1 v hv
  ·exact Rep.cellV h2 v hv
theorem Cat.cellV{C:Cx}{t:Ty}: ∀ {xs:List t.den} {cs:List Value},Cat (Rep C t) xs cs-> ∀v∈cs,AM.cellV v=true
 |[],cs,h,v,hv=>by obtain rfl:cs=[]:=h;simp at hv
 |x::r,cs,⟨c1,c2,e,h1,h2⟩,v,hv=>by
  subst e;rcases N9.1 hv with hv|hv
  ·exact h1.cellV v hv
  ·exact Cat.cellV h2 v hv
theorem PR.cellV{C:Cx}: ∀ {ps cs},PR C ps cs-> ∀v∈cs,AM.cellV v=true
 |_,_,.nil,v,hv=>by simp at hv
 |_,_,.sc _ _ h3 h4,v,hv=>by
  rcases O5.1 hv with rfl|hv
  ·exact h3
  ·exact h4.cellV v hv
 |_,_,.arr h1 h2,v,hv=>by
  rcases N9.1 hv with hv|hv
  ·exact h1.cellV v hv
  ·exact h2.cellV v hv
 |_,_,.row h1 h2,v,hv=>by
  rcases N9.1 hv with hv|hv
  ·exact Cat.cellV h1 v hv
  ·exact h2.cellV v hv
theorem xC{v:Value}(h:AM.cellV v=true):v.oneCell'=true:=by cases v<;>simp_all [AM.cellV,Value.oneCell']
theorem VR.cellV{C:Cx}{x:AV}{v:Value}(h:VR C x v)(hx:storable x=true)(hs:x.fV=true):AM.cellV v=true:=by
 cases h with
 |junk=>simp[storable]at hx
 |lst h=>exact h.cellV _ (by simp)
 |iO h=>exact h.cellV _ (by simp)
 |arr=>simp[AV.fV]at hs
 |agg=>simp[AV.fV]at hs
 |gG=>simp[AV.fV]at hs
 |ptr _ _ _ h=>obtain⟨_,rfl⟩:=h;rfl
 |own _ _ _ h=>obtain⟨_,_,_,rfl⟩:=h;rfl
 |slc _ _ _ h=>obtain⟨_,_,_,rfl⟩:=h;rfl
 |kP _ _ _ h=>obtain⟨_,_,_,rfl⟩:=h;rfl
 |_=>rfl
theorem VR.parts{C:Cx}{x:AV}{v:Value}(h:VR C x v)(hx:storable x=true):PR C x.parts v.cells.toList:=by
 cases hs:x.fV with
 |true=>
  have hc:=h.cellV hx hs;have e1:x.parts=[x]:=by cases x<;>simp_all [AV.fV,AV.parts]
  have e2:v.cells.toList=[v]:=by cases v<;>simp_all [AM.cellV,PD]
  rw[e1,e2];exact PR.one h hs hc
 |false=>
  cases h with
  |agg h=>simpa[AV.parts,PD]using h
  | @arr n t xs cs h=>have:=PR.arr h .nil;rw[OJ]at this;simpa[AV.parts,PD]using this
  |gG=>simp[storable]at hx
  |_=>simp[AV.fV]at hs
theorem Does.vals{P:Program}{S0:Base}{w0:World}{cs:List Frame}{C:Cx}{h:Hp}{nx:Nat}{s:Sem Value}{x:AV×h_}(I:Inv P S0 w0 C h)(hv:qB P C s x):
  Does P S0 w0 cs C h nx ((do pure (.value (<-s)):Sem Next).run P C.w) x:=by
 obtain⟨v,h1,h2,h3⟩:=hv;refine⟨v,C,.inl ?_,by rw[h3];exact I,.refl C,h2,fun y hy=> .inl hy⟩;rw[MO,h1];rfl
theorem Ib{α:Type}{x:Option α}:x≠none ↔ ∃a,x=some a:=by cases x<;>simp
theorem zB{P:Program}{S0:Base}{w0:World}{cs:List Frame}{C:Cx}{h h':Hp}{nx:Nat}(I:Inv P S0 w0 C h)(hs:bP h' h){t:TypeId}{a x:AV}{v u:Value}{r:AV×h_}
  (e:(Dj P h' t a x).Ev r) (hv:VR C a v) (hu:VR C x u):Does P S0 w0 cs C h nx ((do OZ t v u;pure .skip:Sem Next).run P C.w) r:=by
 unfold Dj at e;split at e
 ·rename_i b ver o path;split at e
  ·rename_i w ps hc;simp only[cond_eq_ite]at e;split at e
   ·rename_i hz;simp only[MP]at hz;obtain⟨⟨⟨z1,z2⟩,z3⟩,z4⟩:=hz;split at e
    ·rename_i l hl;obtain rfl:=F.au e;obtain⟨ro,en,g1,g2,g3,g4,g5,g6,g7⟩:=I.block hs hc;have hro:ro=false:=by cases ro<;>simp_all
     subst hro;cases hv with
     |ptr k1 k2 k3 k4=>
      rw[g3]at k1;obtain rfl:=MK k1;obtain⟨c,q1,q2,q3⟩:=k3 g4.symm;rw[q1]at g7;obtain⟨pre,p1,p2,p3⟩:=g7;have pu:=hu.parts z2;have hlen:u.cells.toList.length=P.cellsOf t:=by rw[pu.length];exact ML z3
      obtain⟨s1,s2⟩:=p1.f_ g6 hl q3 pu hlen;subst q2;have hdl:=hlen;have hle:(o+aG path)+u.cells.toList.length<=pre.length:=by omega
      have hex: ∀j,j<u.cells.toList.length->(C.w.cell? ⟨c,(o+aG path)+j,none⟩).isSome=true:=fun j hj=>by
       have:=p2 (o+aG path+j) pre[o+aG path+j] (by rw[Nj (by omega)]);simp only[NP]at this;rw[this];rfl
      have Ap: ∀j,C.RO c j->False:=fun j hj=>by
       obtain⟨v',ps',r1,_⟩:=I.w_ _ _ _ _ g3 q1 hj;rw[g1]at r1;simp at r1
      obtain⟨d,hd,_⟩:=gV z4;obtain⟨i,hi⟩:=bD hd;have hrun:(do OZ t (.pointer (some ⟨c,o+aG path,none⟩)) u;pure .skip:Sem Next).run P C.w= .ok .skip (C.w.setCells c (o+aG path) u.cells.toList):=by
       have k1:=run_storeCells_cells (P:=P) c (o+aG path) u.cells.toList 0 C.w (fun j hj=>by simpa using hex j hj)
        (fun j hj=>by simpa using p3 (o+aG path+j) (hex j hj)) (fun x hx=>xC (pu.cellV x hx))
       simp only[Ns]at k1;have k2:u.cells.size=P.cellsOf t:=by simpa using hlen
       simp only[OZ,NH,storeVar,MO,NC,MN,run_sizeOf C.w hi,k2,ne_eq,not_true,if_false,k1]
      have loc:=I.loc _ _ _ g3 q1;have T:=I.turn (b:=b) (e:=en) (e':=en) (ao:= .cells ver false l) (w':=C.w.setCells c (o+aG path) u.cells.toList) g3 (Nv _) (fun _=>rfl) (fun _=>rfl)
       (Keep.setCells loc.1 _ _ I.below) (by rw[size_setCells];omega)
       (fun k _ hk=>fC _ _ _ _ (fun q=>hk (by rw[q];exact q1)))
       (fun c' j hc' hr=>by rw[q1]at hc';obtain rfl:=MK hc';exact(Ap j hr).elim)
       (fun c' j hc' hr=>by
        rw[q1]at hc';obtain rfl:=MK hc';by_cases hin:(o+aG path)<=j/\j<(o+aG path)+u.cells.toList.length
        ·have:=OE c u.cells.toList (o+aG path) C.w hex (j-(o+aG path)) (by omega);rw[show o+aG path+(j-(o+aG path))=j by omega]at this;rw[this];rfl
        ·rw[Ny c _ _ _ _ (fun _ _=>by show j<o+aG path\/_<=j;omega)];exact hr)
       (fun c' hc'=> .inl hc')
       (fun c' j hc' _ hr=>by rw[q1]at hc';obtain rfl:=MK hc';exact(Ap j hr).elim)
       (fun le=>by
        refine⟨g4,g5,jK g6 hl,?_⟩;rw[q1];refine⟨_,s1.mono le,?_,fun j hj=> ?_⟩
        ·rw[<-hlen];exact rX p2 hle
        ·rw[World.frozen?_setCells];refine p3 j ?_;by_cases hin:(o+aG path)<=j/\j<(o+aG path)+u.cells.toList.length
         ·have:=hex (j-(o+aG path)) (by omega)
          rwa [show o+aG path+(j-(o+aG path))=j by omega]at this
         ·have hj:((C.w.setCells c (o+aG path) u.cells.toList).cell? ⟨c,j,none⟩).isSome=true:=hj
          rwa [Ny c _ _ _ _ (fun _ _=>by show j<o+aG path\/_<=j;omega)]at hj)
      exact⟨undef,_,.inr (.inl ⟨hrun,rfl⟩),T.2,T.1,.junk _,fun y hy=>by
       by_cases hyb:y=b
       ·subst hyb;left;rw[g3];simp
       ·left;simpa[hyb]using hy⟩
    ·exact(F.ah e).elim
   ·exact(F.ah e).elim
  ·exact(F.ah e).elim
 ·exact(F.ah e).elim
theorem oW{C:Cx}{α:Type}{R:α->List Value->Prop}{f:α->List Value->Option (List Value)}(hf: ∀x vs ws,f x vs=some ws-> ∃c,vs=c++ws/\R x c):
  ∀ {xs:List α} {vs ws:List Value},oV f xs vs=some ws-> ∃c,vs=c++ws/\Cat R xs c
 |[],vs,ws,h=>by simp[oV]at h;subst h;exact⟨[],rfl,rfl⟩
 |x::r,vs,ws,h=>by
  unfold oV at h;split at h
  ·rename_i us hu;obtain⟨c1,rfl,h1⟩:=hf _ _ _ hu;obtain⟨c2,rfl,h2⟩:=oW (C:=C) hf h;exact⟨c1++c2,by simp,c1,c2,rfl,h1,h2⟩
  ·simp at h
theorem oZ{C:Cx}: ∀ {t:Ty} {x:t.den} {vs ws:List Value},BP t x vs=some ws-> ∃c,vs=c++ws/\Rep C t x c
 | .int k,x,vs,ws,h=>by
  cases vs with
  |nil=>simp[BP]at h
  |cons v vs=>
   cases v<;>simp[BP]at h
   simp only[cond_eq_ite]at h;split at h
   ·rename_i hc;simp only[MP,decide_eq_true_eq]at hc;obtain⟨⟨rfl,rfl⟩,h3⟩:=hc;obtain rfl:=MK h;exact⟨[_],rfl,rfl,h3⟩
   ·simp at h
 | .bool,x,vs,ws,h=>by
  cases vs with
  |nil=>simp[BP]at h
  |cons v vs=>
   cases v<;>simp[BP]at h
   simp only[cond_eq_ite]at h;split at h
   ·rename_i b hc;obtain rfl:=MK h;have:b=x:=by have hc: @BEq.beq Bool _ b x=true:=hc;exact eq_of_beq hc
    subst this;exact⟨[_],rfl,rfl⟩
   ·simp at h
 | .str,x,vs,ws,h=>by
  cases vs with
  |nil=>simp[BP]at h
  |cons v vs=>
   cases v<;>simp[BP]at h
   simp only[cond_eq_ite]at h;split at h
   ·rename_i s hc;obtain rfl:=MK h;exact⟨[_],rfl,s,rfl,@of_decide_eq_true _ (instDecidableEqList (bytesOf s) x) hc⟩
   ·simp at h
 | .lst t,x,vs,ws,h=>by
  have h:BQ (P6 (α:=t.den) x) vs=some ws:=by rw[<-h];cases vs<;>rfl
  unfold BQ at h;split at h
  ·simp only[cond_eq_ite]at h;split at h
   ·rename_i he;obtain rfl:=MK h;have he:(x:List t.den)=[]:=List.isEmpty_iff.1 he;exact⟨[_],rfl,none,0,0,rfl,by rw[he];rfl,Nv _,.inl ⟨he,fun _=>rfl⟩⟩
   ·simp at h
  ·simp at h
 | .arr n t,x,vs,ws,h=>by
  unfold BP at h;simp only[cond_eq_ite]at h;split at h
  ·rename_i hc;obtain⟨c,h1,h2⟩:=oW (C:=C) (fun x vs ws h=>oZ h) h;exact⟨c,h1,ML hc,h2⟩
  ·simp at h
 | .unit,x,vs,ws,h=>by simp[BP]at h;subst h;exact⟨[],rfl,rfl⟩
 | .pair a b,x,vs,ws,h=>by
  have h:(match BP a x.1 vs with|some ws=>BP b x.2 ws|none=>none)=some ws:=by rw[<-h];cases vs<;>rfl
  split at h
  ·rename_i us hu;obtain⟨c1,e1,h1⟩:=oZ (t:=a) hu;obtain⟨c2,e2,h2⟩:=oZ (t:=b) h;exact⟨c1++c2,by rw[e1,e2,MZ],c1,c2,rfl,h1,h2⟩
  ·simp at h
theorem EU{C:Cx}: ∀ {ps:List AV} {vs:List Value},eU ps vs=true->PR C ps vs:=by
 intro ps
 induction ps with
 |nil=>intro vs h;cases vs with|nil=>exact .nil|cons v vs=>simp[eU]at h
 |cons p r ih=>
  intro vs h;cases p
  case arr n t xs=>
   unfold eU at h;split at h
   ·rename_i ws hw;obtain⟨c,rfl,h1⟩:=oZ (C:=C) hw;exact .arr h1 (ih h)
   ·simp at h
  case int k n=>
   cases vs with
   |nil=>simp[eU]at h
   |cons v vs=>
    cases v<;>simp[eU]at h
    obtain⟨⟨⟨rfl,rfl⟩,h3⟩,h4⟩:=h;exact .sc (.int h3) rfl rfl (ih h4)
  case bool b=>
   cases vs with
   |nil=>simp[eU]at h
   |cons v vs=>
    cases v<;>simp[eU]at h
    obtain⟨rfl,h4⟩:=h;exact .sc .bool rfl rfl (ih h4)
  case str l=>
   cases vs with
   |nil=>simp[eU]at h
   |cons v vs=>
    cases v<;>simp[eU]at h
    exact .sc (.str h.1) rfl rfl (ih h.2)
  case aC=>
   cases vs with
   |nil=>simp[eU]at h
   |cons v vs=>
    simp only[eU,MP]at h;obtain⟨h1,h2⟩:=h;unfold FZ at h1;split at h1
    ·exact .sc .aC rfl rfl (ih h2)
    ·simp at h1
  case nilPtr=>
   cases vs with
   |nil=>simp[eU]at h
   |cons v vs=>
    simp only[eU,MP]at h;obtain⟨h1,h2⟩:=h;unfold FY at h1;split at h1
    ·exact .sc .nilPtr rfl rfl (ih h2)
    ·simp at h1
  case nilFn=>
   cases vs with
   |nil=>simp[eU]at h
   |cons v vs=>
    cases v<;>simp[eU]at h
    exact .sc .nilFn rfl rfl (ih h)
  case nilIface=>
   cases vs with
   |nil=>simp[eU]at h
   |cons v vs=>
    cases v<;>simp[eU]at h
    exact .sc .nilIface rfl rfl (ih h)
  all_goals
   cases vs<;>simp[eU]at h
theorem dY{P:Program}{C:Cx}{t:TypeId}{ps:List AV}(h:zeroOf P t=some ps): ∃i v,P.info? t=some i/\i.zero=some v/\PR C ps v.cells.toList:=by
 unfold zeroOf at h;split at h
 ·rename_i i hi;split at h
  ·rename_i v hv;split at h
   ·rename_i qs hq;simp only[cond_eq_ite]at h;split at h
    ·rename_i hr;obtain rfl:=MK h;exact⟨i,v,hi,hv,EU hr⟩
    ·simp at h
   ·simp at h
  ·simp at h
 ·simp at h
theorem Inv.vV{P:Program}{S0:Base}{w0:World}{C:Cx}{h:Hp}{nx:Nat}(I:Inv P S0 w0 C h)(hM:C.M nx=none){ps:List AV}{cs:List Value}(hp:PR C ps cs){len:Nat}(hl:dR len ps)
  {arr:Array Value} {t:TypeId} {fz:Nat×Nat} {w':World} (hw:w'.heap=C.w.heap.push (.cells arr t fz)) (hos:w'.os=C.w.os) (htp:w'.tape=C.w.tape) (hout:w'.output=C.w.output)
  (hpre: ∃post,arr.toList=cs++post) (hfz: ∀j,j<arr.size-> ¬(fz.1<=j/\j<fz.2)):
  ∃C',C'.w=w'/\C.Le C'/\Inv P S0 w0 C' ((nx,.cells 0 false ps)::h)/\C'.M nx=some ⟨0,some C.w.heap.size,len,false⟩/\(∀y,C'.M y≠none->C.M y≠none\/y=nx)/\
   (∀j,j<arr.size->(w'.cell? ⟨C.w.heap.size,j,none⟩).isSome=true):=by
 have hcell: ∀j,w'.cell? ⟨C.w.heap.size,j,none⟩=arr[j]?:=fun j=>by simp[Qd,hw]
 have T:=I.make (b:=nx) (e':=⟨0,some C.w.heap.size,len,false⟩) (ao:= .cells 0 false ps) (w':=w') hM
  (I.below.trans ⟨hos,htp,hout,by rw[hw];simp,fun k hk=>by rw[hw,Oq,if_neg (by have:=I.below.size;omega)]⟩)
  (by rw[hw];simp) (fun k hk=>by rw[hw,Oq,if_neg (by omega)])
  (fun c hc=>by simp at hc;subst hc;rw[hw];simp)
  (fun le=>by
   refine⟨rfl,rfl,hl,cs,hp.mono le,fun j v hv=> ?_,fun j hj=> ?_⟩
   ·obtain⟨post,hpost⟩:=hpre;simp only[NP];show w'.cell? _=_;rw[hcell,<-Oi,hpost,NU (List.getElem?_eq_some_iff.1 hv).1];exact hv
   ·have hj:(w'.cell? ⟨C.w.heap.size,j,none⟩).isSome=true:=hj;rw[hcell]at hj;have hlt:j<arr.size:=by
     rcases Ph j arr.size with h|h
     ·exact h
     ·rw[N_ h]at hj;simp at hj
    show w'.frozen? _=false;simp only[World.frozen?,hw,Array.getElem?_push_size];have:=hfz j hlt;simp only[Bool.and_eq_false_iff,decide_eq_false_iff_not];omega)
 refine⟨_,rfl,T.1,T.2,by simp,fun y hy=> ?_,fun j hj=>by rw[hcell];simp[hj]⟩;by_cases hyn:y=nx
 ·exact .inr hyn
 ·left;simpa[hyn]using hy
end Go.AM
end
section
namespace Go.AM
variable [Tabs]
open Go.RowKit
section
variable {P:Program} {S0:Base} {w0:World} {cs:List Frame} {C:Cx} {h h':Hp} {nx:Nat}
theorem vU(I:Inv P S0 w0 C h)(hM:C.M nx=none){ps:List AV}{v:Value}{t:TypeId}{r:AV×h_}(e:(Ic nx ps).Ev r)(hp:PR C ps v.cells.toList)(hn:ps.all noRow=true):
  Does P S0 w0 cs C h nx ((do pure (.value (<-(do pure (.pointer (some (<-newVar t v))):Sem Value))):Sem Next).run P C.w) r:=by
 obtain rfl:=F.au e;obtain⟨C',h1,h2,h3,h4,h5,_⟩:=I.vV (len:=0) hM hp (jW hn) (arr:=v.cells) (t:=t) (fz:=(0,0)) (w':=C.w.alloc (.cells v.cells t)) rfl rfl rfl rfl ⟨[],by simp⟩ (fun j _=>by simp);refine⟨.pointer (some ⟨C.w.heap.size,0,none⟩),C',.inl ?_,h3,h2,.ptr h4 (Nv _) (fun _=>⟨C.w.heap.size,rfl,rfl,trivial⟩) ⟨_,rfl⟩,h5⟩;rw[h1];rfl
theorem yJ(I:Inv P S0 w0 C h)(hM:C.M nx=none){ps:List AV}{t:TypeId}{r:AV×h_}(hz:zeroOf P t=some ps)(e:(Ic nx ps).Ev r):
  Does P S0 w0 cs C h nx ((do pure (.value (<-Ob t true (.tuple #[]))):Sem Next).run P C.w) r:=by
 obtain⟨i,v,h1,h2,h3⟩:=dY (C:=C) hz;have hn:ps.all noRow=true:=by
  -- the table's zero values hold no rows
  have: ∀ {ps:List AV} {vs:List Value},eU ps vs=true->ps.all noRow=true:=by
   intro ps
   induction ps with
   |nil=>intro _ _;rfl
   |cons p r ih=>
    intro vs h;cases p
    case arr n t xs=>
     unfold eU at h;split at h
     ·have:=ih h;simpa[noRow]using this
     ·simp at h
    all_goals
     cases vs with
     |nil=>simp[eU]at h
     |cons v vs=>first
      |(simp[eU]at h;done)
      |(simp only[eU,MP]at h;have:=ih h.2;simpa[noRow]using this)
      |(cases v<;>simp[eU]at h<;>first|(have:=ih h.2;simpa[noRow]using this)|(have:=ih h;simpa[noRow]using this))
  unfold zeroOf at hz;split at hz
  ·split at hz
   ·split at hz
    ·simp only[cond_eq_ite]at hz;split at hz
     ·rename_i hr;obtain rfl:=MK hz;exact this hr
     ·simp at hz
    ·simp at hz
   ·simp at hz
  ·simp at hz
 have k:=vU (cs:=cs) (t:=t) I hM e h3 hn;have:(Ob t true (.tuple #[])).run P C.w=(do pure (.pointer (some (<-newVar t v))):Sem Value).run P C.w:=by simp[Ob,zeroValue,typeInfo,h1,h2]
 simp only[MO]at k ⊢
 rw[this];exact k
theorem BH{ps:List AV}{t:TypeId}{r:AV×h_}(I:Inv P S0 w0 C h)(hM:C.M nx=none)(e:(BG P nx t).Ev r):
  Does P S0 w0 cs C h nx ((do pure (.value (<-Ob t true (.tuple #[]))):Sem Next).run P C.w) r:=by
 unfold BG at e;split at e
 ·rename_i ps hz;split at e
  ·rename_i el hb;unfold D9 at e;split at e
   ·obtain rfl:=F.au e;obtain⟨i,v,h1,h2,h3⟩:=dY (C:=C) hz;have hv:v.cells= #[.pointer none,.slice none 0 0]:=by
     generalize hl:v.cells.toList=l at h3;cases h3 with
     |sc a1 _ _ a2=>
      cases a1;cases a2 with
      |sc b1 _ _ b2=>
       cases b1;cases b2;exact Qg hl
    have T:=I.H9 (T:=t) (e:=el) hM;have hr:(Ob t true (.tuple #[])).run P C.w= .ok (.pointer (some ⟨C.w.heap.size,0,none⟩)) (C.w.alloc (.cells #[.pointer none,.slice none 0 0] t)):=by
     have:(Ob t true (.tuple #[])).run P C.w=(do pure (.pointer (some (<-newVar t v))):Sem Value).run P C.w:=by simp[Ob,zeroValue,typeInfo,h1,h2]
     rw[this,<-hv];rfl
    refine⟨.pointer (some ⟨C.w.heap.size,0,none⟩),_,.inl ?_,T.2,T.1,.ptr (e:=⟨0,some C.w.heap.size,0,true⟩) (by simp) (Nv _) (fun _=>⟨C.w.heap.size,rfl,rfl,trivial⟩) ⟨_,rfl⟩,fun y hy=> ?_⟩
    ·simp only[MO,hr];rfl
    ·by_cases hyb:y=nx
     ·exact .inr hyb
     ·refine .inl ?_;simpa[hyb]using hy
   ·exact(F.ah e).elim
  ·exact yJ I hM hz e
 ·exact(F.ah e).elim
theorem jy: ∀(p q:List jq),aG (p++q)=aG p+aG q
 |[],q=>by simp[aG]
 | .off d::r,q=>by simp only[Pn,aG,jy r q];omega
 | .ix i z m::r,q=>by simp only[Pn,aG,jy r q];omega
theorem gZ{len:Nat}: ∀ {p q:List jq},jJ len p->jJ len q->jJ len (p++q)
 |[],_,_,h=>h
 | .off d::r,q,hp,h=>gZ (p:=r) hp h
 | .ix i z m::r,q,⟨h1,h2,hp⟩,h=>⟨h1,h2,gZ (p:=r) hp h⟩
theorem pq{t:TypeId}{f:Nat}{fd:Field}(hf:mQ P t f=some fd): ∃fs,P.underlying t=some (.struct fs)/\fs[f]?=some fd:=by
 unfold mQ at hf;split at hf
 ·rename_i fs hu;exact⟨fs,hu,hf⟩
 ·simp at hf
theorem z_{t:TypeId}(h:P.cellsOf t≠0): ∃i,P.info? t=some i:=by
 cases hi:P.info? t with
 |none=>simp[Py,hi]at h
 |some i=>exact⟨i,rfl⟩
theorem kF{w:World}{t:TypeId}{f:Nat}{fd:Field}(hf:mQ P t f=some fd)(hz:P.cellsOf fd.type≠0)(a:Addr):
  (OB t (.pointer (some a)) f).run P w= .ok (.pointer (some (a.add fd.offset))) w:=by
 obtain⟨fs,hu,hfd⟩:=pq hf;obtain⟨i,hi⟩:=z_ hz;simp[OB,run_underlying hu,hfd,NH,fieldPlace,run_sizeOf w hi,hz]
theorem Bg{w:World}{t:TypeId}{f:Nat}{fd:Field}(hf:mQ P t f=some fd)(hz:P.cellsOf fd.type≠0)(b o:Nat):
  (OB t (.pointer (some ⟨b,o,none⟩)) f).run P w= .ok (.pointer (some ⟨b,o+fd.offset,none⟩)) w:=by
 rw[kF hf hz,MS]
theorem qE{t:TypeId}{x:AV}{f:Nat}{v:Value}{r:AV×h_}(e:(nY P t x f).Ev r)(hv:VR C x v):qB P C (OB t v f) r:=by
 unfold nY at e;split at e
 ·rename_i fd hf;simp only[cond_eq_ite]at e;split at e
  ·exact(F.ah e).elim
  ·rename_i hz;have hz:P.cellsOf fd.type≠0:=fun q=>by rw[q]at hz;simp at hz
   split at e
   ·obtain rfl:=F.aj e;cases hv with
    |ptr k1 k2 k3 k4=>
     obtain⟨a,rfl⟩:=k4;refine⟨_,kF hf hz _,.ptr k1 k2 (fun q=> ?_) ⟨_,rfl⟩,rfl⟩;obtain⟨c,q1,q2,q3⟩:=k3 q;cases q2;exact⟨c,q1,by rw[MS];simp[aG],trivial⟩
   ·obtain rfl:=F.aj e;cases hv with
    |ptr k1 k2 k3 k4=>
     obtain⟨a,rfl⟩:=k4;refine⟨_,kF hf hz _,.ptr k1 k2 (fun q=> ?_) ⟨_,rfl⟩,rfl⟩;obtain⟨c,q1,q2,q3⟩:=k3 q;cases q2;exact⟨c,q1,by rw[MS,jy];simp[aG,MV],gZ q3 trivial⟩
   ·obtain rfl:=F.aj e;cases hv with
    |rp k1 k2=>exact⟨_,Bg hf hz _ _,by rw[MV];exact .rp k1 k2,rfl⟩
   ·exact(F.ah e).elim
 ·exact(F.ah e).elim
theorem yS{t:TypeId}{x:AV}{f:Nat}{v:Value}{r:AV×h_}(e:(Ce P t x f).Ev r)(hv:VR C x v):qB P C (P8 t v f) r:=by
 unfold Ce at e;split at e
 ·rename_i fd ps hf;split at e
  ·rename_i l hl;simp only[cond_eq_ite]at e;split at e
   ·rename_i hz;obtain rfl:=F.aj e;simp only[MP,Oa]at hz;obtain⟨d,hd,h1⟩:=gV hz.1;obtain⟨fs,hu,hfd⟩:=pq hf;cases hv with
    | @agg _ cs hp=>
     have hsz:P.cellsOf fd.type≠0->PR C l ((cs.drop fd.offset).take (P.cellsOf fd.type))/\fd.offset+P.cellsOf fd.type<=cs.length:=fun hn=>by
      have hne:AM.aJ ps fd.offset≠[]:=fun q=>by
       rw[q]at hl;cases hc:P.cellsOf fd.type with
       |zero=>exact hn hc
       |succ n=>rw[hc]at hl;simp[aO]at hl
      obtain⟨k1,k2⟩:=hp.aJ _ hne;obtain⟨k3,k4⟩:=k1.take hl;exact⟨k3,by simp at k4;omega⟩
     ·obtain⟨k3,k4⟩:=hsz (fun q=>by rw[q]at hz;simp at hz);refine⟨_,?_,iI k3 hd,rfl⟩;have:=jk (P:=P) C.w hd cs.toArray fd.offset (by simpa using k4) h1;simp only[P8,MO,run_underlying hu,MN,hfd,asAgg,NC,this]
   ·exact(F.ah e).elim
  ·exact(F.ah e).elim
 ·exact(F.ah e).elim
theorem iR{i n:Int}:inB i n=true ↔ 0<=i/\i<n:=by simp[inB]
theorem fQ{t:TypeId}(h:cu P t=true): ∃i,P.info? t=some i:=by
 obtain⟨d,hd,_⟩:=gV h;exact bD hd
theorem Hp.Bf{h:Hp}{b v:Nat}{x:Bool×Held}(e:h.row b v=some x):h.cells b v=some (x.1,[.row x.2.t x.2.xs]):=by
 unfold Hp.row at e;split at e
 ·rename_i w t xs hc;obtain rfl:=MK e;exact hc
 ·simp at e
theorem Inv.rowLen(I:Inv P S0 w0 C h)(hs:bP h' h){b v:Nat}{x:Bool×Held}(e:h'.row b v=some x):
  ∃ro en,h.get b=some (.cells v ro [.row x.2.t x.2.xs])/\x.1= !ro/\C.M b=some en/\en.ver=v/\en.perm=false/\en.len=x.2.xs.length/\match en.cb with
   |none=>x.2.xs=[]
   |some c=> ∃pre,Cat (Rep C x.2.t) x.2.xs pre/\C.w.rangeAt c 0 pre/\ ∀j,(C.w.cell? ⟨c,j,none⟩).isSome=true->C.w.frozen? ⟨c,j,none⟩=false:=by
 obtain⟨ro,en,g1,g2,g3,g4,g5,g6,g7⟩:=I.block hs (Hp.Bf e);have hl:=g6 _ _ (List.mem_singleton.2 rfl);refine⟨ro,en,g1,g2,g3,g4,g5,hl,?_⟩;revert g7;cases en.cb with
 |none=>rintro⟨t,q⟩;simp at q;obtain⟨q1,q2⟩:=q;subst q1;exact eq_of_heq q2
 |some c=>
  rintro⟨pre,p1,p2,p3⟩
  cases p1 with
  |sc _ q _ _=>simp[AV.fV]at q
  |row q1 q2=>cases q2;exact⟨_,q1,by simpa using p2,p3⟩
theorem run_indexAt_array{w:World}{t e:TypeId}{m:Nat}(hu:P.underlying t=some (.array m e))(he:cu P e=true)(a:Addr){k:IntKind}{i:Int}(h0:0<=i)(h1:i<m):
  (Oo t (.pointer (some a)) (.int k i)).run P w= .ok (.pointer (some (a.add (i.toNat*P.cellsOf e)))) w:=by
 obtain⟨ii,hi⟩:=fQ he;simp[Oo,asIntOf,run_underlying hu,NH,h0,h1,run_sizeOf w hi]
theorem run_indexAt_slice{w:World}{t e:TypeId}(hu:P.underlying t=some (.slice e))(he:cu P e=true)(a:Addr){n cap:Nat}{k:IntKind}{i:Int}(h0:0<=i)(h1:i<n):
  (Oo t (.slice (some a) n cap) (.int k i)).run P w= .ok (.pointer (some (a.add (i.toNat*P.cellsOf e)))) w:=by
 obtain⟨ii,hi⟩:=fQ he;simp[Oo,asIntOf,run_underlying hu,h0,h1,run_sizeOf w hi]
theorem CG(I:Inv P S0 w0 C h)(hs:bP h' h){x:AV}{v:Value}{n:Int}(hv:VR C x v)(e:kT h' x=some n):
  (∃s,v= .string s/\n=s.size)\/(∃cs:Array Value,v= .agg cs)\/(∃a m c,v= .slice a m c/\n=m):=by
 cases hv with
 |str q=>simp[kT]at e;subst q;left;exact⟨_,rfl,by rw[<-e,bytesOf_length]⟩
 |arr q=>right;left;exact⟨_,rfl⟩
 |aC=>simp[kT]at e;right;right;exact⟨_,_,_,rfl,by simp[<-e]⟩
 |lst q=>simp[kT]at e;obtain⟨a,m,c,q1,q2,_⟩:=q;right;right;simp at q1;exact⟨a,m,c,q1,by rw[<-e,q2]⟩
 |iO q _=>simp[kT]at e;obtain⟨a,m,c,q1,q2,_⟩:=q;right;right;simp at q1;exact⟨a,m,c,q1,by rw[<-e,q2]⟩
 |slc k1 k2 k3 k4=>
  simp only[kT,cond_eq_ite]at e;split at e
  ·rename_i hf;unfold Hp.fresh at hf;split at hf
   ·rename_i x hx;obtain⟨ro,en,g1,g2,g3,g4,g5,g6,g7⟩:=I.block hs hx;rw[g3]at k1;obtain rfl:=MK k1;obtain⟨q1,q2,q3,q4⟩:=k3 g4.symm;simp at e;right;right
    split at q4
    ·obtain⟨rfl,q5,rfl⟩:=q4;exact⟨_,_,_,rfl,by simp at q3;omega⟩
    ·obtain⟨a,cap,rfl,_⟩:=q4;exact⟨_,_,_,rfl,by omega⟩
   ·simp at hf
  ·simp at e
 |kP k1 k2 k3 k4=>
  simp only[kT,cond_eq_ite]at e;split at e
  ·rename_i hf;unfold Hp.fresh at hf;split at hf
   ·rename_i x hx;obtain⟨ro,en,g1,g2,g3,g4,g5,g6,g7⟩:=I.block hs hx;rw[g3]at k1;obtain rfl:=MK k1;obtain⟨c,_,rfl⟩:=k3 g4.symm;simp at e;right;right
    exact⟨_,_,_,rfl,e.symm⟩
   ·simp at hf
  ·simp at e
 |own k1 k2 k3 k4=>
  simp only[kT]at e;split at e
  ·rename_i w u hr;obtain⟨ro,en,g1,g2,g3,g4,g5,g6,g7⟩:=I.rowLen hs hr;rw[g3]at k1;obtain rfl:=MK k1;have k3:=k3 g4.symm;unfold dO at k3;simp at e;right;right
   split at k3
   ·obtain⟨cap,rfl,_⟩:=k3;exact⟨_,_,_,rfl,by rw[<-e,g6]⟩
   ·obtain⟨q1,rfl⟩:=k3;exact⟨_,_,_,rfl,by rw[<-e,<-g6,q1]⟩
  ·simp at e
 |_=>simp[kT]at e
theorem Cells.sub{b p:Nat}{ds:List Value}(hc:Cells C b p ds)(a n:Nat):Cells C b (p+a) ((ds.drop a).take n):=by
 intro j v hv;rw[NJ]at hv;split at hv
 ·rw[Nr]at hv;have:=hc _ _ hv;rw[MV];exact this
 ·simp at hv
theorem qM(I:Inv P S0 w0 C h)(hs:bP h' h){t:TypeId}{x:AV}{k:IntKind}{i:Int}{v:Value}{r:AV×h_}(e:(oh P h' t x i).Ev r)(hv:VR C x v):
  qB P C (Oo t v (.int k i)) r:=by
 unfold oh at e;split at e
 ·rename_i m el hu;simp only[cond_eq_ite]at e;split at e
  ·rename_i hz;simp only[MP]at hz;have he:=hz.1;split at e
   ·rename_i b ver o path;obtain⟨hi,e⟩:=F.aF e;obtain⟨h0,h1⟩:=iR.1 hi;cases hv with
    |ptr k1 k2 k3 k4=>
     obtain⟨a,rfl⟩:=k4;split at e
     ·obtain rfl:=F.aj e;refine⟨_,run_indexAt_array hu he a h0 h1,.ptr k1 k2 (fun q=> ?_) ⟨_,rfl⟩,rfl⟩;obtain⟨c,q1,q2,q3⟩:=k3 q;cases q2;exact⟨c,q1,by rw[MS,jy];simp[aG,MV],gZ q3 ⟨h0,by simpa using h1,trivial⟩⟩
     ·split at e
      ·obtain rfl:=F.aj e;refine⟨_,run_indexAt_array hu he a h0 h1,.ptr k1 k2 (fun q=> ?_) ⟨_,rfl⟩,rfl⟩;obtain⟨c,q1,q2,q3⟩:=k3 q;cases q2;exact⟨c,q1,by rw[MS];simp[aG],trivial⟩
      ·exact(F.ah e).elim
   ·rename_i ty y o;split at e
    ·rename_i s hsub;split at e
     ·rename_i hc;simp only[MP]at hc;obtain⟨c1,c2⟩:=hc;obtain⟨hi,e⟩:=F.aF e;obtain⟨h0,h1⟩:=iR.1 hi;obtain rfl:=F.aj e;cases hv with
      | @rp _ _ _ b p ds k1 k2=>
       obtain⟨s1,s2,s3,s4⟩:=k1.sub hsub;rw[s1]at c1;have hm:=dW c1;have hlen:s.xs.length=m:=by simpa using hm.symm
       have hzz:=ML c2;obtain⟨hlt,hrd⟩:=pY s.t.zero (xs:=s.xs) h0 (by omega);have hg:=Cat.get (fun _ _ h=>Rep.length h) s3 hlt;have hml:=bC (z:=s.t.size) hlt;rw[dw _ _ _ _ _ hml]at hg;refine⟨_,run_indexAt_array hu he _ h0 h1,?_,rfl⟩;rw[MS,<-hzz,hrd];have:=VR.rp (o:=0) hg (k2.sub (o+i.toNat*s.t.size) s.t.size);rw[Ns,<-MV]at this;exact this
     ·exact(F.ah e).elim
    ·exact(F.ah e).elim
   ·exact(F.ah e).elim
  ·exact(F.ah e).elim
 ·rename_i el hu;simp only[cond_eq_ite]at e;split at e
  ·rename_i he;split at e
   ·rename_i b ver ty;split at e
    ·rename_i hz;have hz:=ML hz;split at e
     ·rename_i n hn;obtain⟨hi,e⟩:=F.aF e;obtain⟨h0,h1⟩:=iR.1 hi;obtain rfl:=F.aj e;cases hv with
      |own k1 k2 k3 k4=>
       simp only[kT]at hn;split at hn
       ·rename_i w u hr;obtain⟨ro,en,g1,g2,g3,g4,g5,g6,g7⟩:=I.rowLen hs hr;have g6:en.len=u.xs.length:=g6;have k1':=k1;rw[g3]at k1;obtain rfl:=MK k1;have k3:=k3 g4.symm;unfold dO at k3;simp at hn;split at k3
        ·rename_i c hc;obtain⟨cap,rfl,k5,k6⟩:=k3;refine⟨_,run_indexAt_slice hu he _ h0 (by omega),.ptr k1' k2 (fun _=>⟨c,hc,?_,h0,by simp;omega,trivial⟩) ⟨_,rfl⟩,rfl⟩;rw[MS,<-hz];simp[aG]
        ·omega
       ·simp at hn
     ·exact(F.ah e).elim
    ·exact(F.ah e).elim
   ·rename_i b ver o m ty s n;split at e
    ·rename_i hz;simp only[MP]at hz;have hz1:=ML hz.1;obtain⟨hi,e⟩:=F.aF e;obtain⟨h0,h1⟩:=iR.1 hi;obtain rfl:=F.aj e;have hf:=hz.2;unfold Hp.fresh at hf;split at hf
     ·rename_i x hx;obtain⟨ro,en,g1,g2,g3,g4,g5,g6,g7⟩:=I.block hs hx;cases hv with
      |slc k1 k2 k3 k4=>
       have k1':=k1;rw[g3]at k1;obtain rfl:=MK k1;obtain⟨q1,q2,q3,q4⟩:=k3 g4.symm;split at q4
       ·obtain⟨rfl,q5,_⟩:=q4;simp at q3;omega
       ·rename_i c hc;obtain⟨a,cap,rfl,q5,q6,q7⟩:=q4;have hcap:cap≠0:=by omega
        obtain rfl:=q5 hcap;refine⟨_,run_indexAt_slice hu he _ h0 (by omega),.ptr k1' k2 (fun _=>⟨c,hc,?_,by omega,by omega,trivial⟩) ⟨_,rfl⟩,rfl⟩;rw[MS,<-hz1];have:(s+i).toNat=s.toNat+i.toNat:=by omega
        simp only[aG,this,Ot,Ns,MV]
     ·simp at hf
    ·exact(F.ah e).elim
   ·rename_i ty xs;split at e
    ·rename_i hz;have hz:=ML hz;obtain⟨hi,e⟩:=F.aF e;obtain⟨h0,h1⟩:=iR.1 hi;obtain rfl:=F.aj e;cases hv with
     |lst q=>
      obtain⟨a,n,c,q1,q2,q3,q4⟩:=q;simp at q1;subst q1;obtain⟨hlt,hrd⟩:=pY ty.zero (xs:=xs) h0 h1;rcases q4 with⟨q4,_⟩|⟨b,p,ds,rfl,q5,q6⟩
      ·have:M_ (α:=ty.den) xs=0:=by rw[q4];rfl
       omega
      ·have hg:=Cat.get (fun _ _ h=>Rep.length h) q5 hlt;refine⟨_,run_indexAt_slice hu he _ h0 (by omega),?_,rfl⟩;rw[MS,<-hz,hrd];have:=VR.rp (o:=0) hg (q6.sub (i.toNat*ty.size) ty.size);rw[Ns]at this;exact this
    ·exact(F.ah e).elim
   ·rename_i b ver n;split at e
    ·rename_i hz;simp only[MP]at hz;have hz1:=ML hz.1;obtain⟨hi,e⟩:=F.aF e;obtain⟨h0,h1⟩:=iR.1 hi;obtain rfl:=F.aj e;have hf:=hz.2;unfold Hp.fresh at hf;split at hf
     ·rename_i x hx;obtain⟨ro,en,g1,g2,g3,g4,g5,g6,g7⟩:=I.block hs hx;cases hv with
      |kP k1 k2 k3 k4=>
       have k1':=k1;rw[g3]at k1;obtain rfl:=MK k1;obtain⟨c,q1,rfl⟩:=k3 g4.symm;refine⟨_,run_indexAt_slice hu he _ h0 (by omega),.ptr k1' k2 (fun _=>⟨c,q1,?_,trivial⟩) ⟨_,rfl⟩,rfl⟩;rw[MS,hz1];simp[aG]
     ·simp at hf
    ·exact(F.ah e).elim
   ·exact(F.ah e).elim
  ·exact(F.ah e).elim
 ·exact(F.ah e).elim
end
end Go.AM
end
section
namespace Go.AM
variable [Tabs]
open Go.RowKit
section
variable {P:Program} {S0:Base} {w0:World} {cs:List Frame} {C:Cx} {h h':Hp} {nx:Nat}
theorem zZ(s:ByteArray)(i:Nat):(bytesOf s)[i]?=(s[i]?).map fun b=>(b.toNat:Int):=by
 simp only[bytesOf,List.getElem?_map,Oi];rfl
theorem u8_in(b:UInt8):ak .u8 (b.toNat:Int)=true:=by
 rw[fP];have h:b.toNat<256:=b.toNat_lt;have h1:PV.min=0:=rfl;have h2:PV.max=255:=rfl;omega
theorem yX{t:TypeId}{x:AV}{k:IntKind}{i:Int}{v:Value}{r:AV×h_}(e:(Cj P t x i).Ev r)(hv:VR C x v):qB P C (OX t v (.int k i)) r:=by
 unfold Cj at e;split at e
 ·rename_i m el n ty xs hu;simp only[cond_eq_ite]at e;split at e
  ·rename_i hz;simp only[MP]at hz;obtain⟨⟨z1,z2⟩,z3⟩:=hz;obtain rfl:=ML z1;have z2:=ML z2;obtain⟨hi,e⟩:=F.aF e;obtain⟨h0,h1⟩:=iR.1 hi;obtain rfl:=F.aj e;obtain⟨d,hd,hd1⟩:=gV z3;obtain⟨ii,hii⟩:=bD hd;cases hv with
   | @arr _ _ _ cs q=>
    obtain⟨q1,q2⟩:=q;have hl:=Cat.length (fun _ _ h=>Rep.length h) q2;obtain⟨hlt,hrd⟩:=pY ty.zero (xs:=xs) h0 (by omega);have hg:=Cat.get (fun _ _ h=>Rep.length h) q2 hlt;have hml:=bC (z:=ty.size) hlt;refine⟨_,?_,iI (PR.lH (by rw[hrd];exact hg)) hd,rfl⟩;have hp:=jk (P:=P) C.w hd cs (i.toNat*P.cellsOf el) (by simp at hl;rw[<-z2];omega) hd1;rw[<-z2]at hp;simp[OX,asIntOf,run_underlying hu,h0,h1,run_sizeOf C.w hii,<-z2,hp]
  ·exact(F.ah e).elim
 ·rename_i s hu;obtain⟨hi,e⟩:=F.aF e;obtain⟨h0,h1⟩:=iR.1 hi;obtain rfl:=F.aj e;cases hv with
  | @str s' _ q=>
   subst q;rw[bytesOf_length]at h1;have hlt:i.toNat<s'.size:=by omega
   refine⟨.int .u8 (s'[i.toNat].toNat:Int),?_,?_,rfl⟩
   ·simp[OX,asIntOf,run_underlying hu,h0,hlt]
   ·have:rd (0:Int) (bytesOf s') i=(s'[i.toNat].toNat:Int):=by
     unfold rd;rw[List.getD_eq_getElem?_getD,zZ];simp[hlt]
    rw[this];exact .int (u8_in _)
 ·rename_i m el ps hu;simp only[cond_eq_ite]at e;split at e
  ·rename_i hz;simp only[MP,Oa]at hz;obtain⟨⟨hi,z3⟩,hz0⟩:=hz;split at e
   ·rename_i l hl;obtain⟨h0,h1⟩:=iR.1 hi;obtain rfl:=F.aj e;obtain⟨d,hd,hd1⟩:=gV z3;obtain⟨ii,hii⟩:=bD hd;cases hv with
    | @agg _ cs hp=>
     have hn:P.cellsOf el≠0:=fun q=>by rw[q]at hz0;simp at hz0
     have hne:AM.aJ ps (i.toNat*P.cellsOf el)≠[]:=fun q=>by
      rw[q]at hl;cases hc:P.cellsOf el with
      |zero=>exact hn hc
      |succ n=>rw[hc]at hl;simp[aO]at hl
     obtain⟨k1,k2⟩:=hp.aJ _ hne;obtain⟨k3,k4⟩:=k1.take hl;refine⟨_,?_,iI k3 hd,rfl⟩;have hp:=jk (P:=P) C.w hd cs.toArray (i.toNat*P.cellsOf el) (by simp at k4;simp;omega) hd1;simp[OX,asIntOf,run_underlying hu,h0,h1,run_sizeOf C.w hii,hp]
   ·exact(F.ah e).elim
  ·exact(F.ah e).elim
 ·exact(F.ah e).elim
def BF(C:Cx):Option AV->Option Value->Prop
 |none,none=>True
 |some a,some v=>VR C a v
 |_,_=>False
theorem fA{l u n:Int}:sV l u n=true ↔ 0<=l/\l<=u/\u<=n:=by simp[sV,and_assoc]
theorem run_sliceBound{w:World}{k:IntKind}{i:Int}{y:Nat}{c:BoundsCode}(h0:0<=i)(h1:i<=y):(Pj (.int k i) y c).run P w= .ok i.toNat w:=by simp[Pj,asIntOf,h0,h1]
theorem dG{w:World}{isSlice:Bool}{len cap:Nat}{lo hi:Option AV}{lo' hi':Option Value}{l u:Int}(hl:BF C lo lo')(hh:BF C hi hi')(e1:zV lo 0=some l)(e2:zV hi len=some u)
  (h0:0<=l) (h1:l<=u) (h2:u<=cap):(MX isSlice len cap lo' hi' none).run P w= .ok (l.toNat,u.toNat,cap) w:=by
 cases hi with
 |none=>
  cases hi' with
  |some v=>exact hh.elim
  |none=>
   simp[zV]at e2;subst e2;cases lo with
   |none=>
    cases lo' with
    |some v=>exact hl.elim
    |none=>simp[zV]at e1;subst e1;simp[MX]
   |some a=>
    cases lo' with
    |none=>exact hl.elim
    |some v=>
     have hl:VR C a v:=hl;cases hl<;>simp[zV]at e1
     subst e1;simp[MX,run_sliceBound h0 h1]
 |some b=>
  cases hi' with
  |none=>exact hh.elim
  |some v=>
   have hh:VR C b v:=hh;cases hh<;>simp[zV]at e2
   subst e2;cases lo with
   |none=>
    cases lo' with
    |some v=>exact hl.elim
    |none=>simp[zV]at e1;subst e1;simp[MX,run_sliceBound h1 h2]
   |some a=>
    cases lo' with
    |none=>exact hl.elim
    |some v=>
     have hl:VR C a v:=hl;cases hl<;>simp[zV]at e1
     subst e1;simp[MX,run_sliceBound (P5 h0 h1) h2];rw[run_sliceBound h0 (by omega)];rfl
theorem sU(s:ByteArray)(a b:Nat):bytesOf (s.extract a b)=((bytesOf s).take b).drop a:=by simp[bytesOf,ByteArray.data_extract,List.map_drop,List.map_take,Og]
theorem iK{w:World}{len cap:Nat}{lo:Option AV}{lo':Option Value}{l u n:Int}{hv mv:Value}(hl:BF C lo lo')(e1:zV lo 0=some l){k k':IntKind}
  (hh:hv= .int k u) (hm:mv= .int k' n) (h0:0<=l) (h1:l<=u) (h2:u<=n) (h3:n<=cap):
  (MX true len cap lo' (some hv) (some mv)).run P w= .ok (l.toNat,u.toNat,n.toNat) w:=by
 subst hh;subst hm;cases lo with
 |none=>
  cases lo' with
  |some v=>exact hl.elim
  |none=>simp[zV]at e1;subst e1;simp[MX,run_sliceBound (P5 h1 h2) h3,run_sliceBound (y:=n.toNat) h1 (by omega)]
 |some a=>
  cases lo' with
  |none=>exact hl.elim
  |some v=>
   have hl:VR C a v:=hl;cases hl<;>simp[zV]at e1
   subst e1;simp[MX,run_sliceBound (show 0<=n by omega) h3,run_sliceBound (y:=n.toNat) (show 0<=u by omega) (by omega),run_sliceBound (y:=u.toNat) h0 (by omega)]
theorem fK{mx lo hi:Option AV}{n l u:Int}(h:lg mx lo hi n=some (none,l,u)):mx=none/\zV lo 0=some l/\zV hi n=some u:=by
 unfold lg at h;split at h
 ·simp at h;obtain⟨rfl,rfl⟩:=h;exact⟨rfl,‹_›,‹_›⟩
 ·split at h<;>simp at h
 ·simp at h
theorem nT{mx lo hi:Option AV}{n l u k:Int}(h:lg mx lo hi n=some (some k,l,u)):(∃kk,mx=some (.int kk k))/\zV lo 0=some l/\ ∃kk,hi=some (.int kk u):=by
 unfold lg at h;split at h
 ·simp at h
 ·rename_i kk k' l' u' e1 e2;split at h
  ·rename_i hv;simp at h;obtain⟨rfl,rfl,rfl⟩:=h;refine⟨⟨kk,rfl⟩,e1,?_⟩;cases hv<;>simp[zV]at e2
   subst e2;exact⟨_,rfl⟩
  ·simp at h
 ·simp at h
theorem run_sliceAt_slice{w:World}{t e:TypeId}(hu:P.underlying t=some (.slice e))(he:cu P e=true){a:Option Addr}{len cap:Nat}{lo hi mx:Option Value}{l u m:Nat}
  (hb:(MX true len cap lo hi mx).run P w= .ok (l,u,m) w):
  (N7 t (.slice a len cap) lo hi mx).run P w= .ok (.slice (if m=l then a else a.map (·.add (l*P.cellsOf e))) (u-l) (m-l)) w:=by
 obtain⟨i,hi⟩:=fQ he;simp only[N7,MO,run_underlying hu,MN,P9,hb,run_sizeOf w hi,NC]
theorem Cat.cut{z:Nat}{α:Type}{R:α->List Value->Prop}(hz: ∀x cs,R x cs->cs.length=z){xs:List α}{ds:List Value}(hc:Cat R xs ds)(l u:Nat):
  Cat R ((xs.take u).drop l) (((ds.take (u*z)).drop (l*z))):=(Cat.split hz l (Cat.split hz u hc).1).2
theorem Hp.qm{h:Hp}{b v o:Nat}{m:Option Nat}{x:Bool×List AV×Sub AV}(e:h.sub b v o m=some x):h.cells b v=some (x.1,x.2.1)/\cO x.2.1 o=some x.2.2/\eP x.2.2.n m=true:=by
 unfold Hp.sub at e;split at e
 ·rename_i w ps hc;split at e
  ·rename_i s hs;simp only[cond_eq_ite]at e;split at e
   ·rename_i hm;obtain rfl:=MK e;exact⟨hc,hs,hm⟩
   ·simp at e
  ·simp at e
 ·simp at e
theorem Hq{α:Type}(xs:List α){l u:Int}(h:u.toNat<=xs.length):(cut xs l u).length=u.toNat-l.toNat:=by unfold cut;rw[NV,NW,PN h]
theorem qh(I:Inv P S0 w0 C h)(hs:bP h' h){t:TypeId}{x:AV}{v:Value}{lo hi mx:Option AV}{lo' hi' mx':Option Value}{r:AV×h_}(e:(zy P h' t x lo hi mx).Ev r)(hv:VR C x v)
  (hlo:BF C lo lo') (hhi:BF C hi hi') (hmx:BF C mx mx'):qB P C (N7 t v lo' hi' mx') r:=by
 unfold zy at e;split at e
 ·rename_i s hu;split at e
  ·rename_i l u hc;obtain⟨rfl,c1,c2⟩:=fK hc;obtain⟨hb,e⟩:=F.aF e;obtain⟨b0,b1,b2⟩:=fA.1 hb;obtain rfl:=F.aj e;cases mx' with
   |some _=>exact hmx.elim
   |none=>
    cases hv with
    | @str s' _ q=>
     subst q;rw[bytesOf_length]at c2 b2;refine⟨.string (s'.extract l.toNat u.toNat),?_,.str ?_,rfl⟩
     ·simp[N7,run_underlying hu,P9,dG (P:=P) (w:=C.w) (isSlice:=false) (cap:=s'.size) hlo hhi c1 c2 b0 b1 b2]
     ·rw[sU];rfl
  ·exact(F.ah e).elim
 ·rename_i el ty xs hu;simp only[cond_eq_ite]at e;split at e
  ·rename_i hz;simp only[MP]at hz;obtain⟨z1,z2⟩:=hz;have z1:=ML z1;split at e
   ·rename_i l u hc;obtain⟨rfl,c1,c2⟩:=fK hc;obtain⟨hb,e⟩:=F.aF e;obtain⟨b0,b1,b2⟩:=fA.1 hb;obtain rfl:=F.aj e;cases mx' with
    |some _=>exact hmx.elim
    |none=>
     cases hv with
     |lst q=>
      obtain⟨a,n,c,q1,q2,q3,q4⟩:=q;simp at q1;subst q1;have hrun:=run_sliceAt_slice (P:=P) (w:=C.w) hu z2 (a:=a) (dG (P:=P) (w:=C.w) (isSlice:=true) (len:=n) (cap:=c) hlo hhi c1 (by rw[q2];exact c2) b0 b1 (by omega));refine⟨_,hrun,.lst ?_,rfl⟩;refine⟨_,_,_,rfl,?_,by omega,?_⟩
      ·simp[cut];omega
      ·rcases q4 with⟨q4,KU⟩|⟨b,p,ds,rfl,q5,q6⟩
       ·left
        refine⟨?_,fun hn=> ?_⟩
        ·show cut (α:=ty.den) xs l u=[];rw[q4];simp[cut]
        ·cases a with
         |none=>rw[KU rfl];omega
         |some a=>split at hn<;>simp at hn
       ·by_cases hcl:c=l.toNat
        ·left
         refine⟨?_,fun hn=>by omega⟩;apply Ol
         simp[cut];omega
        ·right
         have hk:=Cat.cut (fun _ _ h=>Rep.length h) q5 l.toNat u.toNat;refine⟨b,p+l.toNat*ty.size,_,?_,hk,?_⟩
         ·rw[if_neg hcl];simp[MS,z1]
         ·rw[Og];have:=(q6.sub (l.toNat*ty.size) (u.toNat*ty.size-l.toNat*ty.size));exact this
   ·rename_i k l u hc;obtain⟨⟨kk,rfl⟩,c1,JM,rfl⟩:=nT hc;obtain⟨hb,e⟩:=F.aF e;simp only[MP,decide_eq_true_eq]at hb;obtain⟨b0,b1,b2⟩:=fA.1 hb.1;have b3:=hb.2;obtain rfl:=F.aj e;cases mx' with
    |none=>exact hmx.elim
    |some mv=>
     cases hi' with
     |none=>exact hhi.elim
     |some hv2=>
      have h1:VR C (.int JM u) hv2:=hhi;have h2:VR C (.int kk k) mv:=hmx;cases h1;cases h2;cases hv with
      |lst q=>
       obtain⟨a,n,c,q1,q2,q3,q4⟩:=q;simp at q1;subst q1;have hlen:xs.length=n:=q2.symm;refine⟨_,run_sliceAt_slice (P:=P) (w:=C.w) hu z2 (a:=a) (iK (P:=P) (w:=C.w) (len:=n) (cap:=c) hlo c1 rfl rfl b0 b1 b2 (by omega)),.lst ?_,rfl⟩;refine⟨_,_,_,rfl,?_,by omega,?_⟩
       ·simp[cut];omega
       ·rcases q4 with⟨q4,KU⟩|⟨b,p,ds,rfl,q5,q6⟩
        ·left
         refine⟨?_,fun hn=> ?_⟩
         ·show cut (α:=ty.den) xs l u=[];rw[q4];simp[cut]
         ·cases a with
          |none=>
           have:=KU rfl;omega
          |some a=>split at hn<;>simp at hn
        ·by_cases hcl:k.toNat=l.toNat
         ·left
          refine⟨?_,fun hn=>by omega⟩;apply Ol
          simp[cut];omega
         ·right
          have hk:=Cat.cut (fun _ _ h=>Rep.length h) q5 l.toNat u.toNat;refine⟨b,p+l.toNat*ty.size,_,?_,hk,?_⟩
          ·rw[if_neg hcl];simp[MS,z1]
          ·rw[Og];have:=(q6.sub (l.toNat*ty.size) (u.toNat*ty.size-l.toNat*ty.size));exact this
   ·exact(F.ah e).elim
  ·exact(F.ah e).elim
 ·rename_i el b ver ty hu;simp only[cond_eq_ite]at e;split at e
  ·rename_i hz;simp only[MP]at hz;obtain⟨z1,z2⟩:=hz;have z1:=ML z1;split at e
   ·rename_i n hn;cases hv with
    |own k1 k2 k3 k4=>
     simp only[kT]at hn;split at hn
     ·rename_i w y hr;obtain⟨ro,en,g1,g2,g3,g4,g5,g6,g7⟩:=I.rowLen hs hr;have g6:en.len=y.xs.length:=g6;have k1':=k1;rw[g3]at k1;obtain rfl:=MK k1;have k3:=k3 g4.symm;unfold dO at k3;simp at hn;split at e
      ·rename_i l u hc;obtain⟨rfl,c1,c2⟩:=fK hc;obtain⟨hb,e⟩:=F.aF e;obtain⟨b0,b1,b2⟩:=fA.1 hb;obtain rfl:=F.aj e;cases mx' with
       |some _=>exact hmx.elim
       |none=>
        split at k3
        ·rename_i c hcb;obtain⟨cap,rfl,k5,k6⟩:=k3;have hrun:=run_sliceAt_slice (P:=P) (w:=C.w) hu z2 (a:=some ⟨c,0,none⟩) (dG (P:=P) (w:=C.w) (isSlice:=true) (len:=en.len) (cap:=cap) hlo hhi c1 (by rw[g6,hn];exact c2) b0 b1 (by omega));refine⟨_,hrun,.slc k1' k2 (fun _=>⟨b0,by omega,by simp;omega,?_⟩) ⟨_,_,_,rfl⟩,rfl⟩;rw[hcb];refine⟨if cap=l.toNat then⟨c,0,none⟩else⟨c,l.toNat*P.cellsOf el,none⟩,cap-l.toNat,?_,fun hne=> ?_,by simp;omega,?_⟩
         ·have e1:u.toNat-l.toNat=(u-l).toNat:=by omega
          rw[e1];split<;>simp[MS]
         ·rw[if_neg (by omega),<-z1];simp
         ·rw[NP,show l.toNat+(cap-l.toNat)=cap by omega];exact k6
        ·rename_i hcb;obtain⟨k5,rfl⟩:=k3;have hl0:l=0:=by omega
         have hu0:u=0:=by omega
         subst hl0;subst hu0;have hrun:=run_sliceAt_slice (P:=P) (w:=C.w) hu z2 (a:=none) (dG (P:=P) (w:=C.w) (isSlice:=true) (len:=0) (cap:=0) hlo hhi c1 (by rw[<-hn,<-g6,k5]at c2;exact c2) b0 b1 (by omega));refine⟨_,hrun,.slc k1' k2 (fun _=>⟨b0,by omega,by simp,?_⟩) ⟨_,_,_,rfl⟩,rfl⟩;rw[hcb];exact⟨rfl,k5,rfl⟩
      ·rename_i k l u hc;obtain⟨⟨kk,rfl⟩,c1,JM,rfl⟩:=nT hc;obtain⟨hb,e⟩:=F.aF e;simp only[MP,decide_eq_true_eq]at hb;obtain⟨hb,hb2⟩:=hb;obtain⟨b0,b1,b2⟩:=fA.1 hb;obtain rfl:=F.aj e;cases mx' with
       |none=>exact hmx.elim
       |some mv=>
        cases hi' with
        |none=>exact hhi.elim
        |some hv=>
         have h1:VR C (.int JM u) hv:=hhi;have h2:VR C (.int kk k) mv:=hmx;cases h1;cases h2;split at k3
         ·obtain⟨cap,rfl,k5,k6⟩:=k3;exact⟨_,run_sliceAt_slice (P:=P) (w:=C.w) hu z2 (iK (len:=en.len) (cap:=cap) hlo c1 rfl rfl b0 b1 b2 (by omega)),.junk _,rfl⟩
         ·obtain⟨k5,rfl⟩:=k3;exact⟨_,run_sliceAt_slice (P:=P) (w:=C.w) hu z2 (iK (len:=0) (cap:=0) hlo c1 rfl rfl b0 b1 b2 (by omega)),.junk _,rfl⟩
      ·exact(F.ah e).elim
     ·simp at hn
   ·exact(F.ah e).elim
  ·exact(F.ah e).elim
 ·rename_i el b ver o m ty s n hu;simp only[cond_eq_ite]at e;split at e
  ·rename_i hz;simp only[MP]at hz;obtain⟨z1,z2⟩:=hz;have z1:=ML z1;have room: ∀q,Gz h' (.slc b ver o m ty s n)=some q-> ∃en,C.M b=some en/\en.ver=ver/\q=(m.getD en.len:Nat)-s:=by
    intro q hq;simp only[Gz]at hq;split at hq
    ·rename_i w ps sb hsb;simp at hq;unfold Hp.sub at hsb;split at hsb
     ·rename_i w' ps' hcell;split at hsb
      ·rename_i s' hs';simp only[cond_eq_ite]at hsb;split at hsb
       ·rename_i hsm;simp at hsb;obtain⟨rfl,rfl,rfl⟩:=hsb;obtain⟨ro,en,g1,g2,g3,g4,g5,g6,g7⟩:=I.block hs hcell;refine⟨en,g3,g4,?_⟩;cases hcb:en.cb with
        |none=>
         rw[hcb]at g7;obtain⟨t,g7⟩:=g7;have g7:ps'=[.row t []]:=g7;subst g7;have hnn:s'.n=none:=by
          unfold AM.cO AM.aJ at hs';split at hs'
          ·rename_i p tl hp;cases hb0:MQ o 0 with
           |true=>simp[hb0]at hp;obtain⟨rfl,_⟩:=hp;simp[jG]at hs';rw[<-hs']
           |false=>
            simp only[hb0,cond_false]at hp;cases hb1:NM o (AV.row t []).size<;>simp[hb1,AM.aJ]at hp
          ·simp at hs'
         have hl:=g6.sub hs' hnn;rw[hnn]at hsm;cases m with
         |none=>simp;omega
         |some k=>simp[eP]at hsm
        |some c=>
         rw[hcb]at g7;obtain⟨pre,p1,p2,p3⟩:=g7;obtain⟨s1,s2,s3,s4⟩:=p1.cO hs';rcases s1 with s1|s1
         ·rw[s1]at hsm;obtain rfl:=dW hsm;simp;omega
         ·have hl:=g6.sub hs' s1;rw[s1]at hsm;cases m with
          |none=>simp;omega
          |some k=>simp[eP]at hsm
       ·simp at hsb
      ·simp at hsb
     ·simp at hsb
    ·simp at hq
   split at e
   ·rename_i c l u hq hc;obtain⟨en,g3,g4,rfl⟩:=room _ hq;obtain⟨rfl,c1,c2⟩:=fK hc;obtain⟨hb,e⟩:=F.aF e;obtain⟨b0,b1,b2⟩:=fA.1 hb;obtain rfl:=F.aj e;cases mx' with
    |some _=>exact hmx.elim
    |none=>
     cases hv with
     |slc k1 k2 k3 k4=>
      have k1':=k1;rw[g3]at k1;obtain rfl:=MK k1;obtain⟨q1,q2,q3,q4⟩:=k3 g4.symm;split at q4
      ·rename_i hcb;obtain⟨rfl,q5,rfl⟩:=q4;simp at q3 b2;have hl0:l=0:=by omega
       have hu0:u=0:=by omega
       have hn0:n=0:=by omega
       subst hl0;subst hu0;subst hn0;have hrun:=run_sliceAt_slice (P:=P) (w:=C.w) hu z2 (a:=none) (dG (P:=P) (w:=C.w) (isSlice:=true) (len:=0) (cap:=0) hlo hhi c1 (by simpa using c2) b0 b1 (by omega));refine⟨_,hrun,.slc k1' k2 (fun _=>⟨by omega,by omega,by simp;omega,?_⟩) ⟨_,_,_,rfl⟩,rfl⟩;rw[hcb];exact⟨rfl,q5,rfl⟩
      ·rename_i c hcb;obtain⟨a,cap,rfl,q5,q6,q7⟩:=q4;have hrun:=run_sliceAt_slice (P:=P) (w:=C.w) hu z2 (a:=some a) (dG (P:=P) (w:=C.w) (isSlice:=true) (len:=n.toNat) (cap:=cap) hlo hhi c1 (by rw[show ((n.toNat:Nat):Int)=n by omega];exact c2) b0 b1 (by omega));refine⟨_,hrun,.slc k1' k2 (fun _=>⟨by omega,by omega,by omega,?_⟩) ⟨_,_,_,rfl⟩,rfl⟩;rw[hcb];refine⟨if cap=l.toNat then a else a.add (l.toNat*P.cellsOf el),cap-l.toNat,?_,fun hne=> ?_,by omega,?_⟩
       ·have e1:u.toNat-l.toNat=(u-l).toNat:=by omega
        rw[e1];split<;>simp
       ·have:=q5 (by omega);subst this;rw[if_neg (by omega),MS,<-z1,show (s+l).toNat=s.toNat+l.toNat by omega,Ot,MV]
       ·rw[show (s+l).toNat+(cap-l.toNat)=s.toNat+cap by omega];exact q7
   ·rename_i c k l u hq hc;obtain⟨en,g3,g4,rfl⟩:=room _ hq;obtain⟨⟨kk,rfl⟩,c1,JM,rfl⟩:=nT hc;obtain⟨hb,e⟩:=F.aF e;simp only[MP,decide_eq_true_eq]at hb;obtain⟨hb,hb2⟩:=hb;obtain⟨b0,b1,b2⟩:=fA.1 hb;obtain rfl:=F.aj e;cases mx' with
    |none=>exact hmx.elim
    |some mv=>
     cases hi' with
     |none=>exact hhi.elim
     |some hv'=>
      have h1:VR C (.int JM u) hv':=hhi;have h2:VR C (.int kk k) mv:=hmx;cases h1;cases h2;cases hv with
      |slc k1 k2 k3 k4=>
       rw[g3]at k1;obtain rfl:=MK k1;obtain⟨q1,q2,q3,q4⟩:=k3 g4.symm;split at q4
       ·obtain⟨rfl,q5,rfl⟩:=q4;simp at q3 hb2;exact⟨_,run_sliceAt_slice (P:=P) (w:=C.w) hu z2 (iK (len:=0) (cap:=0) hlo c1 rfl rfl b0 b1 b2 (by omega)),.junk _,rfl⟩
       ·obtain⟨a,cap,rfl,q5,q6,q7⟩:=q4;exact⟨_,run_sliceAt_slice (P:=P) (w:=C.w) hu z2 (iK (len:=n.toNat) (cap:=cap) hlo c1 rfl rfl b0 b1 b2 (by omega)),.junk _,rfl⟩
   ·exact(F.ah e).elim
  ·exact(F.ah e).elim
 ·rename_i m el b ver o hu;split at e
  ·rename_i ty l u hty hc;obtain⟨rfl,c1,c2⟩:=fK hc;split at e
   ·rename_i w ps sb hsb;simp only[cond_eq_ite]at e;split at e
    ·rename_i hf;simp only[MP]at hf;obtain⟨⟨f1,f2⟩,f3⟩:=hf;have f1:=ML f1;have f2:=ML f2;obtain⟨ii,hii⟩:=fQ f3;obtain⟨hb,e⟩:=F.aF e;obtain⟨b0,b1,b2⟩:=fA.1 hb;obtain rfl:=F.aj e;obtain⟨hcell,hs',hsm⟩:=Hp.qm hsb;obtain⟨ro,en,g1,g2,g3,g4,g5,g6,g7⟩:=I.block hs hcell;cases mx' with
     |some _=>exact hmx.elim
     |none=>
      cases hv with
      |ptr k1 k2 k3 k4=>
       have k1':=k1;rw[g3]at k1;obtain rfl:=MK k1;obtain⟨c,q1,rfl,_⟩:=k3 g4.symm;rw[q1]at g7;obtain⟨pre,p1,p2,p3⟩:=g7;obtain⟨s1,s2,s3,s4⟩:=p1.cO hs';have hlen:sb.xs.length=m:=by
        rcases s1 with s1|s1
        ·rw[s1]at hsm;have:=dW hsm;simpa using this.symm
        ·rw[s1]at hsm;simp[eP]at hsm
       have hb:=dG (P:=P) (w:=C.w) (isSlice:=false) (len:=m) (cap:=m) hlo hhi c1 c2 b0 b1 b2;refine⟨.slice (some (if m=l.toNat then⟨c,o,none⟩else⟨c,o+l.toNat*P.cellsOf el,none⟩)) (u.toNat-l.toNat) (m-l.toNat),?_,.slc k1' k2 (fun _=>⟨b0,by omega,by simp;omega,?_⟩) ⟨_,_,_,rfl⟩,rfl⟩
       ·simp only[N7,MO,run_underlying hu,MN,NH,NC,hb,run_sizeOf C.w hii,aG,Ns,MS]
       ·rw[q1];refine⟨_,_,by rw[show u.toNat-l.toNat=(u-l).toNat by omega],fun hne=> ?_,by simp;omega,?_⟩
        ·rw[if_neg (by omega),f2]
        ·intro j hj;rw[show l.toNat+(m-l.toNat)=m by omega,<-f1,<-hlen]at hj;have s2:o+sb.xs.length*sb.t.size<=pre.length:=s2;have:=p2 j pre[j] (by rw[Nj (by omega)]);simp only[NP]at this;rw[this];rfl
    ·exact(F.ah e).elim
   ·exact(F.ah e).elim
  ·exact(F.ah e).elim
 ·rename_i m el m' ty xs hu;simp only[cond_eq_ite]at e;split at e
  ·rename_i hf;simp only[MP]at hf;obtain⟨⟨f1,f2⟩,f3⟩:=hf;have f1:=ML f1;subst f1;have f2:=ML f2;obtain⟨ii,hii⟩:=fQ f3;split at e
   ·rename_i l u hc;obtain⟨rfl,c1,c2⟩:=fK hc;obtain⟨hb,e⟩:=F.aF e;obtain⟨b0,b1,b2⟩:=fA.1 hb;obtain rfl:=F.aj e;cases mx' with
    |some _=>exact hmx.elim
    |none=>
     cases hv with
     | @rp _ _ _ bb p ds k1 k2=>
      obtain⟨hlen,qL⟩:=k1;have hlen:M_ (α:=ty.den) xs=m':=hlen;have JA:M_ (α:=ty.den) (cut (α:=ty.den) xs l u)=u.toNat-l.toNat:=Hq (α:=ty.den) xs (by show u.toNat<=M_ (α:=ty.den) xs;rw[hlen];omega);have hb:=dG (P:=P) (w:=C.w) (isSlice:=false) (len:=m') (cap:=m') hlo hhi c1 c2 b0 b1 b2;refine⟨.slice (some (if m'=l.toNat then⟨bb,p,none⟩else⟨bb,p+l.toNat*P.cellsOf el,none⟩)) (u.toNat-l.toNat) (m'-l.toNat),?_,.lst ?_,rfl⟩
      ·simp only[N7,MO,run_underlying hu,MN,NH,NC,hb,run_sizeOf C.w hii,Ns,MS]
      ·refine⟨_,_,_,rfl,?_,by omega,?_⟩
       ·exact JA.symm
       ·by_cases hcl:m'=l.toNat
        ·left
         refine⟨?_,fun hn=>by simp at hn⟩;exact List.length_eq_zero_iff.1 (JA.trans (by omega))
        ·right
         have hk:=Cat.cut (fun _ _ h=>Rep.length h) qL l.toNat u.toNat;refine⟨bb,p+l.toNat*ty.size,_,?_,hk,?_⟩
         ·rw[if_neg hcl,f2]
         ·rw[Og];exact k2.sub (l.toNat*ty.size) (u.toNat*ty.size-l.toNat*ty.size)
   ·exact(F.ah e).elim
  ·exact(F.ah e).elim
 ·rename_i el hu;simp only[cond_eq_ite]at e;split at e
  ·rename_i z2;split at e
   ·rename_i l u hc;obtain⟨rfl,c1,c2⟩:=fK hc;obtain⟨hb,e⟩:=F.aF e;obtain⟨b0,b1,b2⟩:=fA.1 hb;obtain rfl:=F.aj e;cases mx' with
    |some _=>exact hmx.elim
    |none=>
     cases hv with
     |aC=>
      have hrun:=run_sliceAt_slice (P:=P) (w:=C.w) hu z2 (a:=none) (dG (P:=P) (w:=C.w) (isSlice:=true) (len:=0) (cap:=0) hlo hhi c1 c2 b0 b1 b2);have hl:l.toNat=0:=by omega
      have hu0:u.toNat=0:=by omega
      refine⟨.slice none 0 0,?_,.aC,rfl⟩;rw[hrun,hl,hu0];rfl
   ·exact(F.ah e).elim
  ·exact(F.ah e).elim
 ·exact(F.ah e).elim
end
end Go.AM
end
