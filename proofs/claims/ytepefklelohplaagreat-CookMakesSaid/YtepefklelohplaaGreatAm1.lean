import Derived.Calls
import Derived.KernelRfl
import Derived.Below
import Derived.Deep.MidRow
import Derived.Laws.Entries
import Derived.Laws.Strings
import Derived.Laws.StructEq

/-! An abstract machine over plain data, shown to be sound for the given program model: what it tells is what the call does. -/
set_option linter.unusedSimpArgs false
set_option linter.unusedVariables false

section
namespace Go.AM
inductive Ty where
 | int (k : IntKind) | bool | str
 | lst (t : Ty) | arr (n : Nat) (t : Ty)
 | unit | pair (a b : Ty)
 deriving DecidableEq
def Ty.den : Ty → Type
 | .int _ => Int
 | .bool => Bool
 | .str => List Int
 | .lst t => List t.den
 | .arr _ t => List t.den
 | .unit => Unit
 | .pair a b => a.den × b.den
def Ty.size : Ty → Nat
 | .arr n t => n * t.size
 | .unit => 0
 | .pair a b => a.size + b.size
 | _ => 1
def Ty.zero : (t : Ty) → t.den
 | .int _ => (0 : Int)
 | .bool => false
 | .str => ([] : List Int)
 | .lst t => ([] : List t.den)
 | .arr n t => (List.replicate n t.zero : List t.den)
 | .unit => ()
 | .pair a b => (a.zero, b.zero)
def Ty.flat : Ty → Bool
 | .lst _ => false
 | .arr _ t => t.flat
 | .pair a b => a.flat && b.flat
 | _ => true
def Ty.st : List Ty → Ty
 | [] => .unit
 | [a] => a
 | a :: b :: r => .pair a (Ty.st (b :: r))
def rd {α : Type} (d : α) (xs : List α) (i : Int) : α := xs.getD i.toNat d
def Ty.eqB : (t : Ty) → t.den → t.den → Bool
 | .int _, x, y => @decide (@Eq Int x y) (Int.instDecidableEq x y)
 | .bool, x, y => @BEq.beq Bool _ x y
 | .str, x, y => @decide (@Eq (List Int) x y) (instDecidableEqList x y)
 | .lst _, _, _ => false
 | .arr n t, x, y => (List.range n).all fun i => t.eqB (rd t.zero x i) (rd t.zero y i)
 | .unit, _, _ => true
 | .pair a b, x, y => a.eqB x.1 y.1 && b.eqB x.2 y.2
def Ty.eqable : Ty → Bool
 | .lst _ => false
 | .arr _ t => t.eqable
 | .pair a b => a.eqable && b.eqable
 | _ => true
inductive PStep where
 | ix (i : Int) (z : Nat) (m : Option Nat)
 | off (d : Nat)
inductive AV where
 | junk
 | int (k : IntKind) (n : Int)
 | bool (b : Bool)
 | str (s : List Int)
 | lst (t : Ty) (xs : List t.den)
 | nlst (t : Ty) (xs : List t.den)
 | arr (n : Nat) (t : Ty) (xs : List t.den)
 | row (t : Ty) (xs : List t.den)
 | rp (t : Ty) (x : t.den) (o : Nat)
 | ptr (b v o : Nat) (path : List PStep)
 | own (b v : Nat) (t : Ty)
 | slc (b v o : Nat) (m : Option Nat) (t : Ty) (i n : Int)
 | nilSlc | nilPtr | nilFn | nilIface
 | fn (f : Fn) (first cap : List AV)
 | iface (t : TypeId) (v : AV)
 | agg (ps : List AV)
 | tup (vs : List AV)
def AV.size : AV → Nat
 | .arr n t _ => n * t.size
 | .row t xs => xs.length * t.size
 | _ => 1
def AV.parts : AV → List AV
 | .agg ps => ps
 | v => [v]
def inj : (t : Ty) → t.den → List AV
 | .int k, x => [.int k x]
 | .bool, x => [.bool x]
 | .str, x => [.str x]
 | .lst t, x => [.lst t x]
 | .arr n t, x => [.arr n t x]
 | .unit, _ => []
 | .pair a b, x => inj a x.1 ++ inj b x.2
def pack : (t : Ty) → List AV → Option (t.den × List AV)
 | .int k, .int k' n :: r => if k' = k then some (n, r) else none
 | .bool, .bool b :: r => some (b, r)
 | .str, .str s :: r => some (s, r)
 | .lst t, .lst t' xs :: r => if h : t' = t then some ((h ▸ xs : List t.den), r) else none
 | .lst t, .nilSlc :: r => some (([] : List t.den), r)
 | .arr n t, .arr n' t' xs :: r => if h : t' = t then (if n' = n then some ((h ▸ xs : List t.den), r) else none) else none
 | .unit, r => some ((), r)
 | .pair a b, r => match pack a r with
  | some (x, r') => match pack b r' with
   | some (y, r'') => some ((x, y), r'')
   | none => none
  | none => none
 | _, _ => none
def packAll (t : Ty) (ps : List AV) : Option t.den :=
 match pack t ps with
 | some (x, []) => some x
 | _ => none
inductive F (β : Type) : Type 1 where
 | ret (b : β)
 | fail
 | guard (c : Bool) (k : F β)
 | ite (c : Bool) (a b : F β)
 | call {γ : Type} (d : γ) (x : Option γ) (k : γ → F β)
def F.bind {β δ : Type} : F β → (β → F δ) → F δ
 | .ret b, f => f b
 | .fail, _ => .fail
 | .guard c k, f => .guard c (k.bind f)
 | .ite c a b, f => .ite c (a.bind f) (b.bind f)
 | .call d x k, f => .call d x fun g => (k g).bind f
def F.run {β α : Type} : F β → (β → Option α) → Option α
 | .ret b, K => K b
 | .fail, _ => none
 | .guard c k, K => bif c then k.run K else none
 | .ite c a b, K => bif c then a.run K else b.run K
 | .call _ x k, K => x.bind fun g => (k g).run K
inductive Dir where | l | r deriving DecidableEq
abbrev Path := List Dir
inductive Jump where
 | ret
 | exit (id : Nat)
 deriving DecidableEq
inductive AItem where
 | code (p : Path)
 | inBlock (id : Nat)
 | inLoop (p : Path)
 | inScope (p : Path)
 | inRegion (p : Path) (is : List Nat)
 | inRange (l : Nat)
 | endRange (l : Nat)
 | beginRound
 | jmp (j : Jump)
 deriving DecidableEq
abbrev Env := List (Nat × AV)
def Env.get : Env → Nat → AV
 | [], _ => .junk
 | (i, v) :: r, t => bif Nat.beq i t then v else Env.get r t
inductive AObj where
 | cells (ver : Nat) (ro : Bool) (ps : List AV)
 | loop (st : LoopState) (pend : Option Jump) (fn : FuncId) (env : Env) (params : List Nat) (p : Path) (defs : Nat)
 | deferred (taken : Bool)
abbrev Hp := List (Nat × AObj)
def Hp.get : Hp → Nat → Option AObj
 | [], _ => none
 | (i, v) :: r, b => bif Nat.beq i b then some v else Hp.get r b
structure May where
 t : Nat
 tg : Nat
 want : Bool
 g : Bool
 v : AV
inductive ADef where
 | mark (b : Nat)
 | call (f : FuncId) (args : List AV)
def ADef.key : ADef → Bool × Nat × Nat
 | .mark b => (false, b, 0)
 | .call f args => (true, f, args.length)
def ADef.vals : ADef → List AV
 | .mark _ => []
 | .call _ args => args
structure AFrame where
 fn : FuncId
 env : Env
 mays : List May
 items : List AItem
 round : Option Nat := none
 marks : List ADef := []
 un : Option (List (AV × Bool)) := none
 dk : Bool := false
def ioName : Nat := 1000000
structure St where
 frames : List AFrame
 hp : Hp
 nx : Nat
structure Orc where
 γ : Type
 dflt : γ
 x : Option γ
 enc : γ → AV × List (Nat × AObj)
def child : Code → Dir → Code
 | .seq a _, .l => a
 | .seq _ b, .r => b
 | .cond _ a _, .l => a
 | .cond _ _ b, .r => b
 | .block _ c, _ => c
 | .loop c, _ => c
 | .scope c, _ => c
 | .rangeFunc _ _ a _, .l => a
 | .rangeFunc _ _ _ b, .r => b
 | _, _ => .skip
def bodyOf (P : Program) (f : FuncId) : Code :=
 match P.funcs[f]? with
 | some fn => (match fn.body with | some c => c | none => .skip)
 | none => .skip
def codeAt (P : Program) (f : FuncId) (p : Path) : Code := p.foldl child (bodyOf P f)
def offsOk : List Field → List Ty → Nat → Bool
 | [], [], _ => true
 | f :: fs, t :: ts, o => Nat.beq f.offset o && offsOk fs ts (o + t.size)
 | _, _, _ => false
def sized (P : Program) (t : TypeId) (ty : Ty) : Option Ty := bif Nat.beq (P.cellsOf t) ty.size then some ty else none
def allSome {α β : Type} (f : α → Option β) : List α → Option (List β)
 | [] => some []
 | a :: r => match f a with
  | some b => (match allSome f r with | some l => some (b :: l) | none => none)
  | none => none
def tyOf (P : Program) : Nat → TypeId → Option Ty
 | 0, _ => none
 | n + 1, t => match P.underlying t with
  | some .bool => sized P t .bool
  | some (.int k) => sized P t (.int k)
  | some .string => sized P t .str
  | some (.slice e) => (match tyOf P n e with | some ty => sized P t (.lst ty) | none => none)
  | some (.array m e) => (match tyOf P n e with | some ty => sized P t (.arr m ty) | none => none)
  | some (.struct fs) => (match allSome (fun f => tyOf P n f.type) fs.toList with
   | some l => bif offsOk fs.toList l 0 then sized P t (Ty.st l) else none
   | none => none)
  | _ => none
def tyD : Nat := 12
def zeroParts (P : Program) : Nat → TypeId → Option (List AV)
 | 0, _ => none
 | n + 1, t => match P.underlying t with
  | some .bool => some [.bool false]
  | some (.int k) => some [.int k 0]
  | some .string => some [.str []]
  | some (.slice _) => some [.nilSlc]
  | some (.pointer _) => some [.nilPtr]
  | some (.func ..) => some [.nilFn]
  | some (.interface _) => some [.nilIface]
  | some (.array m e) => (match tyOf P tyD e with
   | some ty => some [.arr m ty (List.replicate m ty.zero)]
   | none => (match zeroParts P n e with | some l => some (List.replicate m l).flatten | none => none))
  | some (.struct fs) => (match fs.toList.mapM fun f => zeroParts P n f.type with | some l => some l.flatten | none => none)
  | _ => none
def AV.scal : AV → Bool
 | .arr .. | .row .. | .agg _ | .tup _ => false
 | _ => true
def asArr : List AV → AV
 | [.arr n t xs] => .arr n t xs
 | _ => .junk
def asScal : List AV → AV
 | [v] => bif v.scal then v else .junk
 | _ => .junk
def mkVal (P : Program) (t : TypeId) (ps : List AV) : AV :=
 match P.underlying t with
 | some (.struct _) => .agg ps
 | some (.array _ e) => (match tyOf P tyD e with
  | some _ => asArr ps
  | none => .agg ps)
 | _ => asScal ps
def inRangeB (k : IntKind) (n : Int) : Bool := decide (k.min ≤ n) && decide (n ≤ k.max)
def bytesOf (s : ByteArray) : List Int := s.data.toList.map fun b => (b.toNat : Int)
def ofValue : Value → AV
 | .bool b => .bool b
 | .int k n => bif inRangeB k n then .int k n else .junk
 | .string s => .str (bytesOf s)
 | .pointer none => .nilPtr
 | .slice none 0 0 => .nilSlc
 | .nilFunc => .nilFn
 | .nilIface => .nilIface
 | .func (.func f) a b => bif a.isEmpty && b.isEmpty then .fn (.func f) [] [] else .junk
 | _ => .junk
def eatList {α : Type} (f : α → List Value → Option (List Value)) : List α → List Value → Option (List Value)
 | [], vs => some vs
 | x :: r, vs => match f x vs with | some ws => eatList f r ws | none => none
def eatNil (e : Bool) : List Value → Option (List Value)
 | .slice none 0 0 :: vs => bif e then some vs else none
 | _ => none
def eat : (t : Ty) → t.den → List Value → Option (List Value)
 | .int k, x, .int k' n :: vs => bif decide (k' = k) && @decide (@Eq Int n x) (Int.instDecidableEq n x) && inRangeB k x then some vs else none
 | .bool, x, .bool b :: vs => bif @BEq.beq Bool _ b x then some vs else none
 | .str, x, .string s :: vs => bif @decide (@Eq (List Int) (bytesOf s) x) (instDecidableEqList (bytesOf s) x) then some vs else none
 | .lst t, xs, vs => eatNil (List.isEmpty (α := t.den) xs) vs
 | .arr n t, xs, vs => bif Nat.beq (List.length (α := t.den) xs) n then eatList (eat t) xs vs else none
 | .unit, _, vs => some vs
 | .pair a b, x, vs => (match eat a x.1 vs with | some ws => eat b x.2 ws | none => none)
 | _, _, _ => none
def isNilS : Value → Bool
 | .slice none 0 0 => true
 | _ => false
def isNilP : Value → Bool
 | .pointer none => true
 | _ => false
def relB : List AV → List Value → Bool
 | [], [] => true
 | .int k n :: r, .int k' n' :: vs => decide (k' = k) && decide (n' = n) && inRangeB k n && relB r vs
 | .bool b :: r, .bool b' :: vs => (b' == b) && relB r vs
 | .str s :: r, .string s' :: vs => decide (bytesOf s' = s) && relB r vs
 | .nilSlc :: r, v :: vs => isNilS v && relB r vs
 | .nilPtr :: r, v :: vs => isNilP v && relB r vs
 | .nilFn :: r, .nilFunc :: vs => relB r vs
 | .nilIface :: r, .nilIface :: vs => relB r vs
 | .arr n t xs :: r, vs => (match eat (.arr n t) xs vs with | some ws => relB r ws | none => false)
 | _, _ => false
def zeroOf (P : Program) (t : TypeId) : Option (List AV) :=
 match P.info? t with
 | some i => (match i.zero with
  | some v => (match zeroParts P tyD t with
   | some ps => bif relB ps v.cells.toList then some ps else none
   | none => none)
  | none => none)
 | none => none
def partsAt : List AV → Nat → List AV
 | [], _ => []
 | p :: r, o => bif Nat.beq o 0 then p :: r else bif Nat.blt o p.size then [] else partsAt r (o - p.size)
def takeCells : List AV → Nat → Option (List AV)
 | ps, 0 => (match ps with | _ => some [])
 | [], _ + 1 => none
 | p :: r, n + 1 => bif Nat.ble p.size (n + 1) then (match takeCells r (n + 1 - p.size) with | some l => some (p :: l) | none => none) else none
def putCells : List AV → Nat → List AV → Nat → Option (List AV)   -- at cell o, 'new' in place of n cells
 | ps, 0, new, n => match takeCells ps n with
  | some l => some (new ++ ps.drop l.length)
  | none => none
 | [], _ + 1, _, _ => none
 | p :: r, o + 1, new, n => bif Nat.ble p.size (o + 1) then (match putCells r (o + 1 - p.size) new n with | some l => some (p :: l) | none => none) else none
def partsSize (ps : List AV) : Nat := (ps.map AV.size).foldl (· + ·) 0
structure Sub (α : Type) where
 n : Option Nat
 t : Ty
 xs : List t.den
 put : List t.den → α
def sameM : Option Nat → Option Nat → Bool
 | none, none => true
 | some a, some b => Nat.beq a b
 | _, _ => false
def subAt : (t : Ty) → t.den → Nat → Option (Sub t.den)
 | .arr n t, xs, 0 => some ⟨some n, t, xs, fun ys => ys⟩
 | .pair a b, x, o => bif Nat.blt o a.size
   then (match subAt a x.1 o with | some s => some ⟨s.n, s.t, s.xs, fun ys => (s.put ys, x.2)⟩ | none => none)
   else (match subAt b x.2 (o - a.size) with | some s => some ⟨s.n, s.t, s.xs, fun ys => (x.1, s.put ys)⟩ | none => none)
 | _, _, _ => none
def getPath : List PStep → (t : Ty) → t.den → Nat → Nat → Option (List AV)
 | [], t, x, o, n => takeCells (partsAt (inj t x) o) n
 | .off d :: r, t, x, o, n => getPath r t x (o + d) n
 | .ix i z m :: r, t, x, o, n => match subAt t x o with
  | some s => bif sameM s.n m && Nat.beq s.t.size z then getPath r s.t (rd s.t.zero s.xs i) 0 n else none
  | none => none
def setPath : List PStep → (t : Ty) → t.den → Nat → List AV → Nat → Option t.den
 | [], t, x, o, new, n => (match putCells (inj t x) o new n with | some ps => packAll t ps | none => none)
 | .off d :: r, t, x, o, new, n => setPath r t x (o + d) new n
 | .ix i z m :: r, t, x, o, new, n => match subAt t x o with
  | some s => bif sameM s.n m && Nat.beq s.t.size z then (match setPath r s.t (rd s.t.zero s.xs i) 0 new n with
   | some y => some (s.put (s.xs.set i.toNat y))
   | none => none) else none
  | none => none
end Go.AM
end
section
namespace Go.AM
def mx (x y : Int) : Int := if y > x then y else x
def mn (x y : Int) : Int := if y < x then y else x
def strLt : List Int → List Int → Bool
 | _, [] => false
 | [], _ :: _ => true
 | a :: x, b :: y => decide (a < b) || (decide (a = b) && strLt x y)
def bits2 (op : BinOp) (k : IntKind) (x y : Int) : Int :=
 match op with
 | .and => k.wrap (BitVec.ofInt k.bits x &&& BitVec.ofInt k.bits y).toNat
 | .or => k.wrap (BitVec.ofInt k.bits x ||| BitVec.ofInt k.bits y).toNat
 | .xor => k.wrap (BitVec.ofInt k.bits x ^^^ BitVec.ofInt k.bits y).toNat
 | _ => k.wrap (BitVec.ofInt k.bits x &&& ~~~ BitVec.ofInt k.bits y).toNat
def iand := bits2 .and
def ior := bits2 .or
def ixor := bits2 .xor
def ianot := bits2 .andNot
def ishl (k : IntKind) (x y : Int) : Int := k.wrap (x * 2 ^ min y.toNat k.bits)
def ishr (k : IntKind) (x y : Int) : Int := x.fdiv (2 ^ min y.toNat k.bits)
abbrev Upd := Hp
abbrev R1 := F (AV × Upd)
def one (v : AV) : R1 := .ret (v, [])
def okD (o : Option AV) : R1 := match o with | some v => one v | none => .fail
def intOp (op : BinOp) (k : IntKind) (x y : Int) : R1 :=
 match op with
 | .add => one (.int k (k.wrap (x + y)))
 | .sub => one (.int k (k.wrap (x - y)))
 | .mul => one (.int k (k.wrap (x * y)))
 | .quo => .guard (!decide (y = 0)) (one (.int k (k.wrap (x.tdiv y))))
 | .rem => .guard (!decide (y = 0)) (one (.int k (x.tmod y)))
 | .and => one (.int k (iand k x y))
 | .or => one (.int k (ior k x y))
 | .xor => one (.int k (ixor k x y))
 | .andNot => one (.int k (ianot k x y))
 | .eql => one (.bool (decide (x = y)))
 | .neq => one (.bool (!decide (x = y)))
 | .lss => one (.bool (decide (x < y)))
 | .leq => one (.bool (decide (x ≤ y)))
 | .gtr => one (.bool (decide (x > y)))
 | .geq => one (.bool (decide (x ≥ y)))
 | _ => .fail
def maxStr : Nat := 9223372036854775807
def strOp (op : BinOp) (x y : List Int) : R1 :=
 match op with
 | .add => .guard (decide (x.length + y.length ≤ maxStr)) (one (.str (x ++ y)))
 | .eql => one (.bool (decide (x = y)))
 | .neq => one (.bool (!decide (x = y)))
 | .lss => one (.bool (strLt x y))
 | .leq => one (.bool (strLt x y || decide (x = y)))
 | .gtr => one (.bool (!(strLt x y || decide (x = y))))
 | .geq => one (.bool (!strLt x y))
 | _ => .fail
def eqT (P : Program) : Nat → TypeId → Bool
 | 0, _ => false
 | n + 1, t => match P.underlying t with
  | some .bool => true
  | some (.int _) => true
  | some .string => true
  | some (.struct fs) => !P.stoodInHeld t && fs.toList.all fun f => !(f.name == "_") && eqT P n f.type
  | some (.array _ e) => eqT P n e
  | _ => false
def rowT (P : Program) (t : TypeId) : Bool :=
 match P.underlying t with
 | some (.struct _) => true
 | some (.array _ _) => true
 | _ => false
def AV.isAgg : AV → Bool
 | .agg _ => true
 | .arr .. => true
 | _ => false
def eqNil (P : Program) (t : TypeId) (x y : AV) : Option Bool :=
 match P.underlying t with
 | some (.slice _) => (match x, y with | .nilSlc, .nilSlc => some true | .nlst .., .nilSlc => some false | _, _ => none)
 | some (.func ..) => (match x, y with | .nilFn, .nilFn => some true | .fn .., .nilFn => some false | _, _ => none)
 | some (.pointer _) => (match x, y with | .nilPtr, .nilPtr => some true | .rp .., .nilPtr => some false | _, _ => none)
 | some (.interface _) => (match x, y with | .iface .., .nilIface => some false | .nilIface, .iface .. => some false | _, _ => none)
 | _ => none
def eqA (P : Program) (t : TypeId) (x y : AV) : Option Bool :=
 match eqNil P t x y with
 | some b => some b
 | none => match tyOf P tyD t with
  | some ty => bif eqT P tyD t && !P.eqGuardType P.depth t && (x.isAgg == rowT P t) && (y.isAgg == rowT P t) then (match packAll ty x.parts, packAll ty y.parts with
   | some a, some b => some (ty.eqB a b)
   | _, _ => none) else none
  | none => none
def binA (P : Program) (op : BinOp) (t : TypeId) (x y : AV) : R1 :=
 match op, x, y with
 | .shl, .int k a, .int _ b => .guard (decide (0 ≤ b)) (one (.int k (ishl k a b)))
 | .shr, .int k a, .int _ b => .guard (decide (0 ≤ b)) (one (.int k (ishr k a b)))
 | op, .int k a, .int k' b => bif decide (k = k') then intOp op k a b else .fail
 | op, .str a, .str b => strOp op a b
 | .eql, x, y => (match eqA P t x y with | some b => one (.bool b) | none => .fail)
 | .neq, x, y => (match eqA P t x y with | some b => one (.bool (!b)) | none => .fail)
 | _, _, _ => .fail
def unA (op : UnOp) (x : AV) : R1 :=
 match op, x with
 | .not, .bool b => one (.bool (!b))
 | .neg, .int k n => one (.int k (k.wrap (0 - n)))
 | .xor, .int k n => one (.int k (ixor k (if k.signed then -1 else k.max) n))
 | _, _ => .fail
def subPart : AV → Option (Sub AV)
 | .arr n t xs => some ⟨some n, t, xs, fun ys => .arr n t ys⟩
 | .row t xs => some ⟨none, t, xs, fun ys => .row t ys⟩
 | _ => none
def subOf (ps : List AV) (o : Nat) : Option (Sub AV) :=
 match partsAt ps o with
 | p :: _ => subPart p
 | [] => none
def objGet : List AV → Nat → List PStep → Nat → Option (List AV)
 | ps, o, [], n => takeCells (partsAt ps o) n
 | ps, o, .off d :: r, n => objGet ps (o + d) r n
 | ps, o, .ix i z m :: r, n => match subOf ps o with
  | some s => bif sameM s.n m && Nat.beq s.t.size z then getPath r s.t (rd s.t.zero s.xs i) 0 n else none
  | none => none
def putAt : List AV → Nat → AV → List AV
 | [], _, _ => []
 | p :: r, o, q => bif Nat.beq o 0 then q :: r else p :: putAt r (o - p.size) q
def noRow : AV → Bool
 | .row .. => false
 | _ => true
def objPut : List AV → Nat → List PStep → List AV → Nat → Option (List AV)
 | ps, o, [], new, n => (match putCells ps o new n with | some l => bif l.all noRow then some l else none | none => none)
 | ps, o, .off d :: r, new, n => objPut ps (o + d) r new n
 | ps, o, .ix i z m :: r, new, n => match subOf ps o with
  | some s => bif sameM s.n m && Nat.beq s.t.size z then (match setPath r s.t (rd s.t.zero s.xs i) 0 new n with
    | some y => some (putAt ps o (s.put (s.xs.set i.toNat y)))
    | none => none) else none
  | none => none
def Hp.cells (h : Hp) (b v : Nat) : Option (Bool × List AV) :=
 match h.get b with
 | some (.cells ver ro ps) => bif Nat.beq ver v then some (!ro, ps) else none
 | _ => none
def okSize (P : Program) (t : TypeId) : Bool := match P.underlying t with
 | some (.struct _) => true
 | some (.array _ _) => true
 | some _ => Nat.beq (P.cellsOf t) 1
 | none => false
def Hp.fresh (h : Hp) (b v : Nat) : Bool := match h.cells b v with | some _ => true | none => false
def loadA (P : Program) (h : Hp) (t : TypeId) (a : AV) : R1 :=
 match a with
 | .ptr b v o path => (match h.cells b v with
  | some (_, ps) => (match objGet ps o path (P.cellsOf t) with
   | some l => bif okSize P t then one (mkVal P t l) else .fail
   | none => .fail)
  | none => .fail)
 | .rp ty x o => (match takeCells (partsAt (inj ty x) o) (P.cellsOf t) with
  | some l => bif okSize P t then one (mkVal P t l) else .fail
  | none => .fail)
 | _ => .fail
def storable : AV → Bool
 | .junk => false
 | .tup _ => false
 | .row .. => false
 | _ => true
def storeA (P : Program) (h : Hp) (t : TypeId) (a x : AV) : R1 :=
 match a with
 | .ptr b v o path => (match h.cells b v with
  | some (w, ps) => bif w && storable x && Nat.beq (partsSize x.parts) (P.cellsOf t) && okSize P t then (match objPut ps o path x.parts (P.cellsOf t) with
   | some l => .ret (.junk, [(b, .cells v false l)])
   | none => .fail) else .fail
  | none => .fail)
 | _ => .fail
def newA (nx : Nat) (ps : List AV) : R1 := .ret (.ptr nx 0 0 [], [(nx, .cells 0 false ps)])
def fieldOf (P : Program) (t : TypeId) (f : Nat) : Option Field :=
 match P.underlying t with
 | some (.struct fs) => fs[f]?
 | _ => none
def zeroD (P : Program) (e : TypeId) (ty : Ty) : Option ty.den :=
 match zeroOf P e with
 | some ps => packAll ty ps
 | none => none
def buildRow (ty : Ty) : List (Nat × AV) → List ty.den → Option (List ty.den)
 | [], xs => some xs
 | (i, v) :: r, xs => match packAll ty v.parts with
  | some x => bif Nat.blt i (List.length (α := ty.den) xs) then buildRow ty r (xs.set i x) else none
  | none => none
def buildParts (off : Nat → Option (Nat × Nat)) : List (Nat × AV) → List AV → Option (List AV)
 | [], ps => some ps
 | (i, v) :: r, ps => match off i with
  | some (o, n) => bif storable v && Nat.beq (partsSize v.parts) n then (match putCells ps o v.parts n with | some qs => buildParts off r qs | none => none) else none
  | none => none
def buildA (P : Program) (t : TypeId) (l : List (Nat × AV)) : R1 :=
 match P.underlying t with
 | some (.struct fs) => (match bif fs.toList.all (fun f => (P.info? f.type).isSome) then zeroOf P t else none with
  | some z => (match buildParts (fun i => match fs[i]? with | some f => some (f.offset, P.cellsOf f.type) | none => none) l z with
   | some ps => one (.agg ps)
   | none => .fail)
  | none => .fail)
 | some (.array m e) => (match tyOf P tyD e with
  | some ty => (match zeroD P t (.arr m ty) with
   | some z => (match buildRow ty l z with | some xs => one (.arr m ty xs) | none => .fail)
   | none => .fail)
  | none => (match bif (P.info? e).isSome then zeroOf P t else none with
   | some z => (match buildParts (fun i => some (i * P.cellsOf e, P.cellsOf e)) l z with | some ps => one (.agg ps) | none => .fail)
   | none => .fail))
 | _ => .fail
def buildSliceA (P : Program) (nx : Nat) (t : TypeId) (len : Nat) (l : List (Nat × AV)) : R1 :=
 match P.underlying t with
 | some (.slice e) => (match tyOf P tyD e with
  | some ty => (match zeroD P e ty with
   | some z => (match buildRow ty l (List.replicate len z) with
    | some xs => bif Nat.ble (len * ty.size) 16777216 then .ret (.own nx 0 ty, [(nx, .cells 0 false [.row ty xs])]) else .fail
    | none => .fail)
   | none => .fail)
  | none => .fail)
 | _ => .fail
structure Held where
 t : Ty
 xs : List t.den
def Hp.row (h : Hp) (b v : Nat) : Option (Bool × Held) :=
 match h.cells b v with
 | some (w, [.row t xs]) => some (w, ⟨t, xs⟩)
 | _ => none
def Hp.sub (h : Hp) (b v o : Nat) (m : Option Nat) : Option (Bool × List AV × Sub AV) :=
 match h.cells b v with
 | some (w, ps) => (match subOf ps o with
  | some s => bif sameM s.n m then some (w, ps, s) else none
  | none => none)
 | none => none
def heldOf (h : Hp) (x : AV) : Option Held :=
 match x with
 | .nilSlc => none
 | .lst t xs => some ⟨t, xs⟩
 | .nlst t xs => some ⟨t, xs⟩
 | .own b v _ => (match h.row b v with | some (_, u) => some u | none => none)
 | .slc b v o m t s n => (match h.sub b v o m with | some (_, _, u) => bif Nat.beq u.t.size t.size then some ⟨u.t, (u.xs.drop s.toNat).take n.toNat⟩ else none | none => none)
 | _ => none
def lenA (h : Hp) (x : AV) : Option Int :=
 match x with
 | .str s => some s.length
 | .arr n _ _ => some n
 | .nilSlc => some 0
 | .lst _ xs => some xs.length
 | .nlst _ xs => some xs.length
 | .slc b v _ _ _ _ n => bif h.fresh b v then some n else none
 | .own b v _ => (match h.row b v with | some (_, u) => some u.xs.length | none => none)
 | _ => none
def inB (i n : Int) : Bool := decide (0 ≤ i) && decide (i < n)
def indexAddrA (P : Program) (h : Hp) (t : TypeId) (x : AV) (i : Int) : R1 :=
 match P.underlying t with
 | some (.array m e) => bif okSize P e && Nat.ble 2 m then (match x with
  | .ptr b v o path => .guard (inB i m) (match tyOf P tyD e with
   | some _ => one (.ptr b v o (path ++ [.ix i (P.cellsOf e) (some m)]))
   | none => (match path with | [] => one (.ptr b v (o + i.toNat * P.cellsOf e) []) | _ => .fail))
  | .rp ty y o => (match subAt ty y o with
   | some s => bif sameM s.n (some m) && Nat.beq s.t.size (P.cellsOf e) then .guard (inB i m) (one (.rp s.t (rd s.t.zero s.xs i) 0)) else .fail
   | none => .fail)
  | _ => .fail) else .fail
 | some (.slice e) => bif okSize P e then (match x with
  | .own b v ty => bif Nat.beq ty.size (P.cellsOf e) then (match lenA h x with
   | some n => .guard (inB i n) (one (.ptr b v 0 [.ix i ty.size none]))
   | none => .fail) else .fail
  | .slc b v o m ty s n => bif Nat.beq ty.size (P.cellsOf e) && h.fresh b v then .guard (inB i n) (one (.ptr b v o [.ix (s + i) ty.size m])) else .fail
  | .lst ty xs => bif Nat.beq ty.size (P.cellsOf e) then .guard (inB i xs.length) (one (.rp ty (rd ty.zero xs i) 0)) else .fail
  | _ => .fail) else .fail
 | _ => .fail
def fieldAddrA (P : Program) (t : TypeId) (x : AV) (f : Nat) : R1 :=
 match fieldOf P t f with
 | some fd => bif Nat.beq (P.cellsOf fd.type) 0 then .fail else (match x with
  | .ptr b v o [] => one (.ptr b v (o + fd.offset) [])
  | .ptr b v o path => one (.ptr b v o (path ++ [.off fd.offset]))
  | .rp ty y o => one (.rp ty y (o + fd.offset))
  | _ => .fail)
 | none => .fail
def fieldA (P : Program) (t : TypeId) (x : AV) (f : Nat) : R1 :=
 match fieldOf P t f, x with
 | some fd, .agg ps => (match takeCells (partsAt ps fd.offset) (P.cellsOf fd.type) with | some l => bif okSize P fd.type && !Nat.beq (P.cellsOf fd.type) 0 then one (mkVal P fd.type l) else .fail | none => .fail)
 | _, _ => .fail
def indexA (P : Program) (t : TypeId) (x : AV) (i : Int) : R1 :=
 match P.underlying t, x with
 | some (.array m e), .arr n ty xs => bif Nat.beq n m && Nat.beq ty.size (P.cellsOf e) && okSize P e then .guard (inB i m) (one (mkVal P e (inj ty (rd ty.zero xs i)))) else .fail
 | some .string, .str s => .guard (inB i s.length) (one (.int .u8 (rd (0 : Int) s i)))
 | _, _ => .fail
def asI : Option AV → Int → Option Int
 | none, d => some d
 | some (.int _ n), _ => some n
 | _, _ => none
def cutB (l hi n : Int) : Bool := decide (0 ≤ l) && decide (l ≤ hi) && decide (hi ≤ n)
def cut {α : Type} (xs : List α) (l hi : Int) : List α := (xs.take hi.toNat).drop l.toNat
def roomA (h : Hp) (x : AV) : Option Int :=
 match x with
 | .slc b v o m _ s _ => (match h.sub b v o m with | some (_, _, u) => some (u.xs.length - s) | none => none)
 | x => lenA h x
def cutOf (mx lo hi : Option AV) (len : Int) : Option (Option Int × Int × Int) :=
 match mx, asI lo 0, asI hi len with
 | none, some l, some u => some (none, l, u)
 | some (.int _ k), some l, some u => (match hi with | some _ => some (some k, l, u) | none => none)
 | _, _, _ => none
def sliceA (P : Program) (h : Hp) (t : TypeId) (x : AV) (lo hi mx : Option AV) : R1 :=
 match P.underlying t, x with
 | some .string, .str s => (match cutOf mx lo hi s.length with
  | some (none, l, u) => .guard (cutB l u s.length) (one (.str (cut s l u)))
  | _ => .fail)
 | some (.slice e), .lst ty xs => bif Nat.beq ty.size (P.cellsOf e) && okSize P e then (match cutOf mx lo hi xs.length with
  | some (none, l, u) => .guard (cutB l u xs.length) (one (.lst ty (cut xs l u)))
  | some (some k, l, u) => .guard (cutB l u k && decide (k ≤ xs.length)) (one (.lst ty (cut xs l u)))
  | none => .fail) else .fail
 | some (.slice e), .own b v ty => bif Nat.beq ty.size (P.cellsOf e) && okSize P e then (match lenA h x with
  | some n => (match cutOf mx lo hi n with
   | some (none, l, u) => .guard (cutB l u n) (one (.slc b v 0 none ty l (u - l)))
   | some (some k, l, u) => .guard (cutB l u k && decide (k ≤ n)) (one .junk)
   | none => .fail)
  | none => .fail) else .fail
 | some (.slice e), .slc b v o m ty s n => bif Nat.beq ty.size (P.cellsOf e) && okSize P e then (match roomA h x, cutOf mx lo hi n with
  | some c, some (none, l, u) => .guard (cutB l u c) (one (.slc b v o m ty (s + l) (u - l)))
  | some c, some (some k, l, u) => .guard (cutB l u k && decide (k ≤ c)) (one .junk)
  | _, _ => .fail) else .fail
 | some (.array m e), .ptr b v o [] => (match tyOf P tyD e, cutOf mx lo hi m with
   | some ty, some (none, l, u) => (match h.sub b v o (some m) with
    | some (_, _, s) => bif Nat.beq s.t.size ty.size && Nat.beq ty.size (P.cellsOf e) && okSize P e then .guard (cutB l u m) (one (.slc b v o (some m) ty l (u - l))) else .fail
    | none => .fail)
   | _, _ => .fail)
 | some (.array m e), .rp (.arr m' ty) xs 0 => bif Nat.beq m' m && Nat.beq ty.size (P.cellsOf e) && okSize P e then (match cutOf mx lo hi m with
   | some (none, l, u) => .guard (cutB l u m) (one (.lst ty (cut (α := ty.den) xs l u)))
   | _ => .fail) else .fail
 | some (.slice e), .nilSlc => bif okSize P e then (match cutOf mx lo hi 0 with
  | some (none, l, u) => .guard (cutB l u 0) (one .nilSlc)
  | _ => .fail) else .fail
 | _, _ => .fail
def roomOf (P : Program) (e : TypeId) : Nat :=
 match P.info? e with
 | some i => bif Nat.beq i.bytes 0 then 0 else 70368744177664 / i.bytes
 | none => 0
def growT (P : Program) (e : TypeId) : Bool :=
 match P.info? e with
 | some i => !Nat.beq i.bytes 0 && (match i.zero with | some v => Nat.beq v.cells.size i.size | none => false)
 | none => false
def isIntT (P : Program) (t : TypeId) : Bool := match P.underlying t with | some (.int _) => true | some _ => false | none => true
def srcOf (h : Hp) (ty : Ty) (x : AV) : Option (List ty.den) :=
 match x with
 | .nilSlc => some []
 | .str l => packAll (.lst ty) [.lst (.int .u8) l]
 | _ => (match heldOf h x with | some u => packAll (.lst ty) [.lst u.t u.xs] | none => none)
def asRow (ty : Ty) (u : Held) : Option (List ty.den) := packAll (.lst ty) [.lst u.t u.xs]
def appendA (P : Program) (h : Hp) (nx : Nat) (t t2 : TypeId) (s x : AV) : R1 :=
 match P.underlying t with
 | some (.slice e) => bif isIntT P t2 || !growT P e then .fail else (match tyOf P tyD e with
  | some ty => (match srcOf h ty x with
   | none => .fail
   | some ys => match s with
    | .nilSlc => .guard (decide (ys.length < roomOf P e)) (.ret (.own nx 0 ty, [(nx, .cells 0 false [.row ty ys])]))
    | .own b v t0 => (match h.row b v with
     | some (w, u) => (match bif Nat.beq t0.size ty.size && !(Nat.beq b ioName) then asRow ty u else none with
      | some xs => .guard (decide (List.length (α := ty.den) xs + ys.length < roomOf P e)) (.ret (.own b (v + 1) ty, [(b, .cells (v + 1) (!w) [.row ty (List.append (α := ty.den) xs ys)])]))
      | none => .fail)
     | none => .fail)
    | .slc b v 0 none t0 0 n => (match h.row b v with
     | some (true, u) => (match bif Nat.beq t0.size ty.size && !(Nat.beq b ioName) then asRow ty u else none with
      | some xs => .guard (decide (List.length (α := ty.den) xs + ys.length < roomOf P e) && decide (0 ≤ n))
        (.ret (.slc b (v + 1) 0 none ty 0 (n + ys.length), [(b, .cells (v + 1) false [.row ty (List.append (α := ty.den) (List.take n.toNat xs) (List.append ys (List.drop (α := ty.den) (n.toNat + ys.length) xs)))])]))
      | none => .fail)
     | _ => .fail)
    | _ => .fail)
  | none => .fail)
 | _ => .fail
def convertA (P : Program) (h : Hp) (nx : Nat) (src dst : TypeId) (x : AV) : R1 :=
 match P.underlying src, P.underlying dst, x with
 | some _, some (.int k), .int _ n => one (.int k (k.wrap n))
 | some _, some .string, .str s => one (.str s)
 | some .string, some (.slice e), .str s => (match P.underlying e with
  | some (.int .u8) => .ret (.own nx 0 (.int .u8), [(nx, .cells 0 false [.row (.int .u8) s])])
  | _ => .fail)
 | some (.slice e), some .string, x => (match P.underlying e, srcOf h (.int .u8) x with
  | some (.int .u8), some l => one (.str l)
  | _, _ => .fail)
 | some (.pointer t), some .unsafePointer, .ptr b v o path => (match h.cells b v with
  | some (_, ps) => (match objGet ps o path 1, (P.info? t).map (fun i => decide (i.size = 0)) with
   | some [_], some false => one (.ptr b v o path)
   | _, _ => .fail)
  | none => .fail)
 | _, _, _ => .fail
def makeSliceA (P : Program) (nx : Nat) (t : TypeId) (len cap : AV) : R1 :=
 match P.underlying t, len, cap with
 | some (.slice e), .int _ n, .int _ c => (match tyOf P tyD e with
  | some ty => (match zeroD P e ty with
   | some z => bif growT P e then .guard (decide (0 ≤ n) && decide (n ≤ c) && Nat.blt c.toNat (roomOf P e)) (.ret (.own nx 0 ty, [(nx, .cells 0 false [.row ty (List.replicate n.toNat z)])])) else .fail
   | none => .fail)
  | none => .fail)
 | _, _, _ => .fail
def appendZA (P : Program) (nx : Nat) (t t2 : TypeId) (s x : AV) : R1 :=
 match P.underlying t, P.underlying t2, s, x with
 | some (.slice e), some (.int _), .nilSlc, .int _ n => (match tyOf P tyD e with
  | some ty => (match zeroD P e ty with
   | some z => bif growT P e then .guard (decide (0 ≤ n) && Nat.blt n.toNat (roomOf P e)) (.ret (.own nx 0 ty, [(nx, .cells 0 false [.row ty (List.replicate n.toNat z)])])) else .fail
   | none => .fail)
  | none => .fail)
 | _, _, _, _ => .fail
def pure1 (h : Hp) (v : AV) : Option AV :=
 match v with
 | .own .. => (match heldOf h v with | some u => some (.lst u.t u.xs) | none => none)
 | .slc .. => (match heldOf h v with | some u => some (.lst u.t u.xs) | none => none)
 | .int k n => some (.int k n)
 | .bool b => some (.bool b)
 | .str s => some (.str s)
 | .lst t xs => some (.lst t xs)
 | .nlst t xs => some (.lst t xs)
 | .arr n t xs => some (.arr n t xs)
 | .nilSlc => some .nilSlc
 | _ => none
def pureParts (h : Hp) : List AV → Option (List AV)
 | [] => some []
 | p :: r => match pure1 h p, pureParts h r with
  | some q, some l => some (q :: l)
  | _, _ => none
def pureA (h : Hp) : AV → Option AV
 | .agg ps => (match pureParts h ps with | some l => some (.agg l) | none => none)
 | v => pure1 h v
def pureAll (h : Hp) : List AV → Option (List AV)
 | [] => some []
 | v :: r => match pureA h v, pureAll h r with
  | some w, some l => some (w :: l)
  | _, _ => none
def refs1 : AV → List Nat
 | .own b .. => [b]
 | .slc b .. => [b]
 | .ptr b .. => [b]
 | _ => []
def refsA : AV → List Nat
 | .agg ps => ps.flatMap refs1
 | v => refs1 v
def freeze (h : Hp) (l : List Nat) : Upd :=
 l.filterMap fun b => match h.get b with | some (.cells v _ ps) => some (b, .cells v true ps) | _ => none
def withPure (h : Hp) (vs : List AV) (k : List AV → R1) : R1 :=
 match pureAll h vs with
 | some ws => (k ws).bind fun r => .ret (r.1, r.2 ++ freeze h (vs.flatMap refsA))
 | none => .fail
def deepT (P : Program) (e : TypeId) : Bool :=
 match tyOf P tyD e with
 | some ty => !ty.flat
 | none => false
def arrayAtA (P : Program) (h : Hp) (arr : TypeId) (x : AV) : R1 :=
 match P.underlying arr with
 | some (.array n e) => (match tyOf P tyD e with
  | some ty => withPure h [x] fun ws => (match ws with
   | [.lst t xs] => (match packAll (.lst ty) [.lst t xs] with
    | some ys => .guard (Nat.ble 1 n && Nat.ble n (List.length (α := ty.den) ys)) (one (.rp (.arr n ty) (List.take (α := ty.den) n ys) 0))
    | none => .fail)
   | _ => .fail)
  | none => .fail)
 | _ => .fail
def methodA (P : Program) (t : TypeId) (name : String) : Option FuncId :=
 match P.info? t with
 | some i => (match i.methods.find? (fun m => m.name == name) with
  | some m => bif m.path.isEmpty then (match m.func, P.underlying t with
   | some (f, true), some (.pointer _) => some f
   | some (_, false), some (.pointer _) => none
   | some (f, false), some _ => some f
   | _, _ => none) else none
  | none => none)
 | none => none
def typeAssertA (P : Program) (x : AV) (asserted : TypeId) (ok : Bool) : R1 :=
 match P.underlying asserted with
 | some (.interface _) => .fail
 | some _ => (match x with
  | .iface t v => bif Nat.beq t asserted
    then one (bif ok then .tup [v, .bool true] else v)
    else (bif ok then (match zeroOf P asserted with
     | some _ => one (.tup [.junk, .bool false])
     | none => .fail) else .fail)
  | .nilIface => bif ok then (match zeroOf P asserted with
     | some _ => one (.tup [.junk, .bool false])
     | none => .fail) else .fail
  | _ => .fail)
 | none => .fail
abbrev Ora := FuncId → List AV → Hp → Nat → Option Orc
def callA (Φ : Ora) (h : Hp) (nx : Nat) (f : FuncId) (args : List AV) : R1 :=
 match Φ f args h nx with
 | none => .fail
 | some o => .call o.dflt o.x fun g => .ret (o.enc g)
def minmaxFrom (c : Int → Int → Int) (k : IntKind) : Int → List AV → Option AV
 | x, [] => some (.int k x)
 | x, .int k' y :: r => bif decide (k = k') then minmaxFrom c k (c x y) r else none
 | _, _ => none
def minmax (c : Int → Int → Int) : List AV → Option AV
 | .int k x :: r => minmaxFrom c k x r
 | _ => none
def splice {α : Type} (xs : List α) (i : Nat) (ys : List α) : List α := xs.take i ++ (ys ++ xs.drop (i + ys.length))
def spliceA (h : Hp) (s : AV) (ys : (ty : Ty) → Int → Option (List ty.den)) : Option (Int × Upd) :=
 match s with
 | .own b v _ => (match h.row b v with
  | some (true, u) => (match ys u.t u.xs.length with
   | some l => some (l.length, [(b, .cells v false [.row u.t (splice u.xs 0 l)])])
   | none => none)
  | _ => none)
 | .slc b v o m t i n => (match h.sub b v o m with
  | some (true, ps, u) => bif Nat.beq u.t.size t.size then (match ys u.t n with
   | some l => some (l.length, [(b, .cells v false (putAt ps o (u.put (splice u.xs i.toNat l))))])
   | none => none) else none
  | _ => none)
 | _ => none
def smallI (n : Int) : Bool := Nat.blt n.toNat 9223372036854775808
def elemSize (P : Program) (t : TypeId) : Option Nat :=
 match P.underlying t with
 | some (.slice e) => bif okSize P e then some (P.cellsOf e) else none
 | _ => none
def copyA (P : Program) (h : Hp) (t : TypeId) (d s : AV) : R1 :=
 match elemSize P t with
 | some z => (match spliceA h d (fun ty n => bif Nat.beq ty.size z then (match srcOf h ty s with | some l => some (l.take n.toNat) | none => none) else none) with
  | some (n, u) => .guard (smallI n) (.ret (.int .i64 n, u))
  | none => .fail)
 | none => .fail
def clearA (P : Program) (h : Hp) (t : TypeId) (s : AV) : R1 :=
 match P.underlying t with
 | some (.slice e) => (match spliceA h s (fun ty n => match zeroD P e ty with | some z => some (List.replicate n.toNat z) | none => none) with
  | some (_, u) => .ret (.junk, u)
  | none => .fail)
 | _ => .fail
def lenT (P : Program) (h : Hp) (t : TypeId) (x : AV) : Option Int :=
 match P.underlying t, x with
 | some .string, .str s => some s.length
 | some (.array n _), _ => some n
 | some (.slice _), .str _ => none
 | some (.slice _), .arr .. => none
 | some (.slice _), x => lenA h x
 | _, _ => none
def builtinA (P : Program) (h : Hp) (nx : Nat) (b : Builtin) (ts : List TypeId) (args : List AV) : R1 :=
 match b, ts, args with
 | .len, t :: _, [x] => (match lenT P h t x with | some n => .guard (smallI n) (one (.int .i64 n)) | none => .fail)
 | .append, t :: t2 :: _, [s, x] => bif isIntT P t2 then appendZA P nx t t2 s x else appendA P h nx t t2 s x
 | .cap, t :: _, [.nilSlc] => (match P.underlying t with | some (.slice _) => one (.int .i64 0) | _ => .fail)
 | .copy, t :: _, [d, s] => copyA P h t d s
 | .clear, t :: _, [s] => clearA P h t s
 | .max, _, l => okD (minmax mx l)
 | .min, _, l => okD (minmax mn l)
 | _, _, _ => .fail
def calleeVal (c : Call) (ρ : Operand → AV) : AV :=
 match c.callee with
 | .value f => ρ f
 | .invoke r _ => ρ r
 | .builtin _ => .junk
def callFnA (Φ : Ora) (h : Hp) (nx : Nat) (f : AV) (args : List AV) : R1 :=
 match f with
 | .fn (.func g) first cap => callA Φ h nx g (first ++ args ++ cap)
 | _ => .fail
def callMethA (P : Program) (Φ : Ora) (h : Hp) (nx : Nat) (r : AV) (name : String) (args : List AV) : R1 :=
 match r with
 | .iface t v => (match methodA P t name with
  | some g => callA Φ h nx g (v :: args)
  | none => .fail)
 | _ => .fail
def callOpA (P : Program) (Φ : Ora) (h : Hp) (nx : Nat) (c : Call) (x : AV) (args : List AV) : R1 :=
 match c.callee with
 | .builtin b => builtinA P h nx b c.argTypes.toList args
 | .value _ => callFnA Φ h nx x args
 | .invoke _ name => callMethA P Φ h nx x name args
def opA (P : Program) (Φ : Ora) (op : Op) (ρ : Operand → AV) (h : Hp) (nx : Nat) : R1 :=
 match op with
 | .move x | .assign x => one (ρ x)
 | .alloc t => (match zeroOf P t with | some ps => newA nx ps | none => .fail)
 | .box _ x => bif storable (ρ x) && (ρ x).parts.all noRow then newA nx (ρ x).parts else .fail
 | .build t l => buildA P t (l.toList.map fun (i, x) => (i, ρ x))
 | .buildSlice t n l => (match P.underlying t with
  | some (.slice e) => bif deepT P e
    then withPure h (l.toList.map fun p => ρ p.2) (fun ws => buildSliceA P nx t n ((l.toList.map (·.1)).zip ws))
    else buildSliceA P nx t n (l.toList.map fun (i, x) => (i, ρ x))
  | _ => .fail)
 | .load t a => loadA P h t (ρ a)
 | .store t a x => storeA P h t (ρ a) (ρ x)
 | .nilCheck x => (match ρ x with | .ptr b v o p => one (.ptr b v o p) | .rp t y o => one (.rp t y o) | .fn (.func f) a b => one (.fn (.func f) a b) | _ => .fail)
 | .binOp o t x y _ => binA P o t (ρ x) (ρ y)
 | .unOp o _ x => unA o (ρ x)
 | .convert s d x => convertA P h nx s d (ρ x)
 | .makeInterface t x => (match P.underlying t with
  | some (.interface _) => .fail
  | some _ => one (.iface t (ρ x))
  | none => .fail)
 | .makeFunc (.func f) a c => one (.fn (.func f) (a.toList.map ρ) (c.toList.map ρ))
 | .makeSlice t l c => makeSliceA P nx t (ρ l) (ρ c)
 | .slice t x lo hi m => sliceA P h t (ρ x) (lo.map ρ) (hi.map ρ) (m.map ρ)
 | .fieldAddr t x f => fieldAddrA P t (ρ x) f
 | .field t x f => fieldA P t (ρ x) f
 | .indexAddr t x i => (match ρ i with | .int _ n => indexAddrA P h t (ρ x) n | _ => .fail)
 | .index t x i => (match ρ i with | .int _ n => indexA P t (ρ x) n | _ => .fail)
 | .extract x i => (match ρ x with | .tup vs => okD vs[i]? | _ => .fail)
 | .call c => callOpA P Φ h nx c (calleeVal c ρ) (c.args.toList.map ρ)
 | .sliceToArrayPointer arr x => arrayAtA P h arr (ρ x)
 | .typeAssert x _ t ok => typeAssertA P (ρ x) t ok
 | _ => .fail
end Go.AM
end
section
namespace Go.AM
def evalO (e : Env) : Operand → AV
 | .tmp t => e.get t
 | .const v => ofValue v
 | .global _ => .junk
 | .func f => .fn (.func f) [] []
def findMay : List May → Nat → Option May
 | [], _ => none
 | m :: r, t => bif Nat.beq m.t t then some m else findMay r t
def evalM (e : Env) (ms : List May) (g : Option (Nat × Bool)) : Operand → AV
 | .tmp t => (match findMay ms t with
  | none => e.get t
  | some m => match g with
   | some (tg, want) => bif Nat.beq m.tg tg && (m.want == want) then m.v else .junk
   | none => .junk)
 | x => evalO e x
def guardOf (e : Env) (ms : List May) (tg : Nat) (want : Bool) : Option Bool :=
 match findMay ms tg with
 | none => (match e.get tg with | .bool b => some (bif want then b else !b) | _ => none)
 | some m => (match m.v with | .bool b => some (m.g && (bif want then b else !b)) | _ => none)
def putMay (ms : List May) (t : Nat) : List May := ms.filter fun m => !(Nat.beq m.t t || Nat.beq m.tg t)
def underGuard (g : Bool) : R1 → R1
 | .ret (v, u) => (match u with | [] => .ret (v, []) | _ => .guard (!g) (.ret (.junk, [])))
 | .fail => .guard (!g) (.ret (.junk, []))
 | .guard c k => .guard (!g || c) (underGuard g k)
 | .ite c a b => .ite c (underGuard g a) (underGuard g b)
 | .call d x k => .call d (bif g then x else some d) fun y => underGuard g (k y)
structure RS where
 env : Env
 mays : List May
 hp : Hp
inductive Eff where
 | put (d : Option Nat) (v : AV) (u : Upd)
 | may (d : Option Nat) (tg : Nat) (want g : Bool) (v : AV)
def RS.app (s : RS) : Eff → RS
 | .put (some d) v u => ⟨(d, v) :: s.env, putMay s.mays d, u ++ s.hp⟩
 | .put none _ u => ⟨s.env, s.mays, u ++ s.hp⟩
 | .may (some d) tg want g v => ⟨(d, .junk) :: s.env, ⟨d, tg, want, g, v⟩ :: putMay s.mays d, s.hp⟩
 | .may none _ _ _ _ => s
def quietOp : Op → Bool
 | .alloc _ | .box _ _ | .buildSlice .. | .store .. | .makeSlice .. | .sliceToArrayPointer .. => false
 | .call c => (match c.callee with | .builtin .append | .builtin .copy | .builtin .clear => false | _ => true)
 | _ => true
def sideA (e : Env) (ms : List May) (g : Option (Nat × Bool)) (c x : Operand) (want : Bool) : AV :=
 match x with
 | .tmp t => (match findMay ms t, c with
  | some m, .tmp tc => bif Nat.beq m.tg tc && (m.want == want) then m.v else evalM e ms g x
  | _, _ => evalM e ms g x)
 | x => evalO e x
def pickR (e : Env) (ms : List May) (g : Option (Nat × Bool)) (c a b : Operand) : R1 :=
 match evalM e ms g c with
 | .bool cb => one (match b, a with
  | .const (.bool false), _ => (match sideA e ms g c a true with | .bool u => .bool (cb && u) | _ => .junk)
  | _, .const (.bool true) => (match sideA e ms g c b false with | .bool u => .bool (cb || u) | _ => .junk)
  | _, _ => .junk)
 | _ => .fail
def usedIn (ops : List Oper) (d : Option Nat) : Bool :=
 match d with
 | some d => ops.any fun o => o.op.operands.toList.any fun | .tmp t => Nat.beq t d | _ => false
 | none => false
def slice3A (P : Program) (h : Hp) (t : TypeId) (x : AV) (lo hi : Option AV) (m : AV) : R1 :=
 withPure h [x] fun ws => match ws with
  | [w] => sliceA P [] t w lo hi (some m)
  | _ => .fail
def opM (P : Program) (Φ : Ora) (keep : Bool) (op : Op) (e : Env) (ms : List May) (g : Option (Nat × Bool)) (h : Hp) (nx : Nat) : R1 :=
 match op with
 | .pick c a b => pickR e ms g c a b
 | .slice t x lo hi (some m) => bif keep then slice3A P h t (evalM e ms g x) (lo.map (evalM e ms g)) (hi.map (evalM e ms g)) (evalM e ms g m) else opA P Φ (.slice t x lo hi (some m)) (evalM e ms g) h nx
 | op => opA P Φ op (evalM e ms g) h nx
def effA (P : Program) (Φ : Ora) (ops : List Oper) (o : Oper) (nx : Nat) (e : Env) (ms : List May) (h : Hp) : F Eff :=
 match o.guard with
 | none => (opM P Φ (usedIn ops o.dst) o.op e ms none h nx).bind fun r => .ret (.put o.dst r.1 r.2)
 | some (j, want) => (match ops[j]? with
  | some oj => (match oj.dst with
   | some tg => (match guardOf e ms tg want with
    | some g => bif quietOp o.op
      then (underGuard g (opM P Φ (usedIn ops o.dst) o.op e ms (some (tg, want)) h nx)).bind fun r => .ret (.may o.dst tg want g r.1)
      else .ite g ((opM P Φ (usedIn ops o.dst) o.op e ms (some (tg, want)) h nx).bind fun r => .ret (.put o.dst r.1 r.2)) (.ret (.put o.dst .junk []))
    | none => .fail)
   | none => .fail)
  | none => .fail)
def oneOp (P : Program) (Φ : Ora) (ops : List Oper) (o : Oper) (nx : Nat) (s : RS) : F RS :=
 (effA P Φ ops o nx s.env s.mays s.hp).bind fun e => .ret (s.app e)
def looksAt (ops : List Oper) (o : Oper) : List Nat :=
 (o.op.operands.toList.filterMap fun | .tmp t => some t | _ => none) ++
 (match o.guard with
  | some (g, _) => (match ops[g]? with | some og => og.dst.toList | none => [])
  | none => [])
def touches : Op → Bool
 | .load .. | .store .. | .slice .. | .indexAddr .. | .convert .. | .call _ | .buildSlice .. | .sliceToArrayPointer .. => true
 | _ => false
def footA (o : Oper) (ρ : Operand → AV) : List Nat :=
 bif touches o.op then o.op.operands.toList.flatMap fun x => refsA (ρ x) else []
def Eff.keys : Eff → List Nat
 | .put _ _ u => u.map (·.1)
 | .may .. => []
structure Mask where
 n : Nat
instance : Membership Nat Mask := ⟨fun m b => m.n.testBit b = true⟩
structure Foot where
 i : Nat
 before : Mask      -- the operations that stand before it in any order
 dst : Option Nat
 looks : List Nat
 reads : List Nat
 writes : List Nat
 tg : Option Nat        -- what its guard looks at
def meets (a b : List Nat) : Bool := a.any fun x => b.any fun y => Nat.beq x y
def apartA (a b : Foot) : Bool :=
 (match a.dst with | some d => !(b.looks.any (Nat.beq d)) && !(b.dst == some d) | none => true) &&
 (match b.dst with | some d => !(a.looks.any (Nat.beq d)) | none => true) &&
 !(meets a.writes b.reads) && !(meets a.writes b.writes) && !(meets a.reads b.writes)
def beforeOf (j : Nat) : List Foot → Nat
 | [] => 0
 | f :: r => bif Nat.beq f.i j then f.before.n else beforeOf j r
def aheadOf (o : Oper) (fs : List Foot) : Mask :=
 ⟨o.after.toList.foldl (fun a e => bif Region.binds .any e then a ||| (1 <<< e.on ||| beforeOf e.on fs) else a) 0⟩
def restrict (h : Hp) (l : List Nat) : Hp := l.filterMap fun b => match h.get b with | some o => some (b, o) | none => none
def guardT (ops : List Oper) (o : Oper) : Option (Nat × Bool) :=
 match o.guard with
 | some (j, w) => (match ops[j]? with | some oj => (match oj.dst with | some t => some (t, w) | none => none) | none => none)
 | none => none
def hits : Option Nat → Option Nat → Bool
 | some a, some b => Nat.beq a b
 | _, _ => false
def inOrder (k : Nat) (o : Oper) (fs : List Foot) : Bool := o.after.toList.all fun e => !(Region.binds .any e) || Nat.blt e.on k || fs.any fun f => Nat.beq f.i e.on
def drawOps (P : Program) (Φ : Ora) (ops : List Oper) (k : Nat) : List Nat → Nat → List Foot → RS → F RS
 | [], _, _, s => .ret s
 | i :: r, nx, fs, s => match ops[i]? with
  | some o =>
   let rd := footA o (evalM s.env s.mays (guardT ops o))
   (effA P Φ ops o (nx + i) s.env s.mays (restrict s.hp rd)).bind fun e =>
    let f : Foot := ⟨i, aheadOf o fs, o.dst, looksAt ops o, rd, e.keys, (guardT ops o).map (·.1)⟩
    bif inOrder k o fs && fs.all (fun g => (f.before.n.testBit g.i || apartA g f) && !hits f.dst g.tg) then drawOps P Φ ops k r nx (f :: fs) (s.app e) else .fail
  | none => .fail
def binding (o : Oper) : List Nat := o.after.toList.filterMap fun e => bif Region.binds .any e then some e.on else none
def masks : List Oper → List Nat → List Nat
 | [], ms => ms
 | o :: r, ms => masks r (ms ++ [(binding o).foldl (fun a j => a ||| (1 <<< j ||| ms.getD j 0)) 0])
def isBarM (ms : List Nat) (n b : Nat) : Bool :=
 Nat.blt b n && (List.range b).all (fun i => (ms.getD b 0).testBit i) && (List.range' (b + 1) (n - (b + 1))).all fun i => (ms.getD i 0).testBit b
def isBar (ops : Array Oper) (b : Nat) : Bool := isBarM (masks ops.toList []) ops.size b
def mayEnter (inl : FuncId → Bool) (o : Oper) : Bool :=
 match o.op with
 | .call c => (match c.callee with
  | .value (.func f) => inl f
  | .value _ => true
  | .invoke .. => true
  | .builtin .recover => true
  | .builtin _ => false)
 | .panic _ | .defer _ => true
 | _ => false
def nextBar (inl : FuncId → Bool) (ops : Array Oper) (i : Nat) : Nat :=
 let ms := masks ops.toList []
 match (List.range' i (ops.size - i)).find? fun b => (match ops[b]? with | some o => mayEnter inl o | none => false) && isBarM ms ops.size b with
 | some b => b
 | none => ops.size
def acyB (ops : Array Oper) : Bool := (List.range ops.size).all fun i => match ops[i]? with | some o => (binding o).all fun j => Nat.blt j i | none => true
def uniq : List May → List May
 | [] => []
 | m :: r => m :: (uniq r).filter fun x => !(Nat.beq x.t m.t)
def keepsB (ops : Array Oper) (is : List Nat) (ms : List May) : Bool := is.all fun i => match ops[i]? with | some o => ms.all fun m => !hits o.dst (some m.tg) | none => true
def okFrom (m : Region.Mode) (ops : List Oper) : List Nat → List Nat → Bool
 | _, [] => true
 | pre, i :: r => (match ops[i]? with
  | some o => o.after.toList.all fun e => !(Region.binds m e) || pre.any (Nat.beq e.on)
  | none => false) && okFrom m ops (i :: pre) r
def orderOk (m : Region.Mode) (ops : Array Oper) (W : List Nat) : Bool := ((List.range ops.size).all fun i => W.any (Nat.beq i)) && okFrom m ops.toList [] W
def drawOk (P : Program) (ops : Array Oper) : Bool :=
 P.follows .mixedOrders || !Region.departs ops || (orderOk .text ops (List.range ops.size) && orderOk .gc ops (Region.linearise .gc ops 0))
def exitA (id : Nat) : List AItem → Option (List AItem)
 | .inBlock i :: k => bif Nat.beq i id then some k else exitA id k
 | _ :: k => exitA id k
 | [] => none
def okCode (n : Nat) : Code → Bool
 | .seq a b => okCode n a && okCode n b
 | .cond _ a b => okCode n a && okCode n b
 | .block _ c => okCode n c
 | .loop c => okCode n c
 | .scope c => okCode n c
 | .rangeFunc _ ps a b => ps.toList.all (fun p => Nat.blt p n) && okCode n a && okCode n b
 | .region _ ops _ => ops.toList.all fun o => (match o.dst with | some d => Nat.blt d n | none => true) && !hits o.dst ((guardT ops.toList o).map (·.1))
 | _ => true
def enterA (P : Program) (f : FuncId) (args : List AV) : Option AFrame :=
 match P.funcs[f]? with
 | some fn => bif (match fn.body with | some c => okCode fn.ntmps c | none => false) && !(fn.name == "runtime.NumGoroutine") then some { fn := f, env := (List.range args.length).zip args, mays := [], items := [.code []] } else none
 | none => none
def resA (P : Program) (h : Hp) (e : Env) : List ResultVar → F (List AV)
 | [] => .ret []
 | .tmp t :: r => (resA P h e r).bind fun l => .ret (e.get t :: l)
 | .cell a t :: r => (loadA P h t (e.get a)).bind fun v => (resA P h e r).bind fun l => .ret (v.1 :: l)
def resultsA (P : Program) (h : Hp) (fr : AFrame) : F AV :=
 match P.funcs[fr.fn]? with
 | some fn => (resA P h fr.env fn.results.toList).bind fun l => match l with
   | [v] => .ret v
   | l => .ret (.tup l)
 | none => .fail
inductive Out where
 | go (st : St)
 | done (v : AV) (h : Hp)
def calleeOf (P : Program) (o : Oper) (ρ : Operand → AV) : Option (Fn × List AV) :=
 match o.op with
 | .call c => (match c.callee with
  | .value f => (match ρ f with
   | .fn (.func g) first cap => some (.func g, first ++ c.args.toList.map ρ ++ cap)
   | .fn (.yield l) [] _ => some (.yield l, c.args.toList.map ρ)
   | _ => none)
  | .invoke r name => (match ρ r with
   | .iface t v => (match methodA P t name with
    | some g => some (.func g, v :: c.args.toList.map ρ)
    | none => none)
   | _ => none)
  | _ => none)
 | _ => none
def guardTg (ops : Array Oper) (j : Nat) : Option Nat := match ops[j]? with | some oj => oj.dst | none => none
def zeroAV (P : Program) (t : TypeId) : AV := match zeroOf P t with | some [v] => v | _ => .junk
def skipA (P : Program) (st : St) (fr : AFrame) (frs : List AFrame) (o : Oper) (tg : Nat) (want q : Bool) (items : List AItem) : F Out :=
 let s := RS.app ⟨fr.env, fr.mays, st.hp⟩ (.may o.dst tg want q (zeroAV P o.type))
 .ret (.go { frames := { fr with env := s.env, mays := s.mays, items := items } :: frs, hp := s.hp, nx := st.nx + 1 })
def opAt (P : Program) (f : FuncId) (p : Path) (i : Nat) : Option Oper :=
 match codeAt P f p with
 | .region _ ops d => bif !d || isBar ops i then ops[i]? else none
 | _ => none
def finishA (P : Program) (c : AFrame) (v : AV) : Option AFrame :=
 match c.items with
 | .inRegion p (i :: r) :: k => (match opAt P c.fn p i with
  | some o => (match o.dst with
   | some d => some { c with env := (d, v) :: c.env, mays := putMay c.mays d, items := .inRegion p r :: k }
   | none => some { c with items := .inRegion p r :: k })
  | none => none)
 | .inRange l :: k => some { c with items := .endRange l :: k }
 | _ => none
def backA (P : Program) (st : St) (frs : List AFrame) (h : Hp) (v : AV) : F Out :=
 match frs with
 | [] => .ret (.done v h)
 | c :: cs => match finishA P c v with
  | some c' => .ret (.go { st with frames := c' :: cs, hp := h })
  | none => .fail
def takeMarks : List ADef → Hp → Option Hp
 | [], h => some h
 | .mark b :: r, h => (match h.get b with
  | some (.deferred false) => takeMarks r ((b, .deferred true) :: h)
  | _ => none)
 | .call _ _ :: _, _ => none
def plainDefs : List ADef → Bool
 | [] => true
 | .mark _ :: r => plainDefs r
 | .call _ _ :: _ => false
def backD (c : AFrame) : Option AFrame :=
 match c.un with
 | some ((_, true) :: _) => some { c with un := some [] }
 | some _ => some c
 | none => none
def unwindA (P : Program) (st : St) (fr : AFrame) (frs : List AFrame) (ch : List (AV × Bool)) : F Out :=
 match fr.marks with
 | .mark b :: ds => (match st.hp.get b with
  | some (.deferred false) => .ret (.go { st with frames := { fr with marks := ds } :: frs, hp := (b, .deferred true) :: st.hp })
  | _ => .fail)
 | .call f args :: ds => (match enterA P f args with
  | some g => .ret (.go { st with frames := { g with dk := true } :: { fr with marks := ds } :: frs })
  | none => .fail)
 | [] => (match ch with
  | [] => (resultsA P st.hp fr).bind fun v => bif fr.dk
   then (match frs with
    | c :: cs => (match backD c with | some c' => .ret (.go { st with frames := c' :: cs }) | none => .fail)
    | [] => .fail)
   else backA P st frs st.hp v
  | _ :: _ => (match frs with
   | c :: cs => .ret (.go { st with frames := { c with un := some (ch ++ (match c.un with | some l => l | none => [])) } :: cs })
   | [] => .fail))
def leaveA (P : Program) (st : St) (fr : AFrame) (frs : List AFrame) (j : Option Jump) : F Out :=
 match fr.round with
 | none => (match j with
  | some (.exit _) => .fail
  | _ => bif plainDefs fr.marks && !fr.dk then (match takeMarks fr.marks st.hp with
   | some h => (resultsA P h fr).bind fun v => backA P st frs h v
   | none => .fail) else .ret (.go { st with frames := { fr with un := some [] } :: frs }))
 | some l => bif fr.dk then .fail else (match st.hp.get l with
  | some (.loop _ _ fn env ps p d) => backA P st frs ((l, .loop (match j with | none => .ready | some _ => .done) j fn env ps p d) :: st.hp) (.bool j.isNone)
  | _ => .fail)
def bindParams : List Nat → List AV → Env → Option Env
 | [], [], e => some e
 | t :: ts, v :: vs, e => bindParams ts vs ((t, v) :: e)
 | _, _, _ => none
def rangeA (P : Program) (st : St) (fr : AFrame) (frs : List AFrame) (p : Path) (f : Operand) (ps : List Nat) (k : List AItem) : F Out :=
 match evalO fr.env f, fr.round with
 | .fn (.func g) first cap, none =>
  (match enterA P g (first ++ [.fn (.yield (st.nx + 1)) [] []] ++ cap) with
  | some callee => .ret (.go { frames := callee :: { fr with items := .inRange (st.nx + 1) :: k, marks := .mark st.nx :: fr.marks } :: frs, hp := (st.nx + 1, .loop .ready none fr.fn fr.env ps p st.nx) :: (st.nx, .deferred false) :: st.hp, nx := st.nx + 2 })
  | none => .fail)
 | .fn (.func g) first cap, some l => (match st.hp.get l with
  | some (.loop _ _ _ _ _ _ d) => (match enterA P g (first ++ [.fn (.yield st.nx) [] []] ++ cap) with
   | some callee => .ret (.go { frames := callee :: { fr with items := .inRange st.nx :: k } :: frs, hp := (st.nx, .loop .ready none fr.fn fr.env ps p d) :: st.hp, nx := st.nx + 1 })
   | none => .fail)
  | _ => .fail)
 | _, _ => .fail
def yieldA (st : St) (fr : AFrame) (frs : List AFrame) (l : Nat) (args : List AV) : F Out :=
 match st.hp.get l with
 | some (.loop _ _ fn env ps p _) => (match bindParams ps args env with
  | some e => .ret (.go { st with frames := { fn := fn, env := e, mays := [], items := [.code (p ++ [.l]), .beginRound, .code (p ++ [.r])], round := some l } :: fr :: frs })
  | none => .fail)
 | _ => .fail
def turnsB : Op → Bool
 | .panic _ | .defer _ => true
 | .call c => (match c.callee with | .builtin .recover => true | _ => false)
 | _ => false
def turnA (P : Program) (st : St) (fr : AFrame) (frs : List AFrame) (op : Op) : F Out :=
 bif fr.round.isSome then .fail else
 match op with
 | .panic x => (match evalM fr.env fr.mays none x with
  | .iface t v => .ret (.go { st with frames := { fr with un := some [(.iface t v, false)] } :: frs })
  | _ => .fail)
 | .defer c => (match c.callee with
  | .value f => (match evalM fr.env fr.mays none f with
   | .fn (.func g) first cap => (match finishA P { fr with marks := .call g (first ++ c.args.toList.map (evalM fr.env fr.mays none) ++ cap) :: fr.marks } .junk with
    | some fr' => .ret (.go { st with frames := fr' :: frs })
    | none => .fail)
   | _ => .fail)
  | _ => .fail)
 | .call c => (match c.callee with
  | .builtin .recover => (match fr.dk, frs with
   | true, g :: gs => (match g.un with
    | some ((v, false) :: older) => (match finishA P fr v with
     | some fr' => .ret (.go { st with frames := fr' :: { g with un := some ((v, true) :: older) } :: gs })
     | none => .fail)
    | _ => (match finishA P fr .nilIface with
     | some fr' => .ret (.go { st with frames := fr' :: frs })
     | none => .fail))
   | _, _ => (match finishA P fr .nilIface with
    | some fr' => .ret (.go { st with frames := fr' :: frs })
    | none => .fail))
  | _ => .fail)
 | _ => .fail
def stepA (P : Program) (Φ : Ora) (inl : FuncId → Bool) (st : St) : F Out :=
 match st.frames with
 | [] => .fail
 | fr :: frs =>
  let to (k : List AItem) : F Out := .ret (.go { st with frames := { fr with items := k } :: frs })
  match fr.un with
  | some ch => unwindA P st fr frs ch
  | none => match fr.items with
  | [] => leaveA P st fr frs none
  | .jmp .ret :: _ => leaveA P st fr frs (some .ret)
  | .jmp (.exit id) :: k => (match exitA id k with | some k' => to k' | none => leaveA P st fr frs (some (.exit id)))
  | .inBlock _ :: k => to k
  | .inScope _ :: k => to k
  | .inLoop p :: k => to (.code p :: .inLoop p :: k)
  | .code p :: k => (match codeAt P fr.fn p with
   | .skip => to k
   | .label _ => to k
   | .seq _ _ => to (.code (p ++ [.l]) :: .code (p ++ [.r]) :: k)
   | .cond c _ _ => (match evalO fr.env c with
    | .bool b => .ite b (to (.code (p ++ [.l]) :: k)) (to (.code (p ++ [.r]) :: k))
    | _ => .fail)
   | .block id _ => to (.code (p ++ [.l]) :: .inBlock id :: k)
   | .loop _ => to (.code (p ++ [.l]) :: .inLoop (p ++ [.l]) :: k)
   | .scope _ => to (.code (p ++ [.l]) :: .inScope (p ++ [.l]) :: k)
   | .exit id => (match exitA id k with | some k' => to k' | none => leaveA P st fr frs (some (.exit id)))
   | .ret => leaveA P st fr frs (some .ret)
   | .rangeFunc f ps _ _ => rangeA P st fr frs p f ps.toList k
   | .region _ ops draw => bif draw
    then bif !(drawOk P ops) then .fail else bif ops.toList.any (mayEnter inl)
     then bif acyB ops then .ret (.go { st with frames := { fr with mays := [], items := .inRegion p (List.range' 0 (ops.size - 0)) :: k } :: frs }) else .fail
     else (drawOps P Φ ops.toList 0 (List.range' 0 (ops.size - 0)) st.nx [] ⟨fr.env, [], st.hp⟩).bind fun s =>
     .ret (.go { frames := { fr with env := s.env, mays := [], items := k } :: frs, hp := s.hp, nx := st.nx + ops.size })
    else to (.inRegion p (List.range ops.size) :: k)
   | _ => .fail)
  | .inRegion _ [] :: k => .ret (.go { st with frames := { fr with mays := [], items := k } :: frs })
  | .inRegion p (i :: r) :: k => (match codeAt P fr.fn p with
   | .region _ ops draw =>
    let b := nextBar inl ops i
    bif draw && Nat.blt i b then
     bif keepsB ops (List.range' i (b - i)) (uniq fr.mays) then (drawOps P Φ ops.toList i (List.range' i (b - i)) st.nx [] ⟨fr.env, uniq fr.mays, st.hp⟩).bind fun s =>
      .ret (.go { frames := { fr with env := s.env, mays := s.mays, items := .inRegion p (List.range' b (ops.size - b)) :: k } :: frs, hp := s.hp, nx := st.nx + ops.size })
     else .fail
    else bif !draw || isBar ops i then (match ops[i]? with
    | some o =>
     let loc : F Out := (oneOp P Φ ops.toList o st.nx ⟨fr.env, fr.mays, st.hp⟩).bind fun s =>
      .ret (.go { frames := { fr with env := s.env, mays := s.mays, items := .inRegion p r :: k } :: frs, hp := s.hp, nx := st.nx + 1 })
     (match o.guard with
     | none => bif turnsB o.op then turnA P st fr frs o.op else (match calleeOf P o (evalM fr.env fr.mays none) with
      | some (.func f, args) => bif inl f
       then (match enterA P f args with
        | some g => .ret (.go { st with frames := g :: fr :: frs })
        | none => .fail)
       else loc
      | some (.yield l, args) => yieldA st fr frs l args
      | _ => loc)
     | some (j, want) => (match guardTg ops j with
      | some tg => (match calleeOf P o (evalM fr.env fr.mays (some (tg, want))) with
       | some (.func f, args) => bif inl f
        then (match guardOf fr.env fr.mays tg want with
         | some q => .ite q (match enterA P f args with
           | some g => .ret (.go { st with frames := g :: fr :: frs })
           | none => .fail) (skipA P st fr frs o tg want q (.inRegion p r :: k))
         | none => .fail)
        else loc
       | some (.yield l, args) => (match guardOf fr.env fr.mays tg want with
        | some q => .ite q (yieldA st fr frs l args) (skipA P st fr frs o tg want q (.inRegion p r :: k))
        | none => .fail)
       | _ => loc)
      | none => loc))
    | none => .fail) else .fail
   | _ => .fail)
  | .beginRound :: k => (match fr.round with
   | some l => (match st.hp.get l with
    | some (.loop .ready pend fn env ps p d) => .ret (.go { st with frames := { fr with items := k } :: frs, hp := (l, .loop .busy pend fn env ps p d) :: st.hp })
    | _ => .fail)
   | none => .fail)
  | .endRange l :: k => (match st.hp.get l with
   | some (.loop .busy _ _ _ _ _ _) => .fail
   | some (.loop _ pend fn env ps p d) => .ret (.go { st with frames := { fr with items := (match pend with | some j => .jmp j :: k | none => k) } :: frs, hp := (l, .loop .exhausted pend fn env ps p d) :: st.hp })
   | _ => .fail)
  | .inRange _ :: _ => .fail
def run {α : Type} (P : Program) (Φ : Ora) (inl : FuncId → Bool) (cuts : St → Option (Option α)) (fin : AV → Hp → Option α) : Nat → St → Option α
 | 0, _ => none
 | n + 1, st => (stepA P Φ inl st).run fun o => match o with
  | .done v h => fin v h
  | .go st' => match cuts st' with
   | some r => r
   | none => run P Φ inl cuts fin n st'
end Go.AM
end
section
namespace Go.AM
open Go.RowKit
structure Ent where
 ver : Nat
 cb : Option Nat
 len : Nat
 perm : Bool
structure Cx where
 w : World
 RO : Nat → Nat → Prop
 M : Nat → Option Ent
def Cat {α β : Type} (R : α → List β → Prop) : List α → List β → Prop
 | [], cs => cs = []
 | x :: xs, cs => ∃ c1 c2, cs = c1 ++ c2 ∧ R x c1 ∧ Cat R xs c2
def Cells (C : Cx) (b o : Nat) (ds : List Value) : Prop :=
 ∀ j v, ds[j]? = some v → C.w.cell? ⟨b, o + j, none⟩ = some v ∧ C.RO b (o + j)
def Rep (C : Cx) : (t : Ty) → t.den → List Value → Prop
 | .int k, x, cs => cs = [.int k x] ∧ inRangeB k x = true
 | .bool, x, cs => cs = [.bool x]
 | .str, x, cs => ∃ s, cs = [.string s] ∧ bytesOf s = x
 | .lst t, xs, cs => ∃ a n c, cs = [.slice a n c] ∧ n = List.length (α := t.den) xs ∧ n ≤ c ∧
   (((xs : List t.den) = [] ∧ (a = none → c = 0)) ∨ ∃ b o ds, a = some ⟨b, o, none⟩ ∧ Cat (Rep C t) xs ds ∧ Cells C b o ds)
 | .arr n t, xs, cs => List.length (α := t.den) xs = n ∧ Cat (Rep C t) xs cs
 | .unit, _, cs => cs = []
 | .pair a b, x, cs => ∃ c1 c2, cs = c1 ++ c2 ∧ Rep C a x.1 c1 ∧ Rep C b x.2 c2
theorem Cat.length {α β : Type} {R : α → List β → Prop} {z : Nat} (h : ∀ x cs, R x cs → cs.length = z) :
  ∀ {xs : List α} {cs : List β}, Cat R xs cs → cs.length = xs.length * z
 | [], cs, e => by obtain rfl : cs = [] := e; simp
 | x :: xs, cs, ⟨c1, c2, e, h1, h2⟩ => by
  subst e; rw [List.length_append, h _ _ h1, Cat.length h h2, List.length_cons, Nat.add_mul]; omega
theorem Rep.length {C : Cx} : ∀ {t : Ty} {x : t.den} {cs : List Value}, Rep C t x cs → cs.length = t.size
 | .int _, _, _, h => by obtain ⟨rfl, _⟩ := h; rfl
 | .bool, _, _, h => by obtain rfl := h; rfl
 | .str, _, _, h => by obtain ⟨_, rfl, _⟩ := h; rfl
 | .lst _, _, _, h => by obtain ⟨_, _, _, rfl, _⟩ := h; rfl
 | .arr n t, xs, cs, h => by
  obtain ⟨e, h⟩ := h
  rw [Cat.length (fun x cs h => Rep.length h) h, e]; rfl
 | .unit, _, _, h => by obtain rfl := h; rfl
 | .pair a b, _, _, h => by obtain ⟨c1, c2, rfl, h1, h2⟩ := h; rw [List.length_append, h1.length, h2.length]; rfl
theorem Cat.mono {α β : Type} {R S : α → List β → Prop} (h : ∀ x cs, R x cs → S x cs) : ∀ {xs : List α} {cs : List β}, Cat R xs cs → Cat S xs cs
 | [], _, e => e
 | _ :: _, _, ⟨c1, c2, e, h1, h2⟩ => ⟨c1, c2, e, h _ _ h1, Cat.mono h h2⟩
theorem Cat.append {α β : Type} {R : α → List β → Prop} : ∀ {xs ys : List α} {cs ds : List β}, Cat R xs cs → Cat R ys ds → Cat R (xs ++ ys) (cs ++ ds)
 | [], _, _, _, e, h => by obtain rfl := e; simpa using h
 | _ :: _, _, _, _, ⟨c1, c2, e, h1, h2⟩, h => ⟨c1, c2 ++ _, by rw [e, List.append_assoc], h1, Cat.append h2 h⟩
theorem Cat.split {α β : Type} {R : α → List β → Prop} {z : Nat} (hz : ∀ x cs, R x cs → cs.length = z) :
  ∀ (k : Nat) {xs : List α} {cs : List β}, Cat R xs cs → Cat R (xs.take k) (cs.take (k * z)) ∧ Cat R (xs.drop k) (cs.drop (k * z))
 | 0, xs, cs, h => by simpa [Cat] using h
 | k + 1, [], cs, h => by obtain rfl : cs = [] := h; simp [Cat]
 | k + 1, x :: xs, cs, ⟨c1, c2, e, h1, h2⟩ => by
  have l1 := hz _ _ h1
  have := Cat.split hz k h2
  subst e
  have e1 : (k + 1) * z = c1.length + k * z := by rw [l1, Nat.add_mul]; omega
  rw [e1, List.take_length_add_append, List.drop_length_add_append]
  exact ⟨⟨c1, _, rfl, h1, this.1⟩, this.2⟩
theorem Cat.get {α β : Type} {R : α → List β → Prop} {z : Nat} (hz : ∀ x cs, R x cs → cs.length = z) {xs : List α} {cs : List β} (h : Cat R xs cs)
  {k : Nat} (hk : k < xs.length) : R xs[k] ((cs.drop (k * z)).take z) := by
 have h2 := (Cat.split hz k h).2
 rw [List.drop_eq_getElem_cons hk] at h2
 obtain ⟨c1, c2, e, h1, _⟩ := h2
 rw [e, ← hz _ _ h1, List.take_left]; exact h1
theorem Cat.set {α β : Type} {R : α → List β → Prop} {z : Nat} (hz : ∀ x cs, R x cs → cs.length = z) {xs : List α} {cs : List β} (h : Cat R xs cs)
  {k : Nat} (hk : k < xs.length) {y : α} {ds : List β} (hy : R y ds) : Cat R (xs.set k y) (cs.take (k * z) ++ (ds ++ cs.drop (k * z + z))) := by
 have h1 := (Cat.split hz k h).1
 have h2 := (Cat.split hz (k + 1) h).2
 rw [List.set_eq_take_append_cons_drop, if_pos hk]
 refine Cat.append h1 ⟨ds, _, rfl, hy, ?_⟩
 rw [Nat.add_mul, Nat.one_mul] at h2; exact h2
structure Cx.Le (C C' : Cx) : Prop where
 ro : ∀ b j, C.RO b j → C'.RO b j
 cell : ∀ b j, C.RO b j → C'.w.cell? ⟨b, j, none⟩ = C.w.cell? ⟨b, j, none⟩
 ent : ∀ b e, C.M b = some e → ∃ e', C'.M b = some e' ∧ e.ver ≤ e'.ver ∧ (e.ver = e'.ver → e' = e) ∧ (e.perm = true → e' = e)
 sz : ∀ b j, (C.w.cell? ⟨b, j, none⟩).isSome = true → (C'.w.cell? ⟨b, j, none⟩).isSome = true
theorem Cx.Le.refl (C : Cx) : C.Le C := ⟨fun _ _ h => h, fun _ _ _ => rfl, fun _ e h => ⟨e, h, Nat.le_refl _, fun _ => rfl, fun _ => rfl⟩, fun _ _ h => h⟩
theorem Cx.Le.trans {A B C : Cx} (h : A.Le B) (k : B.Le C) : A.Le C where
 ro b j r := k.ro _ _ (h.ro _ _ r)
 cell b j r := (k.cell _ _ (h.ro _ _ r)).trans (h.cell _ _ r)
 ent b e r := by
  obtain ⟨e', h1, h2, h3, h4⟩ := h.ent _ _ r
  obtain ⟨e'', k1, k2, k3, k4⟩ := k.ent _ _ h1
  refine ⟨e'', k1, Nat.le_trans h2 k2, fun q => ?_, fun q => ?_⟩
  ·have : e.ver = e'.ver := by omega
   obtain rfl := h3 this
   exact k3 (by omega)
  ·obtain rfl := h4 q
   exact k4 q
 sz b j r := k.sz _ _ (h.sz _ _ r)
theorem Cells.mono {C C' : Cx} (l : C.Le C') {b o : Nat} {ds : List Value} (h : Cells C b o ds) : Cells C' b o ds :=
 fun j v e => let ⟨h1, h2⟩ := h j v e; ⟨(l.cell _ _ h2).trans h1, l.ro _ _ h2⟩
theorem Rep.mono {C C' : Cx} (l : C.Le C') : ∀ {t : Ty} {x : t.den} {cs : List Value}, Rep C t x cs → Rep C' t x cs
 | .int _, _, _, h => h
 | .bool, _, _, h => h
 | .str, _, _, h => h
 | .lst t, _, _, ⟨a, n, c, e, e1, e2, h⟩ => ⟨a, n, c, e, e1, e2, h.imp id fun ⟨b, o, ds, e3, h1, h2⟩ => ⟨b, o, ds, e3, h1.mono fun _ _ => Rep.mono l, h2.mono l⟩⟩
 | .arr _ t, _, _, ⟨e, h⟩ => ⟨e, h.mono fun _ _ => Rep.mono l⟩
 | .unit, _, _, h => h
 | .pair _ _, _, _, ⟨c1, c2, e, h1, h2⟩ => ⟨c1, c2, e, h1.mono l, h2.mono l⟩
def poff : List PStep → Nat
 | [] => 0
 | .off d :: r => d + poff r
 | .ix i z _ :: r => i.toNat * z + poff r
def PathOK (len : Nat) : List PStep → Prop
 | [] => True
 | .off _ :: r => PathOK len r
 | .ix i _ m :: r => 0 ≤ i ∧ i < (m.getD len : Nat) ∧ PathOK len r
def Bsz (C : Cx) (c : Nat) (n : Nat) : Prop := ∀ j, j < n → (C.w.cell? ⟨c, j, none⟩).isSome = true
def OwnOK (C : Cx) (e : Ent) (t : Ty) (v : Value) : Prop :=
 match e.cb with
 | some c => ∃ cap, v = .slice (some ⟨c, 0, none⟩) e.len cap ∧ e.len ≤ cap ∧ Bsz C c (cap * t.size)
 | none => e.len = 0 ∧ v = .slice none 0 0
def SlcOK (C : Cx) (e : Ent) (o : Nat) (m : Option Nat) (t : Ty) (i n : Int) (v : Value) : Prop :=
 0 ≤ i ∧ 0 ≤ n ∧ i + n ≤ (m.getD e.len : Nat) ∧
 match e.cb with
 | none => m = none ∧ e.len = 0 ∧ v = .slice none 0 0
 | some c => ∃ a cap, v = .slice (some a) n.toNat cap ∧ (cap ≠ 0 → a = ⟨c, o + i.toNat * t.size, none⟩) ∧ (m.getD e.len : Nat) ≤ i.toNat + cap ∧ Bsz C c (o + (i.toNat + cap) * t.size)
def cellV : Value → Bool
 | .agg _ | .tuple _ => false
 | _ => true
def FnR (C : Cx) (f f' : Fn) : Prop :=
 match f with
 | .yield l => ∃ e c, C.M l = some e ∧ e.perm = true ∧ e.cb = some c ∧ f' = .yield c
 | f => f' = f
mutual
inductive VR (C : Cx) : AV → Value → Prop
 | junk (v : Value) : VR C .junk v
 | int {k n} : inRangeB k n = true → VR C (.int k n) (.int k n)
 | bool {b} : VR C (.bool b) (.bool b)
 | str {s l} : bytesOf s = l → VR C (.str l) (.string s)
 | lst {t xs v} : Rep C (.lst t) xs [v] → VR C (.lst t xs) v
 | nlst {t xs v} : Rep C (.lst t) xs [v] → (∃ a n c, v = .slice (some a) n c) → VR C (.nlst t xs) v
 | arr {n t xs cs} : Rep C (.arr n t) xs cs.toList → VR C (.arr n t xs) (.agg cs)
 | rp {t x o b p ds} : Rep C t x ds → Cells C b p ds → VR C (.rp t x o) (.pointer (some ⟨b, p + o, none⟩))
 | ptr {b v o path e val} : C.M b = some e → v ≤ e.ver → (v = e.ver → ∃ c, e.cb = some c ∧ val = .pointer (some ⟨c, o + poff path, none⟩) ∧ PathOK e.len path) → (∃ a, val = .pointer (some a)) → VR C (.ptr b v o path) val
 | own {b v t e val} : C.M b = some e → v ≤ e.ver → (v = e.ver → OwnOK C e t val) → (∃ a n c, val = .slice a n c) → VR C (.own b v t) val
 | slc {b v o m t i n e val} : C.M b = some e → v ≤ e.ver → (v = e.ver → SlcOK C e o m t i n val) → (∃ a n c, val = .slice a n c) → VR C (.slc b v o m t i n) val
 | nilSlc : VR C .nilSlc (.slice none 0 0)
 | nilPtr : VR C .nilPtr (.pointer none)
 | nilFn : VR C .nilFn .nilFunc
 | nilIface : VR C .nilIface .nilIface
 | fn {f f' a b aas bs} : FnR C f f' → VRs C a aas → VRs C b bs → VR C (.fn f a b) (.func f' aas.toArray bs.toArray)
 | iface {t x v} : VR C x v → VR C (.iface t x) (.iface t v)
 | agg {ps cs} : PR C ps cs → VR C (.agg ps) (.agg cs.toArray)
 | tup {vs cs} : VRs C vs cs → VR C (.tup vs) (.tuple cs.toArray)
inductive VRs (C : Cx) : List AV → List Value → Prop
 | nil : VRs C [] []
 | cons {a v aas vs} : VR C a v → VRs C aas vs → VRs C (a :: aas) (v :: vs)
inductive PR (C : Cx) : List AV → List Value → Prop
 | nil : PR C [] []
 | sc {p v ps vs} : VR C p v → p.scal = true → cellV v = true → PR C ps vs → PR C (p :: ps) (v :: vs)
 | arr {n t xs c1 ps c2} : Rep C (.arr n t) xs c1 → PR C ps c2 → PR C (.arr n t xs :: ps) (c1 ++ c2)
 | row {t xs c1 ps c2} : Cat (Rep C t) xs c1 → PR C ps c2 → PR C (.row t xs :: ps) (c1 ++ c2)
end
theorem Bsz.mono {C C' : Cx} (l : C.Le C') {c n : Nat} (h : Bsz C c n) : Bsz C' c n := fun j hj => l.sz _ _ (h j hj)
theorem OwnOK.mono {C C' : Cx} (l : C.Le C') {e : Ent} {t : Ty} {v : Value} (h : OwnOK C e t v) : OwnOK C' e t v := by
 unfold OwnOK at *
 split <;> simp_all
 obtain ⟨cap, h1, h2, h3⟩ := h
 exact ⟨cap, h1, h2, h3.mono l⟩
theorem SlcOK.mono {C C' : Cx} (l : C.Le C') {e o m t i n v} (h : SlcOK C e o m t i n v) : SlcOK C' e o m t i n v := by
 unfold SlcOK at *
 obtain ⟨h1, h2, h3, h4⟩ := h
 refine ⟨h1, h2, h3, ?_⟩
 revert h4
 split
 ·exact id
 ·rintro ⟨a, cap, k1, k2, k3, k4⟩; exact ⟨a, cap, k1, k2, k3, k4.mono l⟩
theorem FnR.mono {C C' : Cx} (l : C.Le C') {f f'} (h : FnR C f f') : FnR C' f f' := by
 cases f with
 | yield b =>
  obtain ⟨e, c, h1, h2, h3⟩ := h
  obtain ⟨e', k1, k2, k3, k4⟩ := l.ent _ _ h1
  obtain rfl := k4 h2
  exact ⟨e', c, k1, h2, h3⟩
 | _ => exact h
mutual
theorem VR.mono {C C' : Cx} (l : C.Le C') : ∀ {a v}, VR C a v → VR C' a v
 | _, _, .junk v => .junk v
 | _, _, .int h => .int h
 | _, _, .bool => .bool
 | _, _, .str h => .str h
 | _, _, .lst h => .lst (h.mono l)
 | _, _, .nlst h k => .nlst (h.mono l) k
 | _, _, .arr h => .arr (h.mono l)
 | _, _, .rp h1 h2 => .rp (h1.mono l) (h2.mono l)
 | _, _, .ptr h1 h2 h3 h4 => by
  obtain ⟨e', k1, k2, k3, _⟩ := l.ent _ _ h1
  exact .ptr k1 (Nat.le_trans h2 k2) (fun q => by
   (obtain rfl := k3 (by omega); exact h3 q)) h4
 | _, _, .own h1 h2 h3 h4 => by
  obtain ⟨e', k1, k2, k3, _⟩ := l.ent _ _ h1
  exact .own k1 (Nat.le_trans h2 k2) (fun q => by
   (obtain rfl := k3 (by omega); exact (h3 q).mono l)) h4
 | _, _, .slc h1 h2 h3 h4 => by
  obtain ⟨e', k1, k2, k3, _⟩ := l.ent _ _ h1
  exact .slc k1 (Nat.le_trans h2 k2) (fun q => by
   (obtain rfl := k3 (by omega); exact (h3 q).mono l)) h4
 | _, _, .nilSlc => .nilSlc
 | _, _, .nilPtr => .nilPtr
 | _, _, .nilFn => .nilFn
 | _, _, .nilIface => .nilIface
 | _, _, .fn h1 h2 h3 => .fn (h1.mono l) (h2.mono l) (h3.mono l)
 | _, _, .iface h => .iface (h.mono l)
 | _, _, .agg h => .agg (h.mono l)
 | _, _, .tup h => .tup (h.mono l)
theorem VRs.mono {C C' : Cx} (l : C.Le C') : ∀ {a v}, VRs C a v → VRs C' a v
 | _, _, .nil => .nil
 | _, _, .cons h1 h2 => .cons (h1.mono l) (h2.mono l)
theorem PR.mono {C C' : Cx} (l : C.Le C') : ∀ {a v}, PR C a v → PR C' a v
 | _, _, .nil => .nil
 | _, _, .sc h1 h2 h3 h4 => .sc (h1.mono l) h2 h3 (h4.mono l)
 | _, _, .arr h1 h2 => .arr (h1.mono l) (h2.mono l)
 | _, _, .row h1 h2 => .row (h1.mono fun _ _ => Rep.mono l) (h2.mono l)
end
theorem foldl_add (l : List Nat) (a : Nat) : l.foldl (· + ·) a = a + l.foldl (· + ·) 0 := by
 induction l generalizing a with
 | nil => simp
 | cons x r ih => simp only [List.foldl_cons]; rw [ih, ih (0 + x)]; omega
@[simp] theorem partsSize_nil : partsSize [] = 0 := rfl
@[simp] theorem partsSize_cons (p : AV) (ps : List AV) : partsSize (p :: ps) = p.size + partsSize ps := by
 unfold partsSize; simp only [List.map_cons, List.foldl_cons]; rw [foldl_add]; omega
@[simp] theorem partsSize_append (ps qs : List AV) : partsSize (ps ++ qs) = partsSize ps + partsSize qs := by
 induction ps with
 | nil => simp
 | cons p r ih => simp [ih]; omega
theorem size_scal {p : AV} (h : p.scal = true) : p.size = 1 := by cases p <;> simp_all [AV.scal, AV.size]
theorem PR.length {C : Cx} : ∀ {ps cs}, PR C ps cs → cs.length = partsSize ps
 | _, _, .nil => rfl
 | _, _, .sc _ h2 _ h4 => by simp [size_scal h2, h4.length]; omega
 | _, _, .arr h1 h2 => by simp [h2.length, h1.length, AV.size, Ty.size]
 | _, _, .row h1 h2 => by simp [h2.length, Cat.length (fun _ _ h => Rep.length h) h1, AV.size]
theorem PR.append {C : Cx} : ∀ {ps cs qs ds}, PR C ps cs → PR C qs ds → PR C (ps ++ qs) (cs ++ ds)
 | _, _, _, _, .nil, h => h
 | _, _, _, _, .sc h1 h2 h3 h4, h => .sc h1 h2 h3 (h4.append h)
 | _, _, _, _, .arr h1 h2, h => by rw [List.append_assoc]; exact .arr h1 (h2.append h)
 | _, _, _, _, .row h1 h2, h => by rw [List.append_assoc]; exact .row h1 (h2.append h)
theorem PR.uncons {C : Cx} {p : AV} {ps : List AV} {cs : List Value} (h : PR C (p :: ps) cs) :
  ∃ c1 c2, cs = c1 ++ c2 ∧ PR C [p] c1 ∧ PR C ps c2 ∧ c1.length = p.size := by
 cases h with
 | sc h1 h2 h3 h4 => exact ⟨[_], _, rfl, .sc h1 h2 h3 .nil, h4, by simp [size_scal h2]⟩
 | arr h1 h2 => exact ⟨_, _, rfl, by simpa using PR.arr h1 .nil, h2, by rw [h1.length]; rfl⟩
 | row h1 h2 => exact ⟨_, _, rfl, by simpa using PR.row h1 .nil, h2, by rw [Cat.length (fun _ _ h => Rep.length h) h1]; rfl⟩
theorem PR.cons {C : Cx} {p : AV} {ps : List AV} {c1 c2 : List Value} (h : PR C [p] c1) (k : PR C ps c2) : PR C (p :: ps) (c1 ++ c2) :=
 PR.append (ps := [p]) h k
theorem PR.partsAt {C : Cx} : ∀ {ps cs} (o : Nat), PR C ps cs → AM.partsAt ps o ≠ [] → PR C (AM.partsAt ps o) (cs.drop o) ∧ o ≤ cs.length
 | [], _, o, _, hn => by simp [AM.partsAt] at hn
 | p :: ps, cs, o, h, hn => by
  unfold AM.partsAt at hn ⊢
  cases ho : Nat.beq o 0 with
  | true => obtain rfl := Nat.eq_of_beq_eq_true ho; exact ⟨by simpa using h, by simp⟩
  | false =>
   simp only [ho, cond_false] at hn ⊢
   cases hb : Nat.blt o p.size with
   | true => simp [hb] at hn
   | false =>
    simp only [hb, cond_false] at hn ⊢
    have hle : p.size ≤ o := by
     have : ¬ o < p.size := by intro h; rw [← Nat.blt_eq] at h; simp [hb] at h
     omega
    obtain ⟨c1, c2, rfl, h1, h2, h3⟩ := h.uncons
    obtain ⟨k1, k2⟩ := PR.partsAt (o - p.size) h2 hn
    refine ⟨?_, by simp; omega⟩
    rw [List.drop_append, List.drop_eq_nil_of_le (by omega), List.nil_append, h3]
    exact k1
theorem PR.take {C : Cx} : ∀ {n : Nat} {ps cs l}, PR C ps cs → takeCells ps n = some l → PR C l (cs.take n) ∧ n ≤ cs.length
 | 0, ps, cs, l, h, e => by
  simp [takeCells] at e; subst e; exact ⟨by simpa using PR.nil, by simp⟩
 | n + 1, [], cs, l, h, e => by simp [takeCells] at e
 | n + 1, p :: ps, cs, l, h, e => by
  obtain ⟨c1, c2, rfl, h1, h2, h3⟩ := h.uncons
  unfold takeCells at e
  cases hb : Nat.ble p.size (n + 1) with
  | false => simp [hb] at e
  | true =>
   simp only [hb, cond_true] at e
   have hle := Nat.le_of_ble_eq_true hb
   split at e
   ·rename_i l' hl
    obtain rfl := Option.some.inj e
    obtain ⟨k1, k2⟩ := PR.take h2 hl
    refine ⟨?_, by simp; omega⟩
    rw [List.take_append, List.take_of_length_le (by omega), h3]
    exact h1.cons k1
   ·simp at e
 termination_by _ ps => ps.length
end Go.AM
end
section
namespace Go.AM
theorem PR.dropTake {C : Cx} : ∀ {n : Nat} {ps cs l}, PR C ps cs → takeCells ps n = some l → PR C (ps.drop l.length) (cs.drop n)
 | 0, ps, cs, l, h, e => by simp [takeCells] at e; subst e; simpa using h
 | n + 1, [], cs, l, h, e => by simp [takeCells] at e
 | n + 1, p :: ps, cs, l, h, e => by
  obtain ⟨c1, c2, rfl, h1, h2, h3⟩ := h.uncons
  unfold takeCells at e
  cases hb : Nat.ble p.size (n + 1) with
  | false => simp [hb] at e
  | true =>
   simp only [hb, cond_true] at e
   have hle := Nat.le_of_ble_eq_true hb
   split at e
   ·rename_i l' hl
    obtain rfl := Option.some.inj e
    have k1 := PR.dropTake h2 hl
    rw [List.drop_append (l₁ := c1), List.drop_eq_nil_of_le (as := c1) (by omega), List.nil_append, h3]
    exact k1
   ·simp at e
 termination_by _ ps => ps.length
theorem PR.put {C : Cx} : ∀ {o : Nat} {n : Nat} {ps cs new qs ds}, PR C ps cs → putCells ps o new n = some qs → PR C new ds → ds.length = n →
  PR C qs (cs.take o ++ (ds ++ cs.drop (o + n))) ∧ o + n ≤ cs.length
 | 0, n, ps, cs, new, qs, ds, h, e, hn, hd => by
  have e' : (match takeCells ps n with | some l => some (new ++ ps.drop l.length) | none => none) = some qs := by
   rw [← e]; cases ps <;> rfl
  split at e'
  ·rename_i l hl
   obtain rfl := Option.some.inj e'
   obtain ⟨k1, k2⟩ := h.take hl
   have k3 := h.dropTake hl
   refine ⟨?_, by omega⟩
   simpa using hn.append k3
  ·simp at e'
 | o + 1, n, [], cs, new, qs, ds, h, e, hn, hd => by simp [putCells] at e
 | o + 1, n, p :: ps, cs, new, qs, ds, h, e, hn, hd => by
  obtain ⟨c1, c2, rfl, h1, h2, h3⟩ := h.uncons
  unfold putCells at e
  cases hb : Nat.ble p.size (o + 1) with
  | false => simp [hb] at e
  | true =>
   simp only [hb, cond_true] at e
   have hle := Nat.le_of_ble_eq_true hb
   split at e
   ·rename_i l hl
    obtain rfl := Option.some.inj e
    obtain ⟨k1, k2⟩ := PR.put h2 hl hn hd
    refine ⟨?_, by simp; omega⟩
    rw [List.take_append, List.take_of_length_le (by omega), List.drop_append, List.drop_eq_nil_of_le (by omega), List.nil_append, h3, List.append_assoc]
    rw [show o + 1 + n - p.size = o + 1 - p.size + n by omega]
    exact h1.cons k1
   ·simp at e
 termination_by _ _ ps => ps.length
theorem PR.of_inj {C : Cx} : ∀ {t : Ty} {x : t.den} {cs : List Value}, Rep C t x cs → PR C (inj t x) cs
 | .int _, _, _, h => by obtain ⟨rfl, h⟩ := h; exact .sc (.int h) rfl rfl .nil
 | .bool, _, _, h => by obtain rfl := h; exact .sc .bool rfl rfl .nil
 | .str, _, _, h => by obtain ⟨_, rfl, h⟩ := h; exact .sc (.str h) rfl rfl .nil
 | .lst _, _, _, h => by
  have h0 := h
  obtain ⟨_, _, _, rfl, _⟩ := h
  exact .sc (.lst h0) rfl rfl .nil
 | .arr _ _, _, cs, h => by have := PR.arr h .nil; rw [List.append_nil] at this; exact this
 | .unit, _, _, h => by obtain rfl := h; exact .nil
 | .pair _ _, _, _, ⟨_, _, e, h1, h2⟩ => by subst e; exact (PR.of_inj h1).append (PR.of_inj h2)
theorem PR.pack {C : Cx} : ∀ {t : Ty} {ps : List AV} {cs : List Value} {x : t.den} {r : List AV}, PR C ps cs → AM.pack t ps = some (x, r) →
  ∃ c1 c2, cs = c1 ++ c2 ∧ Rep C t x c1 ∧ PR C r c2
 | .int k, ps, cs, x, r, h, e => by
  cases ps with
  | nil => simp [AM.pack] at e
  | cons p ps =>
   cases p <;> simp [AM.pack] at e
   obtain ⟨e0, e⟩ := e
   obtain ⟨e1, e2⟩ := Prod.mk.inj e
   cases h with
   | sc h1 h2 h3 h4 =>
    cases h1 with
    | int hr => subst e0; subst e1; subst e2; exact ⟨[_], _, rfl, ⟨rfl, hr⟩, h4⟩
 | .bool, ps, cs, x, r, h, e => by
  cases ps with
  | nil => simp [AM.pack] at e
  | cons p ps =>
   cases p <;> simp [AM.pack] at e
   obtain ⟨e1, e2⟩ := Prod.mk.inj e
   cases h with
   | sc h1 h2 h3 h4 =>
    cases h1 with
    | bool => subst e1; subst e2; exact ⟨[_], _, rfl, rfl, h4⟩
 | .str, ps, cs, x, r, h, e => by
  cases ps with
  | nil => simp [AM.pack] at e
  | cons p ps =>
   cases p <;> simp [AM.pack] at e
   obtain ⟨e1, e2⟩ := Prod.mk.inj e
   cases h with
   | sc h1 h2 h3 h4 =>
    cases h1 with
    | str hr => subst e1; subst e2; exact ⟨[_], _, rfl, ⟨_, rfl, hr⟩, h4⟩
 | .lst t, ps, cs, x, r, h, e => by
  cases ps with
  | nil => simp [AM.pack] at e
  | cons p ps =>
   cases p <;> simp [AM.pack] at e
   case lst t' xs =>
    obtain ⟨e0, e⟩ := e
    subst e0
    obtain ⟨e1, e2⟩ := Prod.mk.inj e
    cases h with
    | sc h1 h2 h3 h4 =>
     cases h1 with
     | lst hr => subst e1; subst e2; exact ⟨[_], _, rfl, hr, h4⟩
   case nilSlc =>
    obtain ⟨e1, e2⟩ := Prod.mk.inj e
    cases h with
    | sc h1 h2 h3 h4 =>
     cases h1 with
     | nilSlc => subst e1; subst e2; exact ⟨[_], _, rfl, ⟨none, 0, 0, rfl, rfl, by omega, .inl ⟨rfl, fun _ => rfl⟩⟩, h4⟩
 | .arr n t, ps, cs, x, r, h, e => by
  cases ps with
  | nil => simp [AM.pack] at e
  | cons p ps =>
   cases p <;> simp [AM.pack] at e
   obtain ⟨e0, e9, e⟩ := e
   subst e0; subst e9
   obtain ⟨e1, e2⟩ := Prod.mk.inj e
   cases h with
   | sc h1 h2 h3 h4 => simp [AV.scal] at h2
   | arr h1 h2 => subst e1; subst e2; exact ⟨_, _, rfl, h1, h2⟩
 | .unit, ps, cs, x, r, h, e => by
  have e : some ((), ps) = some (x, r) := by rw [← e]; cases ps <;> rfl
  obtain ⟨e1, e2⟩ := Prod.mk.inj (Option.some.inj e)
  subst e2; exact ⟨[], cs, rfl, rfl, h⟩
 | .pair a b, ps, cs, x, r, h, e => by
  have e : (match AM.pack a ps with
   | some (x, r') => (match AM.pack b r' with | some (y, r'') => some ((x, y), r'') | none => none)
   | none => none) = some (x, r) := by rw [← e]; cases ps <;> rfl
  split at e
  ·rename_i x1 r1 e1
   split at e
   ·rename_i y1 r2 e2
    obtain ⟨e3, e4⟩ := Prod.mk.inj (Option.some.inj e)
    subst e3; subst e4
    obtain ⟨c1, c2, rfl, k1, k2⟩ := PR.pack h e1
    obtain ⟨c3, c4, rfl, k3, k4⟩ := PR.pack k2 e2
    exact ⟨c1 ++ c3, c4, by simp, ⟨c1, c3, rfl, k1, k3⟩, k4⟩
   ·simp at e
  ·simp at e
theorem PR.packAll {C : Cx} {t : Ty} {ps : List AV} {cs : List Value} {x : t.den} (h : PR C ps cs) (e : AM.packAll t ps = some x) : Rep C t x cs := by
 unfold AM.packAll at e
 split at e
 ·rename_i y e1
  obtain rfl := Option.some.inj e
  obtain ⟨c1, c2, rfl, k1, k2⟩ := h.pack e1
  cases k2
  simpa using k1
 ·simp at e
theorem rd_eq {α : Type} (d : α) {xs : List α} {i : Int} (h0 : 0 ≤ i) (h1 : i < xs.length) : ∃ h : i.toNat < xs.length, rd d xs i = xs[i.toNat] := by
 have h : i.toNat < xs.length := by omega
 refine ⟨h, ?_⟩
 unfold rd; simp [h]
theorem Rep.sub {C : Cx} : ∀ {t : Ty} {x : t.den} {cs : List Value} {o : Nat} {s : Sub t.den}, Rep C t x cs → subAt t x o = some s →
  s.n = some s.xs.length ∧ o + s.xs.length * s.t.size ≤ cs.length ∧ Cat (Rep C s.t) s.xs ((cs.drop o).take (s.xs.length * s.t.size)) ∧
  ∀ ys ds, ys.length = s.xs.length → Cat (Rep C s.t) ys ds → Rep C t (s.put ys) (cs.take o ++ (ds ++ cs.drop (o + s.xs.length * s.t.size)))
 | .int _, _, _, _, _, _, e => by simp [subAt] at e
 | .bool, _, _, _, _, _, e => by simp [subAt] at e
 | .str, _, _, _, _, _, e => by simp [subAt] at e
 | .lst _, _, _, _, _, _, e => by simp [subAt] at e
 | .unit, _, _, _, _, _, e => by simp [subAt] at e
 | .arr n t, x, cs, o, s, ⟨hn, h⟩, e => by
  cases o with
  | succ o => simp [subAt] at e
  | zero =>
   simp only [subAt, Option.some.injEq] at e
   subst e
   have hl := Cat.length (fun _ _ h => Rep.length h) h
   refine ⟨by simp [← hn], by simp [hl], ?_, ?_⟩
   ·simpa [← hl] using h
   ·intro ys ds hy hd
    refine ⟨by simpa [hy] using hn, ?_⟩
    simpa [← hl] using hd
 | .pair a b, x, cs, o, s, ⟨c1, c2, hc, h1, h2⟩, e => by
  subst hc
  have l1 := h1.length
  unfold subAt at e
  cases hb : Nat.blt o a.size with
  | true =>
   have hlt : o < a.size := by rw [← Nat.blt_eq]; simpa using hb
   simp only [hb, cond_true] at e
   split at e
   ·rename_i s' e'
    obtain rfl := Option.some.inj e
    obtain ⟨k1, k2, k3, k4⟩ := Rep.sub h1 e'
    refine ⟨k1, by simp; omega, ?_, ?_⟩
    ·rw [List.drop_append, List.take_append, show s'.xs.length * s'.t.size - (c1.drop o).length = 0 by simp; omega]
     simpa using k3
    ·intro ys ds hy hd
     have := k4 ys ds hy hd
     refine ⟨_, c2, ?_, this, h2⟩
     rw [List.take_append, show o - c1.length = 0 by omega, List.drop_append, show o + s'.xs.length * s'.t.size - c1.length = 0 by omega]
     simp
   ·simp at e
  | false =>
   have hge : a.size ≤ o := by
    have : ¬ o < a.size := by intro h; rw [← Nat.blt_eq] at h; simp [hb] at h
    omega
   simp only [hb, cond_false] at e
   split at e
   ·rename_i s' e'
    obtain rfl := Option.some.inj e
    obtain ⟨k1, k2, k3, k4⟩ := Rep.sub h2 e'
    refine ⟨k1, by simp; omega, ?_, ?_⟩
    ·rw [List.drop_append, List.drop_eq_nil_of_le (by omega), List.nil_append, l1]; exact k3
    ·intro ys ds hy hd
     have := k4 ys ds hy hd
     refine ⟨c1, _, ?_, h1, this⟩
     rw [List.take_append, List.take_of_length_le (by omega), List.drop_append, List.drop_eq_nil_of_le (by omega), List.nil_append, l1, List.append_assoc]
     rw [show o + s'.xs.length * s'.t.size - a.size = o - a.size + s'.xs.length * s'.t.size by omega]
   ·simp at e
theorem sameM_some {k : Nat} {m : Option Nat} (h : sameM (some k) m = true) : m = some k := by
 cases m with
 | none => simp [sameM] at h
 | some j => simp [sameM] at h; rw [h]
theorem take_drop_take {α : Type} (cs : List α) (o a b k : Nat) (h : a + b ≤ k) : (((cs.drop o).take k).drop a).take b = (cs.drop (o + a)).take b := by
 rw [List.drop_take, List.take_take, List.drop_drop, Nat.min_eq_left (by omega)]
theorem mul_le_of_lt {i m z : Nat} (h : i < m) : i * z + z ≤ m * z := by
 have : (i + 1) * z ≤ m * z := Nat.mul_le_mul_right z h
 rw [Nat.add_mul] at this; omega
theorem Rep.getPath {C : Cx} (len : Nat) : ∀ {p : List PStep} {t : Ty} {x : t.den} {cs : List Value} {o n : Nat} {l : List AV}, Rep C t x cs → AM.getPath p t x o n = some l → PathOK len p →
  PR C l ((cs.drop (o + poff p)).take n) ∧ (n ≠ 0 → o + poff p + n ≤ cs.length)
 | [], t, x, cs, o, n, l, h, e, _ => by
  simp only [AM.getPath] at e
  simp only [poff, Nat.add_zero]
  cases n with
  | zero => simp [takeCells] at e; subst e; exact ⟨by simpa using PR.nil, by simp⟩
  | succ n =>
   have hne : partsAt (inj t x) o ≠ [] := by intro h; rw [h] at e; simp [takeCells] at e
   obtain ⟨k1, k2⟩ := (PR.of_inj h).partsAt o hne
   obtain ⟨k3, k4⟩ := k1.take e
   refine ⟨k3, fun _ => by simp at k4; omega⟩
 | .off d :: p, t, x, cs, o, n, l, h, e, hp => by
  have := Rep.getPath len (p := p) h e hp
  simpa [poff, Nat.add_assoc] using this
 | .ix i z m :: p, t, x, cs, o, n, l, h, e, hp => by
  simp only [AM.getPath] at e
  split at e
  ·rename_i s hs
   obtain ⟨k1, k2, k3, k4⟩ := h.sub hs
   cases hb : sameM s.n m && Nat.beq s.t.size z with
   | false => simp [hb] at e
   | true =>
    simp only [hb, cond_true] at e
    simp only [Bool.and_eq_true] at hb
    obtain ⟨hb1, hb2⟩ := hb
    rw [k1] at hb1
    obtain rfl := sameM_some hb1
    obtain rfl := Nat.eq_of_beq_eq_true hb2
    obtain ⟨p1, p2, p3⟩ := hp
    simp only [Option.getD_some] at p2
    obtain ⟨hi, hr⟩ := rd_eq s.t.zero p1 p2
    rw [hr] at e
    have hg := Cat.get (fun _ _ h => Rep.length h) k3 hi
    have hm := mul_le_of_lt (z := s.t.size) hi
    rw [take_drop_take _ _ _ _ _ hm] at hg
    obtain ⟨q1, q2⟩ := Rep.getPath len (p := p) hg e p3
    have hl := hg.length
    refine ⟨?_, fun hn => ?_⟩
    ·by_cases hn : n = 0
     ·subst hn; simpa using q1
     ·have q2 := q2 hn
      rw [hl] at q2
      rw [take_drop_take _ _ _ _ _ (by omega)] at q1
      simpa [poff, Nat.add_assoc] using q1
    ·have q2 := q2 hn
     rw [hl] at q2
     simp only [poff]; omega
  ·simp at e
theorem Rep.setPath {C : Cx} (len : Nat) : ∀ {p : List PStep} {t : Ty} {x y : t.den} {cs ds : List Value} {o n : Nat} {new : List AV}, Rep C t x cs → AM.setPath p t x o new n = some y → PathOK len p →
  PR C new ds → ds.length = n → Rep C t y (cs.take (o + poff p) ++ (ds ++ cs.drop (o + poff p + n))) ∧ o + poff p + n ≤ cs.length
 | [], t, x, y, cs, ds, o, n, new, h, e, _, hn, hd => by
  simp only [AM.setPath] at e
  split at e
  ·rename_i ps hps
   obtain ⟨k1, k2⟩ := (PR.of_inj h).put hps hn hd
   simpa [poff] using ⟨k1.packAll e, k2⟩
  ·simp at e
 | .off d :: p, t, x, y, cs, ds, o, n, new, h, e, hp, hn, hd => by
  have := Rep.setPath len (p := p) h e hp hn hd
  simpa [poff, Nat.add_assoc] using this
 | .ix i z m :: p, t, x, y, cs, ds, o, n, new, h, e, hp, hn, hd => by
  simp only [AM.setPath] at e
  split at e
  ·rename_i s hs
   obtain ⟨k1, k2, k3, k4⟩ := h.sub hs
   cases hb : sameM s.n m && Nat.beq s.t.size z with
   | false => simp [hb] at e
   | true =>
    simp only [hb, cond_true] at e
    simp only [Bool.and_eq_true] at hb
    obtain ⟨hb1, hb2⟩ := hb
    rw [k1] at hb1
    obtain rfl := sameM_some hb1
    obtain rfl := Nat.eq_of_beq_eq_true hb2
    obtain ⟨p1, p2, p3⟩ := hp
    simp only [Option.getD_some] at p2
    obtain ⟨hi, hr⟩ := rd_eq s.t.zero p1 p2
    rw [hr] at e
    split at e
    ·rename_i y' hy'
     obtain rfl := Option.some.inj e
     have hg := Cat.get (fun _ _ h => Rep.length h) k3 hi
     have hm := mul_le_of_lt (z := s.t.size) hi
     rw [take_drop_take _ _ _ _ _ hm] at hg
     obtain ⟨q1, q2⟩ := Rep.setPath len (p := p) hg hy' p3 hn hd
     have hl := hg.length
     rw [hl] at q2
     have hset := Cat.set (fun _ _ h => Rep.length h) k3 hi q1
     have := k4 _ _ (by simp) hset
     refine ⟨?_, by simp only [poff]; omega⟩
     refine (congrArg (Rep C t _) ?_).mp this
     simp only [poff]
     generalize i.toNat * s.t.size = a at *
     generalize s.xs.length * s.t.size = b at *
     generalize s.t.size = c at *
     generalize poff p = d at *
     have hle : o + b ≤ cs.length := k2
     apply List.ext_getElem?
     intro j
     simp only [List.getElem?_append, List.getElem?_take, List.getElem?_drop, List.length_take, List.length_append, List.length_drop]
     have e1 : min (o + (a + d)) cs.length = o + (a + d) := by omega
     have e2 : min o cs.length = o := by omega
     have e3 : min a (min b (cs.length - o)) = a := by omega
     have e4 : min d (min c (cs.length - (o + a))) = d := by omega
     simp only [e1, e2, e3, e4]
     grind
    ·simp at e
  ·simp at e
end Go.AM
end
section
namespace Go.AM
theorem subPart_spec {C : Cx} {p : AV} {s : Sub AV} {c : List Value} (h : PR C [p] c) (e : subPart p = some s) :
  (s.n = some s.xs.length ∨ s.n = none) ∧ c.length = s.xs.length * s.t.size ∧ p.size = c.length ∧ Cat (Rep C s.t) s.xs c ∧
  ∀ ys ds, ys.length = s.xs.length → Cat (Rep C s.t) ys ds → PR C [s.put ys] ds := by
 have hl := h.length
 simp at hl
 cases p <;> simp [subPart] at e
 case arr n t xs =>
  subst e
  cases h with
  | sc _ h2 _ _ => simp [AV.scal] at h2
  | arr h1 h2 =>
   cases h2
   obtain ⟨k1, k2⟩ := h1
   have k3 := Cat.length (fun _ _ h => Rep.length h) k2
   refine ⟨.inl (by simp [← k1]), by simpa using k3, by omega, by simpa using k2, fun ys ds hy hd => ?_⟩
   have := PR.arr (n := n) (t := t) (xs := ys) (c1 := ds) ⟨hy.trans k1, hd⟩ .nil
   simpa using this
 case row t xs =>
  subst e
  cases h with
  | sc _ h2 _ _ => simp [AV.scal] at h2
  | row h1 h2 =>
   cases h2
   have k3 := Cat.length (fun _ _ h => Rep.length h) h1
   refine ⟨.inr rfl, by simpa using k3, by omega, by simpa using h1, fun ys ds hy hd => ?_⟩
   have := PR.row (t := t) (xs := ys) (c1 := ds) hd .nil
   simpa using this
theorem PR.subOf {C : Cx} : ∀ {ps : List AV} {cs : List Value} {o : Nat} {s : Sub AV}, PR C ps cs → AM.subOf ps o = some s →
  (s.n = some s.xs.length ∨ s.n = none) ∧ o + s.xs.length * s.t.size ≤ cs.length ∧ Cat (Rep C s.t) s.xs ((cs.drop o).take (s.xs.length * s.t.size)) ∧
  ∀ ys ds, ys.length = s.xs.length → Cat (Rep C s.t) ys ds → PR C (putAt ps o (s.put ys)) (cs.take o ++ (ds ++ cs.drop (o + s.xs.length * s.t.size)))
 | [], cs, o, s, h, e => by simp [AM.subOf, AM.partsAt] at e
 | p :: ps, cs, o, s, h, e => by
  obtain ⟨c1, c2, rfl, h1, h2, h3⟩ := h.uncons
  unfold AM.subOf AM.partsAt at e
  unfold putAt
  cases ho : Nat.beq o 0 with
  | true =>
   obtain rfl := Nat.eq_of_beq_eq_true ho
   simp only [ho, cond_true] at e
   obtain ⟨k1, k2, k3, k4, k5⟩ := subPart_spec h1 e
   refine ⟨k1, by simp; omega, ?_, fun ys ds hy hd => ?_⟩
   ·simpa [← k2] using k4
   ·have := (k5 ys ds hy hd).cons h2
    simp only [cond_true, List.take_zero, List.nil_append, Nat.zero_add, ← k2]
    simpa using this
  | false =>
   simp only [ho, cond_false] at e ⊢
   cases hb : Nat.blt o p.size with
   | true => simp [hb] at e
   | false =>
    simp only [hb, cond_false] at e
    have hge : p.size ≤ o := by
     have : ¬ o < p.size := by intro h; rw [← Nat.blt_eq] at h; simp [hb] at h
     omega
    obtain ⟨k1, k2, k3, k4⟩ := PR.subOf (o := o - p.size) h2 e
    refine ⟨k1, by simp; omega, ?_, fun ys ds hy hd => ?_⟩
    ·rw [List.drop_append (l₁ := c1), List.drop_eq_nil_of_le (as := c1) (by omega), List.nil_append, h3]; exact k3
    ·have := h1.cons (k4 ys ds hy hd)
     rw [List.take_append, List.take_of_length_le (by omega), List.drop_append (l₁ := c1), List.drop_eq_nil_of_le (as := c1) (by omega), List.nil_append, h3, List.append_assoc,
      show o + s.xs.length * s.t.size - p.size = o - p.size + s.xs.length * s.t.size by omega]
     exact this
def RowLen (len : Nat) (ps : List AV) : Prop := ∀ t xs, AV.row t xs ∈ ps → len = xs.length
theorem mem_subOf : ∀ {ps : List AV} {o : Nat} {s : Sub AV}, AM.subOf ps o = some s → s.n = none → AV.row s.t s.xs ∈ ps
 | [], o, s, e, _ => by simp [AM.subOf, AM.partsAt] at e
 | p :: r, o, s, e, hn => by
  unfold AM.subOf AM.partsAt at e
  cases ho : Nat.beq o 0 with
  | true =>
   simp only [ho, cond_true] at e
   cases p <;> simp [subPart] at e <;> subst e <;> simp at hn ⊢
  | false =>
   simp only [ho, cond_false] at e
   cases hb : Nat.blt o p.size with
   | true => simp [hb] at e
   | false =>
    simp only [hb, cond_false] at e
    exact List.mem_cons_of_mem _ (mem_subOf e hn)
theorem RowLen.sub {len : Nat} {ps : List AV} (h : RowLen len ps) {o : Nat} {s : Sub AV} (e : AM.subOf ps o = some s) (hn : s.n = none) : len = s.xs.length := h _ _ (mem_subOf e hn)
theorem PR.objGet {C : Cx} {len : Nat} : ∀ {p : List PStep} {ps : List AV} {cs : List Value} {o n : Nat} {l : List AV}, PR C ps cs → RowLen len ps → AM.objGet ps o p n = some l → PathOK len p →
  PR C l ((cs.drop (o + poff p)).take n) ∧ (n ≠ 0 → o + poff p + n ≤ cs.length)
 | [], ps, cs, o, n, l, h, _, e, _ => by
  simp only [AM.objGet] at e
  simp only [poff, Nat.add_zero]
  cases n with
  | zero => simp [takeCells] at e; subst e; exact ⟨by simpa using PR.nil, by simp⟩
  | succ n =>
   have hne : AM.partsAt ps o ≠ [] := by intro h; rw [h] at e; simp [takeCells] at e
   obtain ⟨k1, k2⟩ := h.partsAt o hne
   obtain ⟨k3, k4⟩ := k1.take e
   refine ⟨k3, fun _ => by simp at k4; omega⟩
 | .off d :: p, ps, cs, o, n, l, h, hr, e, hp => by
  have := PR.objGet (p := p) h hr e hp
  simpa [poff, Nat.add_assoc] using this
 | .ix i z m :: p, ps, cs, o, n, l, h, hrl, e, hp => by
  simp only [AM.objGet] at e
  split at e
  ·rename_i s hs
   obtain ⟨k1, k2, k3, k4⟩ := h.subOf hs
   cases hb : sameM s.n m && Nat.beq s.t.size z with
   | false => simp [hb] at e
   | true =>
    simp only [hb, cond_true] at e
    simp only [Bool.and_eq_true] at hb
    obtain ⟨hb1, hb2⟩ := hb
    obtain rfl := Nat.eq_of_beq_eq_true hb2
    obtain ⟨p1, p2, p3⟩ := hp
    have p2' : i < s.xs.length := by
     rcases k1 with k1 | k1
     ·rw [k1] at hb1
      obtain rfl := sameM_some hb1
      simpa using p2
     ·have := hrl.sub hs k1
      rw [k1] at hb1
      cases m with
      | none => simpa [this] using p2
      | some _ => simp [sameM] at hb1
    obtain ⟨hi, hr⟩ := rd_eq s.t.zero p1 p2'
    rw [hr] at e
    have hg := Cat.get (fun _ _ h => Rep.length h) k3 hi
    have hm := mul_le_of_lt (z := s.t.size) hi
    rw [take_drop_take _ _ _ _ _ hm] at hg
    obtain ⟨q1, q2⟩ := Rep.getPath len (p := p) hg e p3
    have hl := hg.length
    refine ⟨?_, fun hn => ?_⟩
    ·by_cases hn : n = 0
     ·subst hn; simpa using q1
     ·have q2 := q2 hn
      rw [hl] at q2
      rw [take_drop_take _ _ _ _ _ (by omega)] at q1
      simpa [poff, Nat.add_assoc] using q1
    ·have q2 := q2 hn
     rw [hl] at q2
     simp only [poff]; omega
  ·simp at e
theorem splice_eq {α : Type} (cs ds : List α) {o a b c d n : Nat} (hle : o + b ≤ cs.length) (hab : a + c ≤ b) (hdn : d + n ≤ c) :
  cs.take o ++ ((((cs.drop o).take b).take a ++ (((((cs.drop o).take b).drop a).take c).take d ++ (ds ++ ((((cs.drop o).take b).drop a).take c).drop (d + n)) ++ ((cs.drop o).take b).drop (a + c))) ++ cs.drop (o + b)) =
  cs.take (o + (a + d)) ++ (ds ++ cs.drop (o + (a + d) + n)) := by
 apply List.ext_getElem?
 intro j
 simp only [List.getElem?_append, List.getElem?_take, List.getElem?_drop, List.length_take, List.length_append, List.length_drop]
 grind
theorem PR.objPut {C : Cx} {len : Nat} : ∀ {p : List PStep} {ps qs : List AV} {cs ds : List Value} {o n : Nat} {new : List AV}, PR C ps cs → RowLen len ps → AM.objPut ps o p new n = some qs → PathOK len p →
  PR C new ds → ds.length = n → PR C qs (cs.take (o + poff p) ++ (ds ++ cs.drop (o + poff p + n))) ∧ o + poff p + n ≤ cs.length
 | [], ps, qs, cs, ds, o, n, new, h, _, e, _, hn, hd => by
  simp only [AM.objPut] at e
  split at e
  ·rename_i l hl
   simp only [cond_eq_ite] at e
   split at e
   ·obtain rfl := Option.some.inj e
    simpa [poff] using h.put hl hn hd
   ·simp at e
  ·simp at e
 | .off d :: p, ps, qs, cs, ds, o, n, new, h, hr, e, hp, hn, hd => by
  have := PR.objPut (p := p) h hr e hp hn hd
  simpa [poff, Nat.add_assoc] using this
 | .ix i z m :: p, ps, qs, cs, ds, o, n, new, h, hrl, e, hp, hn, hd => by
  simp only [AM.objPut] at e
  split at e
  ·rename_i s hs
   obtain ⟨k1, k2, k3, k4⟩ := h.subOf hs
   cases hb : sameM s.n m && Nat.beq s.t.size z with
   | false => simp [hb] at e
   | true =>
    simp only [hb, cond_true] at e
    simp only [Bool.and_eq_true] at hb
    obtain ⟨hb1, hb2⟩ := hb
    obtain rfl := Nat.eq_of_beq_eq_true hb2
    obtain ⟨p1, p2, p3⟩ := hp
    have p2' : i < s.xs.length := by
     rcases k1 with k1 | k1
     ·rw [k1] at hb1
      obtain rfl := sameM_some hb1
      simpa using p2
     ·have := hrl.sub hs k1
      rw [k1] at hb1
      cases m with
      | none => simpa [this] using p2
      | some _ => simp [sameM] at hb1
    obtain ⟨hi, hr⟩ := rd_eq s.t.zero p1 p2'
    rw [hr] at e
    split at e
    ·rename_i y' hy'
     obtain rfl := Option.some.inj e
     have hg := Cat.get (fun _ _ h => Rep.length h) k3 hi
     have hm := mul_le_of_lt (z := s.t.size) hi
     obtain ⟨q1, q2⟩ := Rep.setPath len (p := p) hg hy' p3 hn hd
     have hl := hg.length
     rw [hl] at q2
     have hset := Cat.set (fun _ _ h => Rep.length h) k3 hi q1
     have := k4 _ _ (by simp) hset
     refine ⟨?_, by simp only [poff]; omega⟩
     refine (congrArg (PR C _) ?_).mp this
     simp only [poff, Nat.zero_add] at q2 ⊢
     rw [← splice_eq cs ds k2 hm q2]
    ·simp at e
  ·simp at e
theorem RowLen_noRow {len : Nat} {l : List AV} (h : l.all noRow = true) : RowLen len l := by
 intro t xs e
 have := List.all_eq_true.1 h _ e
 simp [noRow] at this
theorem RowLen_putAt {len : Nat} : ∀ {ps : List AV} {o : Nat} {s : Sub AV}, RowLen len ps → AM.subOf ps o = some s → ∀ (ys : List s.t.den), ys.length = s.xs.length → RowLen len (putAt ps o (s.put ys))
 | [], o, s, h, e, ys, hy => by simp [AM.subOf, AM.partsAt] at e
 | p :: r, o, s, h, e, ys, hy => by
  unfold AM.subOf AM.partsAt at e
  unfold putAt
  cases ho : Nat.beq o 0 with
  | true =>
   simp only [ho, cond_true] at e ⊢
   intro t xs hm
   simp only [List.mem_cons] at hm
   rcases hm with hm | hm
   ·cases p <;> simp [subPart] at e <;> subst e <;> simp at hm
    obtain ⟨rfl, hm⟩ := hm
    have := h _ _ (List.mem_cons_self)
    cases hm
    rw [this, ← hy]
   ·exact h _ _ (List.mem_cons_of_mem _ hm)
  | false =>
   simp only [ho, cond_false] at e ⊢
   cases hb : Nat.blt o p.size with
   | true => simp [hb] at e
   | false =>
    simp only [hb, cond_false] at e
    have ih := RowLen_putAt (fun t xs hm => h t xs (List.mem_cons_of_mem _ hm)) e ys hy
    intro t xs hm
    simp only [List.mem_cons] at hm
    rcases hm with hm | hm
    ·exact h _ _ (by rw [hm]; exact List.mem_cons_self)
    ·exact ih _ _ hm
theorem RowLen_objPut {len : Nat} : ∀ {p : List PStep} {ps qs : List AV} {o n : Nat} {new : List AV}, RowLen len ps → AM.objPut ps o p new n = some qs → RowLen len qs
 | [], ps, qs, o, n, new, h, e => by
  simp only [AM.objPut] at e
  split at e
  ·simp only [cond_eq_ite] at e
   split at e
   ·rename_i hl
    obtain rfl := Option.some.inj e
    exact RowLen_noRow hl
   ·simp at e
  ·simp at e
 | .off d :: p, ps, qs, o, n, new, h, e => RowLen_objPut (p := p) h e
 | .ix i z m :: p, ps, qs, o, n, new, h, e => by
  simp only [AM.objPut] at e
  split at e
  ·rename_i s hs
   simp only [cond_eq_ite] at e
   split at e
   ·split at e
    ·obtain rfl := Option.some.inj e
     exact RowLen_putAt h hs _ (by simp)
    ·simp at e
   ·simp at e
  ·simp at e
end Go.AM
end
section
namespace Go.AM
open Go.RowKit
structure Base where
 ro : Nat → Nat → Prop
 io : Nat → Prop
instance : CoeFun Base fun _ => Nat → Nat → Prop := ⟨Base.ro⟩
structure Keep (X : Nat → Prop) (a w : World) : Prop where
 os : w.os = a.os
 tape : w.tape = a.tape
 output : w.output = a.output
 size : a.heap.size ≤ w.heap.size
 block : ∀ k, k < a.heap.size → ¬ X k → w.heap[k]? = a.heap[k]?
theorem Keep.trans {X : Nat → Prop} {a b c : World} (h : Keep X a b) (k : Below a.heap.size b c) : Keep X a c :=
 ⟨k.os.trans h.os, k.tape.trans h.tape, k.output.trans h.output, Nat.le_trans h.size k.size, fun i hi hx => (k.block i hi).trans (h.block i hi hx)⟩
theorem Keep.setCell {X : Nat → Prop} {a w : World} {p : Addr} (hc : X p.block ∨ a.heap.size ≤ p.block) (u : Value) (h : Keep X a w) : Keep X a (w.setCell p u) :=
 ⟨h.os, h.tape, h.output, by have := h.size; simpa [World.setCell] using this, fun k hk hx => (Below.heap_setCell w p u k (fun e => by
  subst e
  rcases hc with hc | hc
  ·exact hx hc
  ·omega)).trans (h.block k hk hx)⟩
theorem Keep.setCells {X : Nat → Prop} {a : World} {c : Nat} (hc : X c ∨ a.heap.size ≤ c) : ∀ (vs : List Value) (o : Nat) {w : World}, Keep X a w → Keep X a (w.setCells c o vs)
 | [], _, _, h => h
 | v :: r, o, _, h => Keep.setCells hc r (o + 1) (h.setCell (p := ⟨c, o, none⟩) hc v)
theorem Keep.below {X : Nat → Prop} {a w : World} (h : Keep X a w) (hX : ∀ k, k < a.heap.size → ¬ X k) : Below a.heap.size a w :=
 ⟨h.os, h.tape, h.output, h.size, fun k hk => h.block k hk (hX k hk)⟩
def jumpCode : Jump → Code
 | .ret => .ret
 | .exit id => .exit id
def EnvR (C : Cx) (e : Env) (tmps : Array Value) : Prop := ∀ t, VR C (e.get t) (tmps.getD t undef)
def OkFn (P : Program) (f : FuncId) (n : Nat) : Prop := ∃ fn c, P.funcs[f]? = some fn ∧ fn.body = some c ∧ okCode fn.ntmps c = true ∧ fn.ntmps ≤ n
def ObjR (P : Program) (C : Cx) (e : Ent) : AObj → Prop
 | .cells ver _ ps => e.ver = ver ∧ e.perm = false ∧ RowLen e.len ps ∧ match e.cb with
  | none => ∃ t, ps = [.row t []]
  | some c => ∃ pre, PR C ps pre ∧ C.w.rangeAt c 0 pre ∧ ∀ j, (C.w.cell? ⟨c, j, none⟩).isSome = true → C.w.frozen? ⟨c, j, none⟩ = false
 | .loop st pend fn env ps p d => e.perm = true ∧ ∃ c, e.cb = some c ∧ ∃ l : Loop, C.w.heap[c]? = some (.loop l) ∧ l.state = st ∧ l.pending = pend.map jumpCode ∧ l.fn = fn ∧ l.params = ps.toArray ∧
   l.assign = codeAt P fn (p ++ [.l]) ∧ l.body = codeAt P fn (p ++ [.r]) ∧ EnvR C env l.tmps ∧ ((∀ t ∈ ps, t < l.tmps.size) ∧ OkFn P fn l.tmps.size) ∧ ∃ ed, C.M d = some ed ∧ ed.perm = true ∧ ed.cb = some l.defers
 | .deferred taken => e.perm = true ∧ ∃ c, e.cb = some c ∧ C.w.heap[c]? = some (.deferred (if taken then none else some []))
structure Inv (P : Program) (S0 : Base) (w0 : World) (C : Cx) (h : Hp) : Prop where
 below : Keep S0.io w0 C.w
 obj : ∀ b o, h.get b = some o → ∃ e, C.M b = some e ∧ ObjR P C e o
 dom : ∀ b e, C.M b = some e → ∃ o, h.get b = some o
 loc : ∀ b e c, C.M b = some e → e.cb = some c → (S0.io c ∨ w0.heap.size ≤ c) ∧ c < C.w.heap.size
 inj : ∀ b e b' e' c, C.M b = some e → e.cb = some c → C.M b' = some e' → e'.cb = some c → b = b'
 ro : ∀ c j, C.RO c j → c < C.w.heap.size ∧ (S0 c j ∨ S0.io c ∨ w0.heap.size ≤ c)
 roO : ∀ b e c j, C.M b = some e → e.cb = some c → C.RO c j → ∃ v ps, h.get b = some (.cells v true ps) ∧ j < partsSize ps
 pin : ∀ c, S0.io c → (∃ e, C.M ioName = some e ∧ e.cb = some c) ∧ ∀ j, (w0.cell? ⟨c, j, none⟩).isSome = true → (C.w.cell? ⟨c, j, none⟩).isSome = true
theorem EnvR.mono {C C' : Cx} (l : C.Le C') {e tmps} (h : EnvR C e tmps) : EnvR C' e tmps := fun t => (h t).mono l
theorem block_of_cell {w : World} {b j : Nat} (h : (w.cell? ⟨b, j, none⟩).isSome = true) : b < w.heap.size := by
 obtain ⟨v, hv⟩ := Option.isSome_iff_exists.1 h
 exact World.block_lt_of_cell? w _ hv
theorem Hp.get_cons (b : Nat) (o : AObj) (h : Hp) (x : Nat) : Hp.get ((b, o) :: h) x = if b = x then some o else h.get x := by
 simp only [Hp.get]
 cases e : Nat.beq b x with
 | true => rw [if_pos (Nat.eq_of_beq_eq_true e)]; rfl
 | false => rw [if_neg (by intro q; subst q; simp at e)]; rfl
theorem Env.get_cons (t : Nat) (v : AV) (e : Env) (x : Nat) : Env.get ((t, v) :: e) x = if t = x then v else e.get x := by
 simp only [Env.get]
 cases h : Nat.beq t x with
 | true => rw [if_pos (Nat.eq_of_beq_eq_true h)]; rfl
 | false => rw [if_neg (by intro q; subst q; simp at h)]; rfl
theorem ObjR.carry {P : Program} {C C' : Cx} (l : C.Le C') {e : Ent} {o : AObj} (r : ObjR P C e o)
  (hb : ∀ c, e.cb = some c → C'.w.heap[c]? = C.w.heap[c]?) : ObjR P C' e o := by
 cases o with
 | cells v ro ps =>
  obtain ⟨h1, h0, h2, h3⟩ := r
  refine ⟨h1, h0, h2, ?_⟩
  revert h3
  cases hc : e.cb with
  | none => exact id
  | some c =>
   have hb := hb c hc
   have hcell : ∀ j, C'.w.cell? ⟨c, j, none⟩ = C.w.cell? ⟨c, j, none⟩ := fun j => World.cell?_of_block (a := ⟨c, j, none⟩) hb
   rintro ⟨pre, k1, k2, k3⟩
   exact ⟨pre, k1.mono l, fun j v hv => (hcell _).trans (k2 j v hv), fun j hj => (World.frozen?_of_block (a := ⟨c, j, none⟩) hb).trans (k3 j (by rw [← hcell]; exact hj))⟩
 | loop st pend fn env ps p d =>
  obtain ⟨h1, c, hc, lp, g1, g2, g3, g4, g5, g6, g7, g8, g9, ed, g10, g11, g12⟩ := r
  obtain ⟨e', k1, _, _, k4⟩ := l.ent _ _ g10
  obtain rfl := k4 g11
  exact ⟨h1, c, hc, lp, (hb c hc).trans g1, g2, g3, g4, g5, g6, g7, g8.mono l, g9, e', k1, g11, g12⟩
 | deferred t =>
  obtain ⟨h1, c, hc, g⟩ := r
  exact ⟨h1, c, hc, (hb c hc).trans g⟩
theorem Inv.turn {P : Program} {S0 : Base} {w0 : World} {C : Cx} {h : Hp} (I : Inv P S0 w0 C h) {b : Nat} {e e' : Ent} {ao : AObj} {w' : World}
  (hM : C.M b = some e) (hv : e.ver ≤ e'.ver) (he : e.ver = e'.ver → e' = e) (hp : e.perm = true → e' = e)
  (bel : Keep S0.io w0 w') (hsz : C.w.heap.size ≤ w'.heap.size)
  (hoth : ∀ k, k < C.w.heap.size → e.cb ≠ some k → w'.heap[k]? = C.w.heap[k]?)
  (hro : ∀ c j, e.cb = some c → C.RO c j → w'.cell? ⟨c, j, none⟩ = C.w.cell? ⟨c, j, none⟩)
  (hex : ∀ c j, e.cb = some c → (C.w.cell? ⟨c, j, none⟩).isSome = true → (w'.cell? ⟨c, j, none⟩).isSome = true)
  (hcb : ∀ c, e'.cb = some c → e.cb = some c ∨ (C.w.heap.size ≤ c ∧ c < w'.heap.size))
  (hroO : ∀ c j, e.cb = some c → e'.cb = some c → C.RO c j → ∃ v ps, ao = .cells v true ps ∧ j < partsSize ps)
  (hobj : C.Le ⟨w', C.RO, fun x => if x = b then some e' else C.M x⟩ → ObjR P ⟨w', C.RO, fun x => if x = b then some e' else C.M x⟩ e' ao)
  (hpin : ∀ c, b = ioName → e.cb = some c → e'.cb = some c := by intro _ _ h; exact h) :
  C.Le ⟨w', C.RO, fun x => if x = b then some e' else C.M x⟩ ∧ Inv P S0 w0 ⟨w', C.RO, fun x => if x = b then some e' else C.M x⟩ ((b, ao) :: h) := by
 have le : C.Le ⟨w', C.RO, fun x => if x = b then some e' else C.M x⟩ := by
  refine ⟨fun _ _ r => r, fun c j r => ?_, fun x ex hx => ?_, fun c j r => ?_⟩
  ·by_cases hc : e.cb = some c
   ·exact hro _ _ hc r
   ·exact World.cell?_of_block (a := ⟨c, j, none⟩) (hoth c (I.ro _ _ r).1 hc)
  ·by_cases hxb : x = b
   ·subst hxb
    rw [hM] at hx; obtain rfl := Option.some.inj hx
    exact ⟨e', by simp, hv, he, hp⟩
   ·exact ⟨ex, by simp [hxb, hx], Nat.le_refl _, fun _ => rfl, fun _ => rfl⟩
  ·by_cases hc : e.cb = some c
   ·exact hex _ _ hc r
   ·have := World.cell?_of_block (a := ⟨c, j, none⟩) (hoth c (block_of_cell r) hc)
    rw [this]; exact r
 have newloc : ∀ c, e'.cb = some c → (S0.io c ∨ w0.heap.size ≤ c) ∧ c < w'.heap.size := fun c hc => by
  rcases hcb c hc with h1 | h1
  ·have := I.loc _ _ _ hM h1; exact ⟨this.1, by omega⟩
  ·have := bel.size; have := I.below.size; exact ⟨.inr (by omega), by omega⟩
 refine ⟨le, bel, ?_, ?_, ?_, ?_, ?_, ?_, ?pin⟩
 ·intro x o hx
  rw [Hp.get_cons] at hx
  by_cases hxb : b = x
  ·subst hxb
   rw [if_pos rfl] at hx; obtain rfl := Option.some.inj hx
   exact ⟨e', by simp, hobj le⟩
  ·rw [if_neg hxb] at hx
   obtain ⟨ex, h1, h2⟩ := I.obj _ _ hx
   refine ⟨ex, by simp [Ne.symm hxb, h1], h2.carry le fun c hc => ?_⟩
   have hl := I.loc _ _ _ h1 hc
   exact hoth c hl.2 fun hq => hxb (I.inj _ _ _ _ _ hM hq h1 hc)
 ·intro x ex hx
  rw [Hp.get_cons]
  by_cases hxb : b = x
  ·exact ⟨ao, by simp [hxb]⟩
  ·rw [if_neg hxb]
   exact I.dom _ ex (by simpa [Ne.symm hxb] using hx)
 ·intro x ex c hx hc
  by_cases hxb : x = b
  ·subst hxb; simp at hx; subst hx; exact newloc c hc
  ·simp [hxb] at hx
   have := I.loc _ _ _ hx hc
   exact ⟨this.1, by show c < w'.heap.size; omega⟩
 ·intro x ex y ey c hx hxc hy hyc
  by_cases hxb : x = b <;> by_cases hyb : y = b
  ·omega
  ·subst hxb; simp at hx; subst hx; simp [hyb] at hy
   have hl := I.loc _ _ _ hy hyc
   rcases hcb c hxc with h1 | h1
   ·exact I.inj _ _ _ _ _ hM h1 hy hyc
   ·omega
  ·subst hyb; simp at hy; subst hy; simp [hxb] at hx
   have hl := I.loc _ _ _ hx hxc
   rcases hcb c hyc with h1 | h1
   ·exact I.inj _ _ _ _ _ hx hxc hM h1
   ·omega
  ·simp [hxb] at hx; simp [hyb] at hy
   exact I.inj _ _ _ _ _ hx hxc hy hyc
 ·intro c j r
  have := I.ro c j r
  exact ⟨by show c < w'.heap.size; omega, this.2⟩
 ·intro x ex c j hx hc r
  rw [Hp.get_cons]
  by_cases hxb : x = b
  ·subst hxb; simp at hx; subst hx
   have hl := (I.ro c j r).1
   rcases hcb c hc with h1 | h1
   ·obtain ⟨v, ps, k1, k2⟩ := hroO c j h1 hc r
    exact ⟨v, ps, by simp [k1], k2⟩
   ·omega
  ·simp [hxb] at hx
   rw [if_neg (Ne.symm hxb)]
   exact I.roO _ _ _ _ hx hc r
 ·intro c hc
  obtain ⟨⟨ex, h1, h2⟩, h3⟩ := I.pin c hc
  refine ⟨?_, fun j hj => le.sz _ _ (h3 j hj)⟩
  by_cases hq : ioName = b
  ·subst hq
   rw [hM] at h1; obtain rfl := Option.some.inj h1
   exact ⟨e', by simp, hpin c rfl h2⟩
  ·exact ⟨ex, by simp [hq, h1], h2⟩
theorem Inv.make {P : Program} {S0 : Base} {w0 : World} {C : Cx} {h : Hp} (I : Inv P S0 w0 C h) {b : Nat} {e' : Ent} {ao : AObj} {w' : World}
  (hM : C.M b = none) (bel : Keep S0.io w0 w') (hsz : C.w.heap.size ≤ w'.heap.size)
  (hoth : ∀ k, k < C.w.heap.size → w'.heap[k]? = C.w.heap[k]?)
  (hcb : ∀ c, e'.cb = some c → C.w.heap.size ≤ c ∧ c < w'.heap.size)
  (hobj : C.Le ⟨w', C.RO, fun x => if x = b then some e' else C.M x⟩ → ObjR P ⟨w', C.RO, fun x => if x = b then some e' else C.M x⟩ e' ao) :
  C.Le ⟨w', C.RO, fun x => if x = b then some e' else C.M x⟩ ∧ Inv P S0 w0 ⟨w', C.RO, fun x => if x = b then some e' else C.M x⟩ ((b, ao) :: h) := by
 have ne : ∀ x ex, C.M x = some ex → x ≠ b := fun x ex hx hq => by subst hq; rw [hM] at hx; simp at hx
 have le : C.Le ⟨w', C.RO, fun x => if x = b then some e' else C.M x⟩ := by
  refine ⟨fun _ _ r => r, fun c j r => World.cell?_of_block (a := ⟨c, j, none⟩) (hoth c (I.ro _ _ r).1), fun x ex hx => ?_, fun c j r => ?_⟩
  ·exact ⟨ex, by simp [ne _ _ hx, hx], Nat.le_refl _, fun _ => rfl, fun _ => rfl⟩
  ·have := World.cell?_of_block (a := ⟨c, j, none⟩) (hoth c (block_of_cell r))
   rw [this]; exact r
 have hbs := I.below.size
 refine ⟨le, bel, ?_, ?_, ?_, ?_, ?_, ?_, ?pin⟩
 ·intro x o hx
  rw [Hp.get_cons] at hx
  by_cases hxb : b = x
  ·subst hxb
   rw [if_pos rfl] at hx; obtain rfl := Option.some.inj hx
   exact ⟨e', by simp, hobj le⟩
  ·rw [if_neg hxb] at hx
   obtain ⟨ex, h1, h2⟩ := I.obj _ _ hx
   refine ⟨ex, by simp [Ne.symm hxb, h1], h2.carry le fun c hc => hoth c (I.loc _ _ _ h1 hc).2⟩
 ·intro x ex hx
  rw [Hp.get_cons]
  by_cases hxb : b = x
  ·exact ⟨ao, by simp [hxb]⟩
  ·rw [if_neg hxb]
   exact I.dom _ ex (by simpa [Ne.symm hxb] using hx)
 ·intro x ex c hx hc
  by_cases hxb : x = b
  ·subst hxb; simp at hx; subst hx; have := hcb c hc; exact ⟨by omega, this.2⟩
  ·simp [hxb] at hx
   have := I.loc _ _ _ hx hc
   exact ⟨this.1, by show c < w'.heap.size; omega⟩
 ·intro x ex y ey c hx hxc hy hyc
  by_cases hxb : x = b <;> by_cases hyb : y = b
  ·omega
  ·subst hxb; simp at hx; subst hx; simp [hyb] at hy
   have hl := I.loc _ _ _ hy hyc
   have := hcb c hxc
   omega
  ·subst hyb; simp at hy; subst hy; simp [hxb] at hx
   have hl := I.loc _ _ _ hx hxc
   have := hcb c hyc
   omega
  ·simp [hxb] at hx; simp [hyb] at hy
   exact I.inj _ _ _ _ _ hx hxc hy hyc
 ·intro c j r
  have := I.ro c j r
  exact ⟨by show c < w'.heap.size; omega, this.2⟩
 ·intro x ex c j hx hc r
  rw [Hp.get_cons]
  by_cases hxb : x = b
  ·subst hxb; simp at hx; subst hx
   have hl := (I.ro c j r).1
   have := hcb c hc
   omega
  ·simp [hxb] at hx
   rw [if_neg (Ne.symm hxb)]
   exact I.roO _ _ _ _ hx hc r
 ·intro c hc
  obtain ⟨⟨ex, h1, h2⟩, h3⟩ := I.pin c hc
  exact ⟨⟨ex, by simp [ne _ _ h1, h1], h2⟩, fun j hj => le.sz _ _ (h3 j hj)⟩
theorem Inv.still {P : Program} {S0 : Base} {w0 : World} {C : Cx} {h : Hp} (I : Inv P S0 w0 C h) {w' : World} (hh : w'.heap = C.w.heap)
  (bel : Keep S0.io w0 w') : C.Le ⟨w', C.RO, C.M⟩ ∧ Inv P S0 w0 ⟨w', C.RO, C.M⟩ h := by
 have le : C.Le ⟨w', C.RO, C.M⟩ := ⟨fun _ _ r => r, fun c j _ => World.cell?_of_block (a := ⟨c, j, none⟩) (by rw [hh]), fun _ e h => ⟨e, h, Nat.le_refl _, fun _ => rfl, fun _ => rfl⟩,
  fun c j r => by rw [World.cell?_of_block (a := ⟨c, j, none⟩) (w := C.w) (w' := w') (by rw [hh])]; exact r⟩
 exact ⟨le, bel, fun b o hb => let ⟨e, h1, h2⟩ := I.obj b o hb; ⟨e, h1, h2.carry le fun c _ => by rw [hh]⟩, I.dom, fun b e c h1 h2 => by have := I.loc b e c h1 h2; rw [← hh] at this; exact this, I.inj,
  fun c j r => by have := I.ro c j r; rw [← hh] at this; exact this, I.roO, fun c hc => ⟨(I.pin c hc).1, fun j hj => le.sz _ _ ((I.pin c hc).2 j hj)⟩⟩
end Go.AM
end
section
namespace Go.AM
open Go.RowKit
def Lands (P : Program) (cs : List Frame) (r : Result Next) (v : Value) (w' : World) : Prop :=
 r = .ok (.value v) w' ∨ (r = .ok .skip w' ∧ v = undef) ∨
 ∃ f args w1, r = .ok (.enter f args) w1 ∧ ∃ fr, Steps P (lone (Frame.enter P f args .normal) cs w1) (lone fr cs w') ∧ fr.fn = f ∧ fr.leaving P w' (.returned v)
def Does (P : Program) (S0 : Base) (w0 : World) (cs : List Frame) (C : Cx) (h : Hp) (nx : Nat) (r : Result Next) (x : AV × Upd) : Prop :=
 ∃ v C', Lands P cs r v C'.w ∧ Inv P S0 w0 C' (x.2 ++ h) ∧ C.Le C' ∧ VR C' x.1 v ∧ ∀ y, C'.M y ≠ none → C.M y ≠ none ∨ y = nx
inductive F.Ev {β : Type} : F β → β → Prop
 | ret {b} : F.Ev (.ret b) b
 | guard {k b} : F.Ev k b → F.Ev (.guard true k) b
 | iteT {a c b} : F.Ev a b → F.Ev (.ite true a c) b
 | iteF {a c b} : F.Ev c b → F.Ev (.ite false a c) b
 | call {γ : Type} {d : γ} {x : Option γ} {k : γ → F β} {g b} : x = some g → F.Ev (k g) b → F.Ev (.call d x k) b
theorem F.run_ev {β α : Type} {K : β → Option α} {r : α} : ∀ {x : F β}, x.run K = some r → ∃ b, x.Ev b ∧ K b = some r
 | .ret b, h => ⟨b, .ret, h⟩
 | .fail, h => by simp [F.run] at h
 | .guard c k, h => by
  cases c with
  | false => simp [F.run] at h
  | true => obtain ⟨b, h1, h2⟩ := F.run_ev (x := k) h; exact ⟨b, .guard h1, h2⟩
 | .ite c a e, h => by
  cases c with
  | false => obtain ⟨b, h1, h2⟩ := F.run_ev (x := e) h; exact ⟨b, .iteF h1, h2⟩
  | true => obtain ⟨b, h1, h2⟩ := F.run_ev (x := a) h; exact ⟨b, .iteT h1, h2⟩
 | .call d x k, h => by
  cases x with
  | none => simp [F.run] at h
  | some g => obtain ⟨b, h1, h2⟩ := F.run_ev (x := k g) h; exact ⟨b, .call rfl h1, h2⟩
theorem F.ev_bind {β δ : Type} {f : β → F δ} {d : δ} {x : F β} (h : (x.bind f).Ev d) : ∃ b, x.Ev b ∧ (f b).Ev d := by
 induction x with
 | ret b => exact ⟨b, .ret, h⟩
 | fail => exact nomatch h
 | guard c k ih =>
  simp only [F.bind] at h
  cases h with
  | guard h => obtain ⟨b, h1, h2⟩ := ih h; exact ⟨b, .guard h1, h2⟩
 | ite c a e ih1 ih2 =>
  simp only [F.bind] at h
  cases h with
  | iteT h => obtain ⟨b, h1, h2⟩ := ih1 h; exact ⟨b, .iteT h1, h2⟩
  | iteF h => obtain ⟨b, h1, h2⟩ := ih2 h; exact ⟨b, .iteF h1, h2⟩
 | call d x k ih =>
  simp only [F.bind] at h
  generalize hk : (fun g => (k g).bind f) = k' at h
  cases h with
  | call e h => subst hk; obtain ⟨b, h1, h2⟩ := ih _ h; exact ⟨b, .call e h1, h2⟩
theorem F.ev_ret {β : Type} {b c : β} (h : (F.ret b).Ev c) : c = b := by cases h; rfl
theorem F.ev_fail {β : Type} {c : β} (h : (F.fail : F β).Ev c) : False := nomatch h
theorem F.ev_guard {β : Type} {c : Bool} {k : F β} {b : β} (h : (F.guard c k).Ev b) : c = true ∧ k.Ev b := by cases h; exact ⟨rfl, ‹_›⟩
theorem F.ev_one {v : AV} {x : AV × Upd} (h : (one v).Ev x) : x = (v, []) := F.ev_ret h
theorem wrap_in (k : IntKind) (n : Int) : inRangeB k (k.wrap n) = true := by
 unfold inRangeB
 simp only [Bool.and_eq_true, decide_eq_true_eq]
 unfold IntKind.wrap IntKind.min IntKind.max
 cases k <;> simp [IntKind.bits, IntKind.signed] <;> (try split) <;> omega
theorem inRange_iff {k : IntKind} {n : Int} : inRangeB k n = true ↔ k.min ≤ n ∧ n ≤ k.max := by
 unfold inRangeB; simp
theorem min_le_zero (k : IntKind) : k.min ≤ 0 ∧ 0 ≤ k.max := by cases k <;> simp [IntKind.min, IntKind.max, IntKind.bits, IntKind.signed]
theorem tmod_in {k : IntKind} {a b : Int} (h : inRangeB k a = true) : inRangeB k (a.tmod b) = true := by
 rw [inRange_iff] at *
 have hz := min_le_zero k
 have hn : (a.tmod b).natAbs ≤ a.natAbs := by rw [Int.natAbs_tmod]; exact Nat.mod_le _ _
 rcases Int.le_total 0 a with ha | ha
 ·have := Int.tmod_nonneg b ha; omega
 ·have := Int.tmod_nonneg b (show 0 ≤ -a by omega)
  rw [Int.neg_tmod] at this; omega
theorem fdiv_in {k : IntKind} {a : Int} {n : Nat} (h : inRangeB k a = true) : inRangeB k (a.fdiv (2 ^ n)) = true := by
 rw [inRange_iff] at *
 have hz := min_le_zero k
 have hp : (0 : Int) < 2 ^ n := Int.pow_pos (by decide)
 rw [Int.fdiv_eq_ediv_of_nonneg _ (by omega)]
 rcases Int.le_total 0 a with ha | ha
 ·have := Int.ediv_nonneg ha (show (0 : Int) ≤ 2 ^ n by omega)
  have := Int.ediv_le_self (2 ^ n) ha
  omega
 ·have h1 : a ≤ a / 2 ^ n := by
   rw [Int.le_ediv_iff_mul_le hp]
   have := Int.mul_le_mul_of_nonpos_left ha (show (1 : Int) ≤ 2 ^ n by omega)
   omega
  have h2 : a / 2 ^ n ≤ 0 := Int.ediv_le_of_le_mul hp (by omega)
  omega
end Go.AM
end
section
namespace Go.AM
open Go.RowKit
def Vals (P : Program) (C : Cx) (s : Sem Value) (x : AV × Upd) : Prop := ∃ v, s.run P C.w = .ok v C.w ∧ VR C x.1 v ∧ x.2 = []
theorem bits2_in (op : BinOp) (k : IntKind) (x y : Int) : inRangeB k (bits2 op k x y) = true := by
 unfold bits2; split <;> exact wrap_in _ _
theorem eq_dec (a b : Int) : (a == b) = decide (a = b) := rfl
theorem ne_dec (a b : Int) : (a != b) = !decide (a = b) := rfl
theorem intOp_sound {P : Program} {C : Cx} {op : BinOp} {k : IntKind} {a b : Int} {x : AV × Upd} (h : (intOp op k a b).Ev x) (ha : inRangeB k a = true) (hs : op ≠ .shl) (hr : op ≠ .shr) (t : TypeId) :
  Vals P C (binOp op t (.int k a) (.int k b)) x := by
 cases op <;> simp only [intOp] at h
 case shl => contradiction
 case shr => contradiction
 case quo =>
  obtain ⟨h1, h2⟩ := F.ev_guard h
  obtain rfl := F.ev_one h2
  have hb : b ≠ 0 := by simpa using h1
  exact ⟨.int k (k.wrap (a.tdiv b)), by simp [binOp, Op.intDiv, hb], .int (wrap_in _ _), rfl⟩
 case rem =>
  obtain ⟨h1, h2⟩ := F.ev_guard h
  obtain rfl := F.ev_one h2
  have hb : b ≠ 0 := by simpa using h1
  exact ⟨.int k (a.tmod b), by simp [binOp, Op.intDiv, hb], .int (tmod_in ha), rfl⟩
 case add => obtain rfl := F.ev_one h; exact ⟨.int k (k.wrap (a + b)), by simp [binOp, Op.intArith], .int (wrap_in _ _), rfl⟩
 case sub => obtain rfl := F.ev_one h; exact ⟨.int k (k.wrap (a - b)), by simp [binOp, Op.intArith], .int (wrap_in _ _), rfl⟩
 case mul => obtain rfl := F.ev_one h; exact ⟨.int k (k.wrap (a * b)), by simp [binOp, Op.intArith], .int (wrap_in _ _), rfl⟩
 case and => obtain rfl := F.ev_one h; exact ⟨.int k (iand k a b), by simp [binOp, Op.intBits, iand, bits2], .int (bits2_in _ _ _ _), rfl⟩
 case or => obtain rfl := F.ev_one h; exact ⟨.int k (ior k a b), by simp [binOp, Op.intBits, ior, bits2], .int (bits2_in _ _ _ _), rfl⟩
 case xor => obtain rfl := F.ev_one h; exact ⟨.int k (ixor k a b), by simp [binOp, Op.intBits, ixor, bits2], .int (bits2_in _ _ _ _), rfl⟩
 case andNot => obtain rfl := F.ev_one h; exact ⟨.int k (ianot k a b), by simp [binOp, Op.intBits, ianot, bits2], .int (bits2_in _ _ _ _), rfl⟩
 case eql => obtain rfl := F.ev_one h; exact ⟨.bool (decide (a = b)), by simp [binOp, Op.intCmp, eq_dec], .bool, rfl⟩
 case neq => obtain rfl := F.ev_one h; exact ⟨.bool (!decide (a = b)), by simp [binOp, Op.intCmp, ne_dec], .bool, rfl⟩
 case lss => obtain rfl := F.ev_one h; exact ⟨.bool (decide (a < b)), by simp [binOp, Op.intCmp], .bool, rfl⟩
 case leq => obtain rfl := F.ev_one h; exact ⟨.bool (decide (a ≤ b)), by simp [binOp, Op.intCmp], .bool, rfl⟩
 case gtr => obtain rfl := F.ev_one h; exact ⟨.bool (decide (a > b)), by simp [binOp, Op.intCmp], .bool, rfl⟩
 case geq => obtain rfl := F.ev_one h; exact ⟨.bool (decide (a ≥ b)), by simp [binOp, Op.intCmp], .bool, rfl⟩
theorem bytesOf_inj {s t : ByteArray} : bytesOf s = bytesOf t ↔ s = t := by
 constructor
 ·intro h
  unfold bytesOf at h
  have := (List.map_inj_right (f := fun b : UInt8 => (b.toNat : Int)) (fun a b h => UInt8.toNat_inj.1 (by have h : (a.toNat : Int) = b.toNat := h; omega))).1 h
  cases s; cases t; simp_all
 ·rintro rfl; rfl
theorem bytesOf_length (s : ByteArray) : (bytesOf s).length = s.size := by simp [bytesOf]
theorem bytesOf_append (s t : ByteArray) : bytesOf (s ++ t) = bytesOf s ++ bytesOf t := by simp [bytesOf]
theorem bytesLess_eq : ∀ x y : List UInt8, Op.bytesLess x y = strLt (x.map fun b => (b.toNat : Int)) (y.map fun b => (b.toNat : Int))
 | x, [] => by cases x <;> simp [Op.bytesLess, strLt]
 | [], y :: ys => by simp [Op.bytesLess, strLt]
 | a :: x, b :: y => by
  simp only [Op.bytesLess, strLt, List.map_cons, bytesLess_eq x y]
  congr 1
  ·simp [UInt8.lt_iff_toNat_lt]
  ·congr 1
   by_cases h : a = b
   ·simp [h]
   ·have : (a.toNat : Int) ≠ b.toNat := fun q => h (UInt8.toNat_inj.1 (by omega))
    simp [h, this]
theorem list_beq (x y : List UInt8) : (x == y) = decide (x.map (fun b => (b.toNat : Int)) = y.map (fun b => (b.toNat : Int))) := by
 rw [Bool.eq_iff_iff]
 simp only [beq_iff_eq, decide_eq_true_eq]
 constructor
 ·rintro rfl; rfl
 ·intro h
  exact (List.map_inj_right (f := fun b : UInt8 => (b.toNat : Int)) (fun a b h => UInt8.toNat_inj.1 (by have h : (a.toNat : Int) = b.toNat := h; omega))).1 h
theorem strOp_sound {P : Program} {C : Cx} {op : BinOp} {s u : ByteArray} {x : AV × Upd} (h : (strOp op (bytesOf s) (bytesOf u)).Ev x) (t : TypeId) :
  Vals P C (binOp op t (.string s) (.string u)) x := by
 have e1 : (s.toList == u.toList) = decide (bytesOf s = bytesOf u) := by rw [ByteArray.toList_eq, ByteArray.toList_eq, list_beq]; rfl
 have e2 : Op.bytesLess s.toList u.toList = strLt (bytesOf s) (bytesOf u) := by rw [ByteArray.toList_eq, ByteArray.toList_eq, bytesLess_eq]; rfl
 cases op <;> simp only [strOp] at h
 case add =>
  obtain ⟨h1, h2⟩ := F.ev_guard h
  obtain rfl := F.ev_one h2
  have hb : s.size + u.size ≤ 9223372036854775807 := by simpa [bytesOf_length, maxStr] using h1
  refine ⟨.string (s ++ u), ?_, .str (bytesOf_append _ _), rfl⟩
  have : ¬ (((s.size + u.size : Nat) : Int) > IntKind.i64.max) := by
   have e : IntKind.i64.max = 9223372036854775807 := rfl
   omega
  simp only [binOp, Op.stringOp]
  rw [if_neg this]; rfl
 case eql => obtain rfl := F.ev_one h; exact ⟨_, rfl, by rw [e1]; exact .bool, rfl⟩
 case neq => obtain rfl := F.ev_one h; exact ⟨_, rfl, by rw [e1]; exact .bool, rfl⟩
 case lss => obtain rfl := F.ev_one h; exact ⟨_, rfl, by rw [e2]; exact .bool, rfl⟩
 case leq => obtain rfl := F.ev_one h; exact ⟨_, rfl, by rw [e1, e2]; exact .bool, rfl⟩
 case gtr => obtain rfl := F.ev_one h; exact ⟨_, rfl, by rw [e1, e2]; exact .bool, rfl⟩
 case geq => obtain rfl := F.ev_one h; exact ⟨_, rfl, by rw [e2]; exact .bool, rfl⟩
 all_goals exact (F.ev_fail h).elim
end Go.AM
end
section
namespace Go.AM
open Go.RowKit
theorem tyOf_size {P : Program} {n : Nat} {t : TypeId} {ty : Ty} (h : tyOf P n t = some ty) : P.cellsOf t = ty.size := by
 have hs : ∀ ty', sized P t ty' = some ty → P.cellsOf t = ty.size := by
  intro ty' h
  unfold sized at h
  cases hb : Nat.beq (P.cellsOf t) ty'.size with
  | false => simp [hb] at h
  | true => simp [hb] at h; subst h; exact Nat.eq_of_beq_eq_true hb
 cases n with
 | zero => simp [tyOf] at h
 | succ n =>
  unfold tyOf at h
  split at h
  ·exact hs _ h
  ·exact hs _ h
  ·exact hs _ h
  ·split at h
   ·exact hs _ h
   ·simp at h
  ·split at h
   ·exact hs _ h
   ·simp at h
  ·split at h
   ·rename_i l hl
    simp only [cond_eq_ite] at h
    split at h
    ·exact hs _ h
    ·simp at h
   ·simp at h
  ·simp at h
def cellsVal (P : Program) (t : TypeId) (cs : List Value) : Value :=
 match P.underlying t with
 | some (.struct _) => .agg cs.toArray
 | some (.array _ _) => .agg cs.toArray
 | _ => cs.headD undef
theorem cellsOf_info {P : Program} {t : TypeId} {i : TypeInfo} (h : P.info? t = some i) : P.cellsOf t = i.size := by simp [Program.cellsOf, h]
theorem underlying_info {P : Program} {t : TypeId} {d : TypeDesc} (h : P.underlying t = some d) : ∃ i, P.info? t = some i := by
 unfold Program.underlying at h
 cases hi : P.info? t with
 | none => simp [hi] at h
 | some i => exact ⟨i, rfl⟩
theorem run_isAgg {P : Program} (w : World) {t : TypeId} {d : TypeDesc} (hu : P.underlying t = some d) : (isAgg t).run P w = .ok d.isRow w := by
 unfold isAgg
 rw [Sem.run_bind, run_underlying hu w]
 cases d <;> rfl
theorem run_sizeOf {P : Program} (w : World) {t : TypeId} {i : TypeInfo} (hi : P.info? t = some i) : (sizeOf t).run P w = .ok (P.cellsOf t) w := by
 simp [sizeOf, typeInfo, hi, cellsOf_info hi]
theorem cellsVal_row {P : Program} {t : TypeId} {d : TypeDesc} (hu : P.underlying t = some d) (hd : d.isRow = true) (cs : List Value) : cellsVal P t cs = .agg cs.toArray := by
 unfold cellsVal; rw [hu]; cases d <;> simp at hd <;> rfl
theorem cellsVal_one {P : Program} {t : TypeId} {d : TypeDesc} (hu : P.underlying t = some d) (hd : d.isRow = false) (cs : List Value) : cellsVal P t cs = cs.headD undef := by
 unfold cellsVal; rw [hu]; cases d <;> simp at hd <;> rfl
theorem run_part {P : Program} (w : World) {t : TypeId} {d : TypeDesc} (hu : P.underlying t = some d) (cs : Array Value) (off : Nat) (hle : off + P.cellsOf t ≤ cs.size) (h1 : d.isRow = false → P.cellsOf t = 1) :
  (part t cs off).run P w = .ok (cellsVal P t ((cs.toList.drop off).take (P.cellsOf t))) w := by
 obtain ⟨i, hi⟩ := underlying_info hu
 unfold part
 rw [Sem.run_bind, run_isAgg w hu, Result.andThen_ok]
 cases hd : d.isRow with
 | true =>
  rw [if_pos rfl, Sem.run_bind, run_sizeOf w hi, Result.andThen_ok, cellsVal_row hu hd]
  simp only [Sem.run_pure]
  congr 2
  apply Array.ext'
  simp
 | false =>
  have h1 := h1 hd
  rw [if_neg (by simp), cellsVal_one hu hd, h1]
  have hlt : off < cs.toList.length := by simp; omega
  have e : (cs.toList.drop off).take 1 = [cs.toList[off]] := by rw [List.drop_eq_getElem_cons hlt]; rfl
  rw [e]
  have e2 : cs[off]? = some cs.toList[off] := by rw [← Array.getElem?_toList, List.getElem?_eq_getElem hlt]
  rw [e2]; rfl
theorem tyOf_row {P : Program} {n : Nat} {t : TypeId} {ty : Ty} {d : TypeDesc} (h : tyOf P n t = some ty) (hu : P.underlying t = some d) (hd : d.isRow = false) : P.cellsOf t = 1 := by
 rw [tyOf_size h]
 have hs : ∀ ty', sized P t ty' = some ty → ty = ty' := by
  intro ty' h
  unfold sized at h
  cases hb : Nat.beq (P.cellsOf t) ty'.size with
  | false => simp [hb] at h
  | true => simp [hb] at h; exact h.symm
 cases n with
 | zero => simp [tyOf] at h
 | succ n =>
  unfold tyOf at h
  rw [hu] at h
  cases d <;> simp at h hd
  ·rw [hs _ h]; rfl
  ·rw [hs _ h]; rfl
  ·rw [hs _ h]; rfl
  ·split at h
   ·rw [hs _ h]; rfl
   ·simp at h
theorem forIn_all {P : Program} (w : World) (f : Nat → Sem Bool) (r : Nat → Bool) : ∀ (l : List Nat), (∀ i ∈ l, (f i).run P w = .ok (r i) w) →
  ((do
   let s ← forIn l ((none, ()) : Option Bool × Unit) fun i _ => do
    if !(← f i) then pure (ForInStep.done (some false, ())) else pure (ForInStep.yield (none, ()))
   match s.fst with
   | some a => pure a
   | none => pure true) : Sem Bool).run P w = .ok (l.all r) w
 | [], _ => by simp
 | i :: l, h => by
  have ih := forIn_all w f r l (fun j hj => h j (by simp [hj]))
  simp only [List.forIn_cons, Sem.run_bind, h i (by simp), Result.andThen_ok] at ih ⊢
  cases hr : r i with
  | false => simp [hr]
  | true => simp [hr] at ih ⊢; exact ih
theorem run_equalIn_array {P : Program} (w : World) (d : Nat) {t e : TypeId} {n : Nat} (xs ys : Array Value) (hu : P.underlying t = some (.array n e)) {i : TypeInfo} (hi : P.info? e = some i) (r : Nat → Bool) (a b : Nat → Value)
  (ha : ∀ k, k < n → (part e xs (k * P.cellsOf e)).run P w = .ok (a k) w) (hb : ∀ k, k < n → (part e ys (k * P.cellsOf e)).run P w = .ok (b k) w)
  (hr : ∀ k, k < n → (Op.equalIn d e (a k) (b k)).run P w = .ok (r k) w) :
  (Op.equalIn (d + 1) t (.agg xs) (.agg ys)).run P w = .ok ((List.range n).all r) w := by
 simp only [Op.equalIn, Sem.run_bind, run_underlying hu, Result.andThen_ok, run_sizeOf w hi]
 have := forIn_all (P := P) w (fun k => do
  let x ← part e xs (k * P.cellsOf e)
  let y ← part e ys (k * P.cellsOf e)
  Op.equalIn d e x y) r (List.range n) (fun k hk => by
   have hk : k < n := by simpa using hk
   simp only [Sem.run_bind, ha k hk, hb k hk, hr k hk, Result.andThen_ok])
 rw [← this, Std.Legacy.Range.forIn_eq_forIn_range']
 simp only [Std.Legacy.Range.size, Nat.sub_zero, Nat.add_sub_cancel, Nat.div_one, List.range_eq_range', Sem.run_bind, bind_assoc]
 congr 1
 funext a w'
 rcases a with ⟨_ | _, _⟩ <;> rfl
theorem Rep.pairOf {C : Cx} {a : Ty} {l : List Ty} {x : (Ty.st (a :: l)).den} {cs : List Value} (h : Rep C (Ty.st (a :: l)) x cs) :
  ∃ (y : a.den) (z : (Ty.st l).den) (c1 c2 : List Value), cs = c1 ++ c2 ∧ Rep C a y c1 ∧ Rep C (Ty.st l) z c2 := by
 cases l with
 | nil => exact ⟨x, (), cs, [], by simp, h, rfl⟩
 | cons b r => obtain ⟨c1, c2, e, h1, h2⟩ := h; exact ⟨x.1, x.2, c1, c2, e, h1, h2⟩
def stHd {a : Ty} : {l : List Ty} → (Ty.st (a :: l)).den → a.den
 | [], x => x
 | _ :: _, x => x.1
def stTl {a : Ty} : {l : List Ty} → (Ty.st (a :: l)).den → (Ty.st l).den
 | [], _ => ()
 | _ :: _, x => x.2
theorem Rep.st {C : Cx} {a : Ty} {l : List Ty} {x : (Ty.st (a :: l)).den} {cs : List Value} (h : Rep C (Ty.st (a :: l)) x cs) :
  ∃ c1 c2, cs = c1 ++ c2 ∧ Rep C a (stHd x) c1 ∧ Rep C (Ty.st l) (stTl x) c2 := by
 cases l with
 | nil => exact ⟨cs, [], by simp, h, rfl⟩
 | cons b r => obtain ⟨c1, c2, e, h1, h2⟩ := h; exact ⟨c1, c2, e, h1, h2⟩
theorem eqB_st {a : Ty} {l : List Ty} (x y : (Ty.st (a :: l)).den) : (Ty.st (a :: l)).eqB x y = (a.eqB (stHd x) (stHd y) && (Ty.st l).eqB (stTl x) (stTl y)) := by
 cases l with
 | nil => simp [stHd, stTl, Ty.st, Ty.eqB]
 | cons b r => rfl
theorem size_st (a : Ty) (l : List Ty) : (Ty.st (a :: l)).size = a.size + (Ty.st l).size := by
 cases l with
 | nil => simp [Ty.st, Ty.size]
 | cons b r => rfl
theorem beq_bytes (s u : ByteArray) : (s.toList == u.toList) = decide (bytesOf s = bytesOf u) := by rw [ByteArray.toList_eq, ByteArray.toList_eq, list_beq]; rfl
theorem sized_eq {P : Program} {t : TypeId} {ty ty' : Ty} (h : sized P t ty' = some ty) : ty = ty' := by
 unfold sized at h
 cases hb : Nat.beq (P.cellsOf t) ty'.size with
 | false => simp [hb] at h
 | true => simp [hb] at h; exact h.symm
theorem eqData {P : Program} (w : World) : ∀ (n : Nat) {t : TypeId} {ty : Ty} {C : Cx} {x y : ty.den} {cs ds : List Value} {d : Nat}, tyOf P n t = some ty → (∃ m, eqT P m t = true) → n ≤ d →
  Rep C ty x cs → Rep C ty y ds → (Op.equalIn d t (cellsVal P t cs) (cellsVal P t ds)).run P w = .ok (ty.eqB x y) w
 | 0, _, _, _, _, _, _, _, _, h, _, _, _, _ => by simp [tyOf] at h
 | n + 1, t, ty, C, x, y, cs, ds, 0, h, _, hd, _, _ => by omega
 | n + 1, t, ty, C, x, y, cs, ds, d + 1, h, ⟨m, he⟩, hd, hx, hy => by
  have h0 := h
  unfold tyOf at h
  have hm : ∃ m', m = m' + 1 := by cases m with | zero => simp [eqT] at he | succ m => exact ⟨m, rfl⟩
  obtain ⟨m, rfl⟩ := hm
  unfold eqT at he
  split at h
  ·rename_i hu
   obtain rfl := sized_eq h
   obtain rfl : cs = [.bool x] := hx
   obtain rfl : ds = [.bool y] := hy
   rw [cellsVal_one hu rfl, cellsVal_one hu rfl]
   exact run_equalIn_bool' w d t x y hu
  ·rename_i k hu
   obtain rfl := sized_eq h
   obtain ⟨rfl, _⟩ := hx
   obtain ⟨rfl, _⟩ := hy
   rw [cellsVal_one hu rfl, cellsVal_one hu rfl]
   exact run_equalIn_int w d t k k x y hu
  ·rename_i hu
   obtain rfl := sized_eq h
   obtain ⟨s, rfl, rfl⟩ := hx
   obtain ⟨u, rfl, rfl⟩ := hy
   rw [cellsVal_one hu rfl, cellsVal_one hu rfl]
   have := run_equalIn_string (P := P) w d t s u hu
   rw [beq_bytes] at this
   exact this
  ·rename_i e hu
   rw [hu] at he; simp at he
  ·rename_i k e hu
   rw [hu] at he
   split at h
   ·rename_i te hte
    obtain rfl := sized_eq h
    obtain ⟨hx1, hx2⟩ := hx
    obtain ⟨hy1, hy2⟩ := hy
    rw [cellsVal_row hu rfl, cellsVal_row hu rfl]
    have hz := tyOf_size hte
    have hlx := Cat.length (fun _ _ h => Rep.length h) hx2
    have hly := Cat.length (fun _ _ h => Rep.length h) hy2
    have hex : ∃ de, P.underlying e = some de := by
     cases hq : P.underlying e with
     | none => cases n <;> simp [tyOf, hq] at hte
     | some de => exact ⟨de, rfl⟩
    obtain ⟨de, hde⟩ := hex
    obtain ⟨i, hi⟩ := underlying_info hde
    refine run_equalIn_array w d _ _ hu hi _ (fun j => cellsVal P e ((cs.drop (j * te.size)).take te.size)) (fun j => cellsVal P e ((ds.drop (j * te.size)).take te.size)) ?_ ?_ ?_
    ·intro j hj
     have := mul_le_of_lt (z := te.size) hj
     rw [← hz]
     exact run_part w hde _ _ (by simp [hz, hlx, hx1]; omega) (fun q => tyOf_row hte hde q)
    ·intro j hj
     have := mul_le_of_lt (z := te.size) hj
     rw [← hz]
     exact run_part w hde _ _ (by simp [hz, hly, hy1]; omega) (fun q => tyOf_row hte hde q)
    ·intro j hj
     have gx := Cat.get (fun _ _ h => Rep.length h) hx2 (k := j) (by omega)
     have gy := Cat.get (fun _ _ h => Rep.length h) hy2 (k := j) (by omega)
     obtain ⟨i1, e1⟩ := rd_eq te.zero (xs := x) (i := (j : Int)) (by omega) (by omega)
     obtain ⟨i2, e2⟩ := rd_eq te.zero (xs := y) (i := (j : Int)) (by omega) (by omega)
     rw [e1, e2]
     exact eqData w n hte ⟨m, by simpa using he⟩ (by omega) gx gy
   ·simp at h
  ·rename_i fs hu
   rw [hu] at he
   split at h
   ·rename_i l hl
    simp only [cond_eq_ite] at h
    split at h
    ·rename_i ho
     obtain rfl := sized_eq h
     simp only [Bool.and_eq_true, Bool.not_eq_true', List.all_eq_true] at he
     have hf : P.fieldsOf t = fs := by simp [Program.fieldsOf, hu]
     rw [cellsVal_row hu rfl, cellsVal_row hu rfl, run_equalIn_struct (P := P) w d t _ _ (by rw [hf]; exact hu) he.1, hf]
     have key : ∀ (fl : List Field) (tys : List Ty) (o : Nat) (x' y' : (Ty.st tys).den), allSome (fun f => tyOf P n f.type) fl = some tys → offsOk fl tys o = true → (∀ f ∈ fl, (f.name == "_") = false ∧ eqT P m f.type = true) → o ≤ cs.length → o ≤ ds.length →
       Rep C (Ty.st tys) x' (cs.drop o) → Rep C (Ty.st tys) y' (ds.drop o) → (Op.eqFields d cs.toArray ds.toArray fl).run P w = .ok ((Ty.st tys).eqB x' y') w := by
      intro fl
      induction fl with
      | nil =>
       intro tys o x' y' ha ho hn lx ly rx ry
       simp [allSome] at ha; subst ha
       simp [Op.eqFields, Ty.st, Ty.eqB]
      | cons f fl ih =>
       intro tys o x' y' ha ho hn lx ly rx ry
       unfold allSome at ha
       split at ha
       ·rename_i tf htf
        split at ha
        ·rename_i l' hl'
         obtain rfl := Option.some.inj ha
         simp only [offsOk, Bool.and_eq_true] at ho
         obtain ⟨ho1, ho2⟩ := ho
         obtain rfl := Nat.eq_of_beq_eq_true ho1
         obtain ⟨hn1, hn2⟩ := hn f (by simp)
         have hz := tyOf_size htf
         obtain ⟨c1, c2, ec, rx1, rx2⟩ := rx.st
         obtain ⟨d1, d2, ed, ry1, ry2⟩ := ry.st
         have lc := rx1.length
         have ld := ry1.length
         have lcl : c1.length + c2.length = cs.length - f.offset := by have := congrArg List.length ec; simpa using this.symm
         have ldl : d1.length + d2.length = ds.length - f.offset := by have := congrArg List.length ed; simpa using this.symm
         have hex : ∃ de, P.underlying f.type = some de := by
          cases hq : P.underlying f.type with
          | none => cases n <;> simp [tyOf, hq] at htf
          | some de => exact ⟨de, rfl⟩
         obtain ⟨de, hde⟩ := hex
         have e1 : (cs.drop f.offset).take tf.size = c1 := by rw [ec, ← lc, List.take_left]
         have e2 : (ds.drop f.offset).take tf.size = d1 := by rw [ed, ← ld, List.take_left]
         ·have pa := run_part (P := P) w hde cs.toArray f.offset (by simp; omega) (fun q => tyOf_row htf hde q)
          have pb := run_part (P := P) w hde ds.toArray f.offset (by simp; omega) (fun q => tyOf_row htf hde q)
          rw [hz] at pa pb
          simp only [e1, e2] at pa pb
          have r1 := eqData w n htf ⟨m, hn2⟩ (show n ≤ d by omega) rx1 ry1
          have e3 : cs.drop (f.offset + tf.size) = c2 := by rw [← List.drop_drop, ec, ← lc, List.drop_left]
          have e4 : ds.drop (f.offset + tf.size) = d2 := by rw [← List.drop_drop, ed, ← ld, List.drop_left]
          have r2 := ih l' (f.offset + tf.size) (stTl x') (stTl y') hl' ho2 (fun g hg => hn g (by simp [hg])) (by omega) (by omega) (by rw [e3]; exact rx2) (by rw [e4]; exact ry2)
          rw [eqB_st, Op.eqFields, if_pos (by simpa using hn1), Sem.run_bind, pa, Result.andThen_ok, Sem.run_bind, pb, Result.andThen_ok, Sem.run_bind, r1, Result.andThen_ok]
          cases hq : tf.eqB (stHd x') (stHd y') with
          | true => simpa using r2
          | false => simp
        ·simp at ha
       ·simp at ha
     exact key fs.toList l 0 x y hl ho (fun f hf => by have := he.2 f hf; simpa using this) (by omega) (by omega) (by simpa using hx) (by simpa using hy)
    ·simp at h
   ·simp at h
  ·simp at h
end Go.AM
end
section
namespace Go.AM
open Go.RowKit
theorem tyOf_nonrow {P : Program} {n : Nat} {t : TypeId} {ty : Ty} (h : tyOf P n t = some ty) : ∃ d, P.underlying t = some d := by
 cases hq : P.underlying t with
 | none => cases n <;> simp [tyOf, hq] at h
 | some de => exact ⟨de, rfl⟩
theorem tyOf_isRow {P : Program} {n : Nat} {t : TypeId} {ty : Ty} {d : TypeDesc} (h : tyOf P n t = some ty) (hu : P.underlying t = some d) :
  d.isRow = false → ∃ k, ty = .int k ∨ ty = .bool ∨ ty = .str ∨ ∃ e, ty = .lst e := by
 intro hd
 cases n with
 | zero => simp [tyOf] at h
 | succ n =>
  unfold tyOf at h
  rw [hu] at h
  cases d <;> simp at h hd
  ·exact ⟨.i8, .inr (.inl (sized_eq h))⟩
  ·exact ⟨_, .inl (sized_eq h)⟩
  ·exact ⟨.i8, .inr (.inr (.inl (sized_eq h)))⟩
  ·split at h
   ·exact ⟨.i8, .inr (.inr (.inr ⟨_, sized_eq h⟩))⟩
   ·simp at h
def packable : AV → Bool
 | .int .. | .bool _ | .str _ | .lst .. | .arr .. | .nilSlc => true
 | _ => false
theorem pack_none : ∀ {t : Ty} {p : AV} {r r' : List AV} {x : t.den}, packable p = false → pack t (p :: r) = some (x, r') → r' = p :: r
 | .int _, p, r, r', x, hp, e => by cases p <;> simp [pack, packable] at hp e
 | .bool, p, r, r', x, hp, e => by cases p <;> simp [pack, packable] at hp e
 | .str, p, r, r', x, hp, e => by cases p <;> simp [pack, packable] at hp e
 | .lst _, p, r, r', x, hp, e => by cases p <;> simp [pack, packable] at hp e
 | .arr _ _, p, r, r', x, hp, e => by cases p <;> simp [pack, packable] at hp e
 | .unit, p, r, r', x, hp, e => by
  have e : some ((), p :: r) = some (x, r') := e
  exact (Prod.mk.inj (Option.some.inj e)).2.symm
 | .pair a b, p, r, r', x, hp, e => by
  have e : (match pack a (p :: r) with
   | some (x, r') => (match pack b r' with | some (y, r'') => some ((x, y), r'') | none => none)
   | none => none) = some (x, r') := e
  split at e
  ·rename_i x1 r1 e1
   obtain rfl := pack_none hp e1
   split at e
   ·rename_i y1 r2 e2
    obtain rfl := pack_none hp e2
    exact (Prod.mk.inj (Option.some.inj e)).2.symm
   ·simp at e
  ·simp at e
theorem packAll_none {t : Ty} {p : AV} {x : t.den} (hp : packable p = false) (e : packAll t [p] = some x) : False := by
 unfold packAll at e
 split at e
 ·rename_i y e1
  have := pack_none hp e1
  simp at this
 ·simp at e
theorem PR.one {C : Cx} {p : AV} {v : Value} (h : VR C p v) (hp : p.scal = true) (hv : cellV v = true) : PR C [p] [v] := .sc h hp hv .nil
theorem VR.toPR {C : Cx} {a : AV} {v : Value} {ty : Ty} {x : ty.den} (h : VR C a v) (e : packAll ty a.parts = some x) :
  ∃ cs, Rep C ty x cs ∧ ((a.isAgg = true ∧ v = .agg cs.toArray) ∨ (a.isAgg = false ∧ cs = [v] ∧ cellV v = true)) := by
 cases h with
 | agg h => exact ⟨_, h.packAll e, .inl ⟨rfl, rfl⟩⟩
 | @arr n t xs cs h =>
  have k : PR C [.arr n t xs] cs.toList := by have := PR.arr h .nil; rw [List.append_nil] at this; exact this
  exact ⟨cs.toList, k.packAll e, .inl ⟨rfl, by simp⟩⟩
 | int h => exact ⟨_, (PR.one (.int h) rfl rfl).packAll e, .inr ⟨rfl, rfl, rfl⟩⟩
 | bool => exact ⟨_, (PR.one .bool rfl rfl).packAll e, .inr ⟨rfl, rfl, rfl⟩⟩
 | str h => exact ⟨_, (PR.one (.str h) rfl rfl).packAll e, .inr ⟨rfl, rfl, rfl⟩⟩
 | @lst t xs v h =>
  have hv : cellV v = true := by
   obtain ⟨_, _, _, h, _⟩ := h
   cases h; rfl
  exact ⟨_, (PR.one (.lst h) rfl hv).packAll e, .inr ⟨rfl, rfl, hv⟩⟩
 | nilSlc => exact ⟨_, (PR.one .nilSlc rfl rfl).packAll e, .inr ⟨rfl, rfl, rfl⟩⟩
 | _ => exact (packAll_none rfl e).elim
theorem rowT_eq {P : Program} {t : TypeId} {d : TypeDesc} (h : P.underlying t = some d) : rowT P t = d.isRow := by
 unfold rowT; rw [h]; cases d <;> rfl
theorem cellsVal_of {P : Program} {C : Cx} {n : Nat} {t : TypeId} {ty : Ty} {x : ty.den} {a : AV} {v : Value} (ht : tyOf P n t = some ty) (h : VR C a v) (e : packAll ty a.parts = some x)
  (hr : a.isAgg = rowT P t) : ∃ cs, Rep C ty x cs ∧ v = cellsVal P t cs ∧ (rowT P t = true → v = .agg cs.toArray) ∧ (rowT P t = false → cellV v = true) := by
 obtain ⟨d, hd⟩ := tyOf_nonrow ht
 have hd' := rowT_eq hd
 obtain ⟨cs, h1, h2⟩ := h.toPR e
 refine ⟨cs, h1, ?_⟩
 rcases h2 with ⟨h3, h4⟩ | ⟨h3, h4, h5⟩
 ·have hb : d.isRow = true := by rw [← hd', ← hr, h3]
  exact ⟨by rw [cellsVal_row hd hb, h4], fun _ => h4, fun q => by simp [hd', hb] at q⟩
 ·have hb : d.isRow = false := by rw [← hd', ← hr, h3]
  exact ⟨by rw [cellsVal_one hd hb, h4]; rfl, fun q => by simp [hd', hb] at q, fun _ => h5⟩
theorem st_lst {l : List Ty} {e : Ty} (h : Ty.st l = .lst e) : l = [.lst e] := by
 match l, h with
 | [a], h => rw [show Ty.st [a] = a from rfl] at h; rw [h]
theorem eqT_lst {P : Program} : ∀ (n : Nat) {t : TypeId} {e : Ty}, tyOf P n t = some (.lst e) → ∀ m, eqT P m t = false
 | 0, t, e, h, m => by simp [tyOf] at h
 | n + 1, t, e, h, 0 => rfl
 | n + 1, t, e, h, m + 1 => by
  have sz : ∀ ty', sized P t ty' = some (Ty.lst e) → ty' = Ty.lst e := fun ty' h => (sized_eq h).symm
  unfold tyOf at h
  unfold eqT
  split at h
  ·have := sz _ h; simp at this
  ·have := sz _ h; simp at this
  ·have := sz _ h; simp at this
  ·rename_i el hu; rw [hu]
  ·split at h
   ·have := sz _ h; simp at this
   ·simp at h
  ·rename_i fs hu
   rw [hu]
   split at h
   ·rename_i l hl
    simp only [cond_eq_ite] at h
    split at h
    ·obtain rfl := st_lst (sz _ h)
     simp only
     cases hf : fs.toList with
     | nil => rw [hf] at hl; simp [allSome] at hl
     | cons f fl =>
      rw [hf] at hl
      unfold allSome at hl
      split at hl
      ·rename_i tf htf
       split at hl
       ·simp at hl
        obtain ⟨rfl, _⟩ := hl
        simp [eqT_lst n htf m]
       ·simp at hl
      ·simp at hl
    ·simp at h
   ·simp at h
  ·simp at h
theorem run_equal {P : Program} (w : World) (t : TypeId) (x y : Value) : (Op.equal t x y).run P w = (Op.equalIn (9999 + 1) t x y).run P w := rfl
theorem eqNil_sound {P : Program} {C : Cx} {t : TypeId} {x y : AV} {a b : Value} {r : Bool} (h : eqNil P t x y = some r) (hx : VR C x a) (hy : VR C y b) (X Y : Operand) :
  (eqGuard .eql t X Y a b).run P C.w = .ok () C.w ∧ (eqGuard .neq t X Y a b).run P C.w = .ok () C.w ∧
  (binOp .eql t a b).run P C.w = .ok (.bool r) C.w ∧ (binOp .neq t a b).run P C.w = .ok (.bool (!r)) C.w := by
 have go : ∀ {a b : Value}, (∀ d, (Op.equalIn (d + 1) t a b).run P C.w = .ok r C.w) → (binOp .eql t a b = do pure (.bool (← Op.equal t a b))) → (binOp .neq t a b = do pure (.bool (!(← Op.equal t a b)))) →
   (binOp .eql t a b).run P C.w = .ok (.bool r) C.w ∧ (binOp .neq t a b).run P C.w = .ok (.bool (!r)) C.w := by
  intro a b hd h1 h2
  rw [h1, h2, Sem.run_bind, Sem.run_bind, run_equal, hd]
  exact ⟨rfl, rfl⟩
 unfold eqNil at h
 split at h
 ·rename_i e hu
  split at h <;> simp at h
  ·subst h; cases hx; cases hy
   exact ⟨rfl, rfl, go (fun d => by simp only [Op.equalIn, Sem.run_bind, run_underlying hu, Result.andThen_ok]; rfl) rfl rfl⟩
  ·subst h; cases hy
   cases hx with
   | nlst _ k =>
    obtain ⟨a, n, c, rfl⟩ := k
    exact ⟨rfl, rfl, go (fun d => by simp only [Op.equalIn, Sem.run_bind, run_underlying hu, Result.andThen_ok]; rfl) rfl rfl⟩
 ·rename_i hu
  split at h <;> simp at h <;> subst h <;> cases hx <;> cases hy <;>
  exact ⟨rfl, rfl, go (fun d => by simp only [Op.equalIn, Sem.run_bind, run_underlying hu, Result.andThen_ok]; rfl) rfl rfl⟩
 ·rename_i e hu
  split at h <;> simp at h <;> subst h <;> cases hx <;> cases hy <;>
  exact ⟨rfl, rfl, go (fun d => by simp only [Op.equalIn, Sem.run_bind, run_underlying hu, Result.andThen_ok]; rfl) rfl rfl⟩
 ·rename_i e hu
  split at h <;> simp at h <;> subst h <;> cases hx <;> cases hy <;>
  exact ⟨rfl, rfl, go (fun d => by simp only [Op.equalIn, Sem.run_bind, run_underlying hu, Result.andThen_ok]; rfl) rfl rfl⟩
 ·simp at h
theorem pack_int {k : IntKind} {x : AV} {p : (Ty.int k).den} (h : packAll (.int k) x.parts = some p) (hx : x.isAgg = false) : ∃ n, x = .int k n := by
 cases x <;> simp [AV.isAgg] at hx <;> simp [packAll, pack, AV.parts] at h
 rename_i k' n
 by_cases e : k' = k
 ·subst e; exact ⟨n, rfl⟩
 ·simp [e] at h
theorem pack_str {x : AV} {p : Ty.str.den} (h : packAll .str x.parts = some p) (hx : x.isAgg = false) : ∃ n, x = .str n := by
 cases x <;> simp [AV.isAgg] at hx <;> simp [packAll, pack, AV.parts] at h
 exact ⟨_, rfl⟩
theorem eqA_sound {P : Program} {C : Cx} {t : TypeId} {x y : AV} {a b : Value} {r : Bool} (h : eqA P t x y = some r) (hx : VR C x a) (hy : VR C y b) (X Y : Operand)
  (hi : ∀ k n k' n', x = .int k n → y = .int k' n' → False) (hs : ∀ s s', x = .str s → y = .str s' → False) :
  (eqGuard .eql t X Y a b).run P C.w = .ok () C.w ∧ (eqGuard .neq t X Y a b).run P C.w = .ok () C.w ∧
  (binOp .eql t a b).run P C.w = .ok (.bool r) C.w ∧ (binOp .neq t a b).run P C.w = .ok (.bool (!r)) C.w := by
 unfold eqA at h
 split at h
 ·rename_i b' hb
  obtain rfl := Option.some.inj h
  exact eqNil_sound hb hx hy X Y
 ·split at h
  ·rename_i ty ht
   simp only [cond_eq_ite] at h
   split at h
   ·rename_i hc
    simp only [Bool.and_eq_true, beq_iff_eq, Bool.not_eq_true'] at hc
    obtain ⟨⟨⟨c1, c2⟩, c3⟩, c4⟩ := hc
    split at h
    ·rename_i p q hp hq
     obtain rfl := Option.some.inj h
     obtain ⟨cs, r1, e1, f1, g1⟩ := cellsVal_of ht hx hp c3
     obtain ⟨ds, r2, e2, f2, g2⟩ := cellsVal_of ht hy hq c4
     have k := eqData C.w tyD ht ⟨_, c1⟩ (show tyD ≤ 10000 by decide) r1 r2
     cases hrow : rowT P t with
     | true =>
      have f1 := f1 hrow
      have f2 := f2 hrow
      rw [← e1, ← e2] at k
      subst f1; subst f2
      refine ⟨run_eqGuard_agg C.w _ t X Y _ _ c2, run_eqGuard_agg C.w _ t X Y _ _ c2, ?_, ?_⟩
      ·rw [run_eql_struct, k]; rfl
      ·rw [run_neq_struct, k]; rfl
     | false =>
      obtain ⟨d, hd⟩ := tyOf_nonrow ht
      rw [rowT_eq hd] at hrow
      obtain ⟨k', hty⟩ := tyOf_isRow ht hd hrow
      rw [cellsVal_one hd hrow] at e1 e2
      rcases hty with rfl | rfl | rfl | ⟨e, rfl⟩
      ·obtain ⟨n1, e1⟩ := pack_int hp (by rw [c3, rowT_eq hd, hrow]); obtain ⟨n2, e2⟩ := pack_int hq (by rw [c4, rowT_eq hd, hrow])
       exact (hi _ _ _ _ e1 e2).elim
      ·obtain rfl := r1; obtain rfl := r2
       subst e1; subst e2
       rw [cellsVal_one hd hrow, cellsVal_one hd hrow] at k
       refine ⟨rfl, rfl, ?_, ?_⟩
       ·have : binOp .eql t (.bool p) (.bool q) = (do pure (.bool (← Op.equal t (.bool p) (.bool q)))) := rfl
        show (binOp .eql t (.bool p) (.bool q)).run P C.w = _
        rw [this, Sem.run_bind, Op.equal, show Op.maxDepth = 10000 from rfl]
        rw [show (Op.equalIn 10000 t (.bool p) (.bool q)).run P C.w = .ok (Ty.eqB .bool p q) C.w from k]; rfl
       ·have : binOp .neq t (.bool p) (.bool q) = (do pure (.bool (!(← Op.equal t (.bool p) (.bool q))))) := rfl
        show (binOp .neq t (.bool p) (.bool q)).run P C.w = _
        rw [this, Sem.run_bind, Op.equal, show Op.maxDepth = 10000 from rfl]
        rw [show (Op.equalIn 10000 t (.bool p) (.bool q)).run P C.w = .ok (Ty.eqB .bool p q) C.w from k]; rfl
      ·obtain ⟨n1, e1⟩ := pack_str hp (by rw [c3, rowT_eq hd, hrow]); obtain ⟨n2, e2⟩ := pack_str hq (by rw [c4, rowT_eq hd, hrow])
       exact (hs _ _ e1 e2).elim
      ·have := eqT_lst _ ht
       rw [this] at c1; simp at c1
    ·simp at h
   ·simp at h
  ·simp at h
end Go.AM
end
section
namespace Go.AM
open Go.RowKit
theorem guard_int {P : Program} (w : World) (op : BinOp) (t : TypeId) (X Y : Operand) (k k' : IntKind) (a b : Int) : (eqGuard op t X Y (.int k a) (.int k' b)).run P w = .ok () w := by
 cases op <;> rfl
theorem guard_str {P : Program} (w : World) (op : BinOp) (t : TypeId) (X Y : Operand) (a b : ByteArray) : (eqGuard op t X Y (.string a) (.string b)).run P w = .ok () w := by
 cases op <;> rfl
theorem binA_sound {P : Program} {C : Cx} {op : BinOp} {t : TypeId} {x y : AV} {a b : Value} {r : AV × Upd} (h : (binA P op t x y).Ev r) (hx : VR C x a) (hy : VR C y b) (X Y : Operand) :
  ∃ v, (do eqGuard op t X Y a b; binOp op t a b : Sem Value).run P C.w = .ok v C.w ∧ VR C r.1 v ∧ r.2 = [] := by
 unfold binA at h
 split at h
 ·rename_i k m k' n
  cases hx; cases hy
  obtain ⟨h1, h2⟩ := F.ev_guard h
  obtain rfl := F.ev_one h2
  have hb : ¬ n < 0 := by simpa using h1
  refine ⟨.int k (ishl k m n), ?_, .int (wrap_in _ _), rfl⟩
  rw [Sem.run_bind, guard_int, Result.andThen_ok]
  simp [binOp, Op.shift, hb, ishl]
 ·rename_i k m k' n
  cases hx with
  | int hr =>
  cases hy
  obtain ⟨h1, h2⟩ := F.ev_guard h
  obtain rfl := F.ev_one h2
  have hb : ¬ n < 0 := by simpa using h1
  refine ⟨.int k (ishr k m n), ?_, .int (fdiv_in hr), rfl⟩
  rw [Sem.run_bind, guard_int, Result.andThen_ok]
  simp [binOp, Op.shift, hb, ishr]
 ·rename_i k m k' n h1 h2
  cases hx with
  | int hr =>
  cases hy
  simp only [cond_eq_ite] at h
  split at h
  ·rename_i hk
   obtain rfl := of_decide_eq_true hk
   obtain ⟨v, e, e1, e2⟩ := intOp_sound (P := P) (C := C) h hr (fun q => h1 q) (fun q => h2 q) t
   exact ⟨v, by rw [Sem.run_bind, guard_int, Result.andThen_ok, e], e1, e2⟩
  ·exact (F.ev_fail h).elim
 ·cases hx with
  | str e1 =>
  cases hy with
  | str e2 =>
  subst e1; subst e2
  obtain ⟨v, e, e1, e2⟩ := strOp_sound (P := P) (C := C) h t
  exact ⟨v, by rw [Sem.run_bind, guard_str, Result.andThen_ok, e], e1, e2⟩
 ·rename_i n1 n2 n3
  split at h
  ·rename_i b' hb
   obtain rfl := F.ev_one h
   obtain ⟨k1, k2, k3, k4⟩ := eqA_sound hb hx hy X Y
    (fun k n k' n' e1 e2 => by first | exact n3 _ _ _ _ e1 e2 | exact n1 _ _ _ _ e1 e2 | exact n2 _ _ _ _ e1 e2)
    (fun s s' e1 e2 => by first | exact n3 _ _ e1 e2 | exact n2 _ _ e1 e2 | exact n1 _ _ e1 e2)
   exact ⟨.bool b', by rw [Sem.run_bind, k1, Result.andThen_ok, k3], .bool, rfl⟩
  ·exact (F.ev_fail h).elim
 ·rename_i n1 n2 n3
  split at h
  ·rename_i b' hb
   obtain rfl := F.ev_one h
   obtain ⟨k1, k2, k3, k4⟩ := eqA_sound hb hx hy X Y
    (fun k n k' n' e1 e2 => by first | exact n3 _ _ _ _ e1 e2 | exact n1 _ _ _ _ e1 e2 | exact n2 _ _ _ _ e1 e2)
    (fun s s' e1 e2 => by first | exact n3 _ _ e1 e2 | exact n2 _ _ e1 e2 | exact n1 _ _ e1 e2)
   exact ⟨.bool (!b'), by rw [Sem.run_bind, k2, Result.andThen_ok, k4], .bool, rfl⟩
  ·exact (F.ev_fail h).elim
 ·exact (F.ev_fail h).elim
theorem okSize_eq {P : Program} {t : TypeId} (h : okSize P t = true) : ∃ d, P.underlying t = some d ∧ (d.isRow = false → P.cellsOf t = 1) := by
 unfold okSize at h
 split at h
 ·rename_i hu; exact ⟨_, hu, fun q => by simp at q⟩
 ·rename_i hu; exact ⟨_, hu, fun q => by simp at q⟩
 ·rename_i d _ _ hu; exact ⟨_, hu, fun _ => Nat.eq_of_beq_eq_true h⟩
 ·simp at h
theorem run_loadVar_cells {P : Program} (w : World) {t : TypeId} {d : TypeDesc} (hu : P.underlying t = some d) (h1 : d.isRow = false → P.cellsOf t = 1) {c o : Nat} {cs : List Value}
  (hc : w.rangeAt c o cs) (hl : cs.length = P.cellsOf t) : (loadVar t ⟨c, o, none⟩).run P w = .ok (cellsVal P t cs) w := by
 obtain ⟨i, hi⟩ := underlying_info hu
 cases hd : d.isRow with
 | true =>
  rw [cellsVal_row hu hd]
  exact run_loadVar_mid w c o t cs d hc hu hd (by simp [hi, hl, cellsOf_info hi])
 | false =>
  rw [cellsVal_one hu hd]
  have h1 := h1 hd
  obtain ⟨v, rfl⟩ : ∃ v, cs = [v] := by
   match cs, (show cs.length = 1 by omega) with
   | [v], _ => exact ⟨v, rfl⟩
  unfold loadVar
  rw [Sem.run_bind, run_isAgg w hu, Result.andThen_ok, hd, if_neg (by simp), run_load]
  have := hc 0 v rfl
  simp only [Nat.add_zero] at this
  rw [this]; rfl
theorem mkVal_sound {P : Program} {C : Cx} {t : TypeId} {d : TypeDesc} {l : List AV} {cs : List Value} (h : PR C l cs) (hu : P.underlying t = some d) : VR C (mkVal P t l) (cellsVal P t cs) := by
 unfold mkVal cellsVal
 rw [hu]
 cases d
 case struct fs => exact .agg h
 case array n e =>
  simp only
  split
  ·unfold asArr
   split
   ·rename_i n t xs
    cases h with
    | sc _ h2 _ _ => simp [AV.scal] at h2
    | arr h1 h2 => cases h2; exact .arr (by simpa using h1)
   ·exact .junk _
  ·exact .agg h
 all_goals
  simp only
  unfold asScal
  split
  ·rename_i v
   cases hv : v.scal with
   | false => exact .junk _
   | true =>
    simp only [cond_true]
    cases h with
    | sc h1 h2 h3 h4 => cases h4; exact h1
    | arr _ _ => simp [AV.scal] at hv
    | row _ _ => simp [AV.scal] at hv
  ·exact .junk _
theorem Hp.cells_get {h : Hp} {b v : Nat} {x : Bool × List AV} (e : h.cells b v = some x) : ∃ ro, h.get b = some (.cells v ro x.2) ∧ x.1 = !ro := by
 unfold Hp.cells at e
 split at e
 ·rename_i ver ro ps hg
  cases hb : Nat.beq ver v with
  | false => simp [hb] at e
  | true =>
   simp [hb] at e
   subst e
   obtain rfl := Nat.eq_of_beq_eq_true hb
   exact ⟨ro, hg, rfl⟩
 ·simp at e
def Sub' (h' h : Hp) : Prop := ∀ b o, h'.get b = some o → h.get b = some o
theorem Inv.block {P : Program} {S0 : Base} {w0 : World} {C : Cx} {h h' : Hp} (I : Inv P S0 w0 C h) (hs : Sub' h' h) {b v : Nat} {x : Bool × List AV} (e : h'.cells b v = some x) :
  ∃ ro en, h.get b = some (.cells v ro x.2) ∧ x.1 = !ro ∧ C.M b = some en ∧ en.ver = v ∧ en.perm = false ∧ RowLen en.len x.2 ∧ match en.cb with
   | none => ∃ t, x.2 = [.row t []]
   | some c => ∃ pre, PR C x.2 pre ∧ C.w.rangeAt c 0 pre ∧ ∀ j, (C.w.cell? ⟨c, j, none⟩).isSome = true → C.w.frozen? ⟨c, j, none⟩ = false := by
 obtain ⟨ro, h1, h2⟩ := Hp.cells_get e
 have h1 := hs _ _ h1
 obtain ⟨en, h3, h4, h5, h6, h7⟩ := I.obj _ _ h1
 exact ⟨ro, en, h1, h2, h3, h4, h5, h6, h7⟩
theorem rangeAt_sub {w : World} {c o : Nat} {cs : List Value} (h : w.rangeAt c 0 cs) (n : Nat) : w.rangeAt c o ((cs.drop o).take n) := by
 intro j v hv
 rw [List.getElem?_take] at hv
 split at hv
 ·rw [List.getElem?_drop] at hv
  have := h _ _ hv
  simpa using this
 ·simp at hv
theorem loadA_sound {P : Program} {S0 : Base} {w0 : World} {C : Cx} {h h' : Hp} (I : Inv P S0 w0 C h) (hs : Sub' h' h) {t : TypeId} {a : AV} {v : Value} {r : AV × Upd}
  (e : (loadA P h' t a).Ev r) (hv : VR C a v) : Vals P C (Instr.loadAt t v) r := by
 unfold loadA at e
 split at e
 ·rename_i b ver o path
  split at e
  ·rename_i w ps hc
   split at e
   ·rename_i l hl
    simp only [cond_eq_ite] at e
    split at e
    ·rename_i hz
     obtain rfl := F.ev_one e
     obtain ⟨d, hu, h1⟩ := okSize_eq hz
     obtain ⟨ro, en, g1, g2, g3, g4, g5, g6, g7⟩ := I.block hs hc
     cases hv with
     | ptr k1 k2 k3 k4 =>
      rw [g3] at k1; obtain rfl := Option.some.inj k1
      obtain ⟨c, q1, q2, q3⟩ := k3 g4.symm
      rw [q1] at g7
      obtain ⟨pre, p1, p2, _⟩ := g7
      obtain ⟨s1, s2⟩ := p1.objGet g6 hl q3
      subst q2
      refine ⟨cellsVal P t ((pre.drop (o + poff path)).take (P.cellsOf t)), ?_, mkVal_sound s1 hu, rfl⟩
      simp only [Instr.loadAt, Instr.sureAddr, Sem.run_bind, Sem.run_pure, Result.andThen_ok]
      refine run_loadVar_cells C.w hu h1 (rangeAt_sub p2 _) ?_
      by_cases hn : P.cellsOf t = 0
      ·simp [hn]
      ·have := s2 hn; simp; omega
    ·exact (F.ev_fail e).elim
   ·exact (F.ev_fail e).elim
  ·exact (F.ev_fail e).elim
 ·rename_i ty x o
  split at e
  ·rename_i l hl
   simp only [cond_eq_ite] at e
   split at e
   ·rename_i hz
    obtain rfl := F.ev_one e
    obtain ⟨d, hu, h1⟩ := okSize_eq hz
    cases hv with
    | @rp _ _ _ b p ds k1 k2 =>
     have hg : getPath [] ty x o (P.cellsOf t) = some l := hl
     obtain ⟨s1, s2⟩ := Rep.getPath 0 k1 hg trivial
     simp only [poff, Nat.add_zero] at s1 s2
     refine ⟨cellsVal P t ((ds.drop o).take (P.cellsOf t)), ?_, mkVal_sound s1 hu, rfl⟩
     simp only [Instr.loadAt, Instr.sureAddr, Sem.run_bind, Sem.run_pure, Result.andThen_ok]
     refine run_loadVar_cells C.w hu h1 ?_ ?_
     ·intro j u hj
      rw [List.getElem?_take] at hj
      split at hj
      ·rw [List.getElem?_drop] at hj
       rw [Nat.add_assoc]; exact (k2 _ _ hj).1
      ·simp at hj
     ·by_cases hn : P.cellsOf t = 0
      ·simp [hn]
      ·have := s2 hn; simp; omega
   ·exact (F.ev_fail e).elim
  ·exact (F.ev_fail e).elim
 ·exact (F.ev_fail e).elim
end Go.AM
end
section
namespace Go.AM
open Go.RowKit
theorem Below.setCells {B : Nat} {a : World} {c : Nat} (hc : B ≤ c) : ∀ (vs : List Value) (o : Nat) {w : World}, Below B a w → Below B a (w.setCells c o vs)
 | [], _, _, h => h
 | v :: r, o, _, h => Below.setCells hc r (o + 1) (h.setCell (p := ⟨c, o, none⟩) hc v)
theorem heap_setCells {c : Nat} : ∀ (vs : List Value) (o : Nat) (w : World) (k : Nat), k ≠ c → (w.setCells c o vs).heap[k]? = w.heap[k]?
 | [], _, _, _, _ => rfl
 | v :: r, o, w, k, h => by rw [World.setCells, heap_setCells r (o + 1) _ k h, Below.heap_setCell _ _ _ _ h]
theorem size_setCells {c : Nat} : ∀ (vs : List Value) (o : Nat) (w : World), (w.setCells c o vs).heap.size = w.heap.size
 | [], _, _ => rfl
 | v :: r, o, w => by rw [World.setCells, size_setCells r (o + 1)]; simp [World.setCell]
theorem rangeAt_set {w : World} {c o : Nat} {pre ds : List Value} (h : w.rangeAt c 0 pre) (hle : o + ds.length ≤ pre.length) :
  (w.setCells c o ds).rangeAt c 0 (pre.take o ++ (ds ++ pre.drop (o + ds.length))) := by
 have hex : ∀ j, j < ds.length → (w.cell? ⟨c, o + j, none⟩).isSome = true := fun j hj => by
  have := h (o + j) pre[o + j] (by rw [List.getElem?_eq_getElem (by omega)])
  simp only [Nat.zero_add] at this
  rw [this]; rfl
 intro j v hv
 simp only [Nat.zero_add]
 by_cases h1 : j < o
 ·rw [World.cell?_setCells_out c ds o w _ (fun _ _ => .inl h1)]
  rw [List.getElem?_append_left (by simp; omega), List.getElem?_take_of_lt h1] at hv
  have := h j v hv
  simpa using this
 ·by_cases h2 : j < o + ds.length
  ·rw [List.getElem?_append_right (by simp; omega)] at hv
   have e : j - (pre.take o).length = j - o := by simp; omega
   rw [e, List.getElem?_append_left (by omega)] at hv
   have := World.cell?_setCells_in c ds o w hex (j - o) (by omega)
   rw [show o + (j - o) = j by omega] at this
   rw [this, ← hv, List.getElem?_eq_getElem]
  ·rw [World.cell?_setCells_out c ds o w _ (fun _ _ => .inr (by show o + ds.length ≤ j; omega))]
   rw [List.getElem?_append_right (by simp; omega)] at hv
   have e : j - (pre.take o).length = j - o := by simp; omega
   rw [e, List.getElem?_append_right (by omega), List.getElem?_drop] at hv
   rw [show o + ds.length + (j - o - ds.length) = j by omega] at hv
   have := h j v hv
   simpa using this
theorem Rep.cellV {C : Cx} : ∀ {t : Ty} {x : t.den} {cs : List Value}, Rep C t x cs → ∀ v ∈ cs, AM.cellV v = true
 | .int _, _, _, h, v, hv => by obtain ⟨rfl, _⟩ := h; simp at hv; subst hv; rfl
 | .bool, _, _, h, v, hv => by obtain rfl := h; simp at hv; subst hv; rfl
 | .str, _, _, h, v, hv => by obtain ⟨_, rfl, _⟩ := h; simp at hv; subst hv; rfl
 | .lst _, _, _, h, v, hv => by obtain ⟨_, _, _, rfl, _⟩ := h; simp at hv; subst hv; rfl
 | .arr n t, xs, cs, ⟨_, h⟩, v, hv => by
  have : ∀ {xs : List t.den} {cs : List Value}, Cat (Rep C t) xs cs → ∀ v ∈ cs, AM.cellV v = true := by
   intro xs
   induction xs with
   | nil => intro cs h v hv; obtain rfl := h; simp at hv
   | cons x r ih =>
    rintro cs ⟨c1, c2, rfl, h1, h2⟩ v hv
    rcases List.mem_append.1 hv with hv | hv
    ·exact Rep.cellV h1 v hv
    ·exact ih h2 v hv
  exact this h v hv
 | .unit, _, _, h, v, hv => by obtain rfl := h; simp at hv
 | .pair _ _, _, _, ⟨_, _, e, h1, h2⟩, v, hv => by
  subst e
  rcases List.mem_append.1 hv with hv | hv
  ·exact Rep.cellV h1 v hv
  ·exact Rep.cellV h2 v hv
theorem Cat.cellV {C : Cx} {t : Ty} : ∀ {xs : List t.den} {cs : List Value}, Cat (Rep C t) xs cs → ∀ v ∈ cs, AM.cellV v = true
 | [], cs, h, v, hv => by obtain rfl : cs = [] := h; simp at hv
 | x :: r, cs, ⟨c1, c2, e, h1, h2⟩, v, hv => by
  subst e
  rcases List.mem_append.1 hv with hv | hv
  ·exact h1.cellV v hv
  ·exact Cat.cellV h2 v hv
theorem PR.cellV {C : Cx} : ∀ {ps cs}, PR C ps cs → ∀ v ∈ cs, AM.cellV v = true
 | _, _, .nil, v, hv => by simp at hv
 | _, _, .sc _ _ h3 h4, v, hv => by
  rcases List.mem_cons.1 hv with rfl | hv
  ·exact h3
  ·exact h4.cellV v hv
 | _, _, .arr h1 h2, v, hv => by
  rcases List.mem_append.1 hv with hv | hv
  ·exact h1.cellV v hv
  ·exact h2.cellV v hv
 | _, _, .row h1 h2, v, hv => by
  rcases List.mem_append.1 hv with hv | hv
  ·exact Cat.cellV h1 v hv
  ·exact h2.cellV v hv
theorem cellV_one {v : Value} (h : AM.cellV v = true) : v.oneCell' = true := by cases v <;> simp_all [AM.cellV, Value.oneCell']
theorem VR.cellV {C : Cx} {x : AV} {v : Value} (h : VR C x v) (hx : storable x = true) (hs : x.scal = true) : AM.cellV v = true := by
 cases h with
 | junk => simp [storable] at hx
 | lst h => exact h.cellV _ (by simp)
 | nlst h => exact h.cellV _ (by simp)
 | arr => simp [AV.scal] at hs
 | agg => simp [AV.scal] at hs
 | tup => simp [AV.scal] at hs
 | ptr _ _ _ h => obtain ⟨_, rfl⟩ := h; rfl
 | own _ _ _ h => obtain ⟨_, _, _, rfl⟩ := h; rfl
 | slc _ _ _ h => obtain ⟨_, _, _, rfl⟩ := h; rfl
 | _ => rfl
theorem VR.parts {C : Cx} {x : AV} {v : Value} (h : VR C x v) (hx : storable x = true) : PR C x.parts v.cells.toList := by
 cases hs : x.scal with
 | true =>
  have hc := h.cellV hx hs
  have e1 : x.parts = [x] := by cases x <;> simp_all [AV.scal, AV.parts]
  have e2 : v.cells.toList = [v] := by cases v <;> simp_all [AM.cellV, Value.cells]
  rw [e1, e2]; exact PR.one h hs hc
 | false =>
  cases h with
  | agg h => simpa [AV.parts, Value.cells] using h
  | @arr n t xs cs h => have := PR.arr h .nil; rw [List.append_nil] at this; simpa [AV.parts, Value.cells] using this
  | tup => simp [storable] at hx
  | _ => simp [AV.scal] at hs
theorem Does.vals {P : Program} {S0 : Base} {w0 : World} {cs : List Frame} {C : Cx} {h : Hp} {nx : Nat} {s : Sem Value} {x : AV × Upd} (I : Inv P S0 w0 C h) (hv : Vals P C s x) :
  Does P S0 w0 cs C h nx ((do pure (.value (← s)) : Sem Next).run P C.w) x := by
 obtain ⟨v, h1, h2, h3⟩ := hv
 refine ⟨v, C, .inl ?_, by rw [h3]; exact I, .refl C, h2, fun y hy => .inl hy⟩
 rw [Sem.run_bind, h1]; rfl
theorem ne_some_none {α : Type} {x : Option α} : x ≠ none ↔ ∃ a, x = some a := by cases x <;> simp
theorem storeA_sound {P : Program} {S0 : Base} {w0 : World} {cs : List Frame} {C : Cx} {h h' : Hp} {nx : Nat} (I : Inv P S0 w0 C h) (hs : Sub' h' h) {t : TypeId} {a x : AV} {v u : Value} {r : AV × Upd}
  (e : (storeA P h' t a x).Ev r) (hv : VR C a v) (hu : VR C x u) : Does P S0 w0 cs C h nx ((do Instr.storeAt t v u; pure .skip : Sem Next).run P C.w) r := by
 unfold storeA at e
 split at e
 ·rename_i b ver o path
  split at e
  ·rename_i w ps hc
   simp only [cond_eq_ite] at e
   split at e
   ·rename_i hz
    simp only [Bool.and_eq_true] at hz
    obtain ⟨⟨⟨z1, z2⟩, z3⟩, z4⟩ := hz
    split at e
    ·rename_i l hl
     obtain rfl := F.ev_ret e
     obtain ⟨ro, en, g1, g2, g3, g4, g5, g6, g7⟩ := I.block hs hc
     have hro : ro = false := by cases ro <;> simp_all
     subst hro
     cases hv with
     | ptr k1 k2 k3 k4 =>
      rw [g3] at k1; obtain rfl := Option.some.inj k1
      obtain ⟨c, q1, q2, q3⟩ := k3 g4.symm
      rw [q1] at g7
      obtain ⟨pre, p1, p2, p3⟩ := g7
      have pu := hu.parts z2
      have hlen : u.cells.toList.length = P.cellsOf t := by rw [pu.length]; exact Nat.eq_of_beq_eq_true z3
      obtain ⟨s1, s2⟩ := p1.objPut g6 hl q3 pu hlen
      subst q2
      have hdl := hlen
      have hle : (o + poff path) + u.cells.toList.length ≤ pre.length := by omega
      have hex : ∀ j, j < u.cells.toList.length → (C.w.cell? ⟨c, (o + poff path) + j, none⟩).isSome = true := fun j hj => by
       have := p2 (o + poff path + j) pre[o + poff path + j] (by rw [List.getElem?_eq_getElem (by omega)])
       simp only [Nat.zero_add] at this
       rw [this]; rfl
      have hnoRO : ∀ j, C.RO c j → False := fun j hj => by
       obtain ⟨v', ps', r1, _⟩ := I.roO _ _ _ _ g3 q1 hj
       rw [g1] at r1; simp at r1
      obtain ⟨d, hd, _⟩ := okSize_eq z4
      obtain ⟨i, hi⟩ := underlying_info hd
      have hrun : (do Instr.storeAt t (.pointer (some ⟨c, o + poff path, none⟩)) u; pure .skip : Sem Next).run P C.w = .ok .skip (C.w.setCells c (o + poff path) u.cells.toList) := by
       have k1 := run_storeCells_cells (P := P) c (o + poff path) u.cells.toList 0 C.w (fun j hj => by simpa using hex j hj)
        (fun j hj => by simpa using p3 (o + poff path + j) (hex j hj)) (fun x hx => cellV_one (pu.cellV x hx))
       simp only [Nat.add_zero] at k1
       have k2 : u.cells.size = P.cellsOf t := by simpa using hlen
       simp only [Instr.storeAt, Instr.sureAddr, storeVar, Sem.run_bind, Sem.run_pure, Result.andThen_ok, run_sizeOf C.w hi, k2, ne_eq, not_true, if_false, k1]
      have loc := I.loc _ _ _ g3 q1
      have T := I.turn (b := b) (e := en) (e' := en) (ao := .cells ver false l) (w' := C.w.setCells c (o + poff path) u.cells.toList) g3 (Nat.le_refl _) (fun _ => rfl) (fun _ => rfl)
       (Keep.setCells loc.1 _ _ I.below) (by rw [size_setCells]; omega)
       (fun k _ hk => heap_setCells _ _ _ _ (fun q => hk (by rw [q]; exact q1)))
       (fun c' j hc' hr => by rw [q1] at hc'; obtain rfl := Option.some.inj hc'; exact (hnoRO j hr).elim)
       (fun c' j hc' hr => by
        rw [q1] at hc'; obtain rfl := Option.some.inj hc'
        by_cases hin : (o + poff path) ≤ j ∧ j < (o + poff path) + u.cells.toList.length
        ·have := World.cell?_setCells_in c u.cells.toList (o + poff path) C.w hex (j - (o + poff path)) (by omega)
         rw [show o + poff path + (j - (o + poff path)) = j by omega] at this
         rw [this]; rfl
        ·rw [World.cell?_setCells_out c _ _ _ _ (fun _ _ => by show j < o + poff path ∨ _ ≤ j; omega)]; exact hr)
       (fun c' hc' => .inl hc')
       (fun c' j hc' _ hr => by rw [q1] at hc'; obtain rfl := Option.some.inj hc'; exact (hnoRO j hr).elim)
       (fun le => by
        refine ⟨g4, g5, RowLen_objPut g6 hl, ?_⟩
        rw [q1]
        refine ⟨_, s1.mono le, ?_, fun j hj => ?_⟩
        ·rw [← hlen]; exact rangeAt_set p2 hle
        ·rw [World.frozen?_setCells]
         refine p3 j ?_
         by_cases hin : (o + poff path) ≤ j ∧ j < (o + poff path) + u.cells.toList.length
         ·have := hex (j - (o + poff path)) (by omega)
          rwa [show o + poff path + (j - (o + poff path)) = j by omega] at this
         ·have hj : ((C.w.setCells c (o + poff path) u.cells.toList).cell? ⟨c, j, none⟩).isSome = true := hj
          rwa [World.cell?_setCells_out c _ _ _ _ (fun _ _ => by show j < o + poff path ∨ _ ≤ j; omega)] at hj)
      exact ⟨undef, _, .inr (.inl ⟨hrun, rfl⟩), T.2, T.1, .junk _, fun y hy => by
       by_cases hyb : y = b
       ·subst hyb; left; rw [g3]; simp
       ·left; simpa [hyb] using hy⟩
    ·exact (F.ev_fail e).elim
   ·exact (F.ev_fail e).elim
  ·exact (F.ev_fail e).elim
 ·exact (F.ev_fail e).elim
theorem eatList_spec {C : Cx} {α : Type} {R : α → List Value → Prop} {f : α → List Value → Option (List Value)} (hf : ∀ x vs ws, f x vs = some ws → ∃ c, vs = c ++ ws ∧ R x c) :
  ∀ {xs : List α} {vs ws : List Value}, eatList f xs vs = some ws → ∃ c, vs = c ++ ws ∧ Cat R xs c
 | [], vs, ws, h => by simp [eatList] at h; subst h; exact ⟨[], rfl, rfl⟩
 | x :: r, vs, ws, h => by
  unfold eatList at h
  split at h
  ·rename_i us hu
   obtain ⟨c1, rfl, h1⟩ := hf _ _ _ hu
   obtain ⟨c2, rfl, h2⟩ := eatList_spec (C := C) hf h
   exact ⟨c1 ++ c2, by simp, c1, c2, rfl, h1, h2⟩
  ·simp at h
theorem eat_spec {C : Cx} : ∀ {t : Ty} {x : t.den} {vs ws : List Value}, eat t x vs = some ws → ∃ c, vs = c ++ ws ∧ Rep C t x c
 | .int k, x, vs, ws, h => by
  cases vs with
  | nil => simp [eat] at h
  | cons v vs =>
   cases v <;> simp [eat] at h
   simp only [cond_eq_ite] at h
   split at h
   ·rename_i hc
    simp only [Bool.and_eq_true, decide_eq_true_eq] at hc
    obtain ⟨⟨rfl, rfl⟩, h3⟩ := hc
    obtain rfl := Option.some.inj h
    exact ⟨[_], rfl, rfl, h3⟩
   ·simp at h
 | .bool, x, vs, ws, h => by
  cases vs with
  | nil => simp [eat] at h
  | cons v vs =>
   cases v <;> simp [eat] at h
   simp only [cond_eq_ite] at h
   split at h
   ·rename_i b hc
    obtain rfl := Option.some.inj h
    have : b = x := by have hc : @BEq.beq Bool _ b x = true := hc; exact eq_of_beq hc
    subst this
    exact ⟨[_], rfl, rfl⟩
   ·simp at h
 | .str, x, vs, ws, h => by
  cases vs with
  | nil => simp [eat] at h
  | cons v vs =>
   cases v <;> simp [eat] at h
   simp only [cond_eq_ite] at h
   split at h
   ·rename_i s hc
    obtain rfl := Option.some.inj h
    exact ⟨[_], rfl, s, rfl, @of_decide_eq_true _ (instDecidableEqList (bytesOf s) x) hc⟩
   ·simp at h
 | .lst t, x, vs, ws, h => by
  have h : eatNil (List.isEmpty (α := t.den) x) vs = some ws := by rw [← h]; cases vs <;> rfl
  unfold eatNil at h
  split at h
  ·simp only [cond_eq_ite] at h
   split at h
   ·rename_i he
    obtain rfl := Option.some.inj h
    have he : (x : List t.den) = [] := List.isEmpty_iff.1 he
    exact ⟨[_], rfl, none, 0, 0, rfl, by rw [he]; rfl, Nat.le_refl _, .inl ⟨he, fun _ => rfl⟩⟩
   ·simp at h
  ·simp at h
 | .arr n t, x, vs, ws, h => by
  unfold eat at h
  simp only [cond_eq_ite] at h
  split at h
  ·rename_i hc
   obtain ⟨c, h1, h2⟩ := eatList_spec (C := C) (fun x vs ws h => eat_spec h) h
   exact ⟨c, h1, Nat.eq_of_beq_eq_true hc, h2⟩
  ·simp at h
 | .unit, x, vs, ws, h => by simp [eat] at h; subst h; exact ⟨[], rfl, rfl⟩
 | .pair a b, x, vs, ws, h => by
  have h : (match eat a x.1 vs with | some ws => eat b x.2 ws | none => none) = some ws := by rw [← h]; cases vs <;> rfl
  split at h
  ·rename_i us hu
   obtain ⟨c1, e1, h1⟩ := eat_spec (t := a) hu
   obtain ⟨c2, e2, h2⟩ := eat_spec (t := b) h
   exact ⟨c1 ++ c2, by rw [e1, e2, List.append_assoc], c1, c2, rfl, h1, h2⟩
  ·simp at h
theorem relB_spec {C : Cx} : ∀ {ps : List AV} {vs : List Value}, relB ps vs = true → PR C ps vs := by
 intro ps
 induction ps with
 | nil => intro vs h; cases vs with | nil => exact .nil | cons v vs => simp [relB] at h
 | cons p r ih =>
  intro vs h
  cases p
  case arr n t xs =>
   unfold relB at h
   split at h
   ·rename_i ws hw
    obtain ⟨c, rfl, h1⟩ := eat_spec (C := C) hw
    exact .arr h1 (ih h)
   ·simp at h
  case int k n =>
   cases vs with
   | nil => simp [relB] at h
   | cons v vs =>
    cases v <;> simp [relB] at h
    obtain ⟨⟨⟨rfl, rfl⟩, h3⟩, h4⟩ := h
    exact .sc (.int h3) rfl rfl (ih h4)
  case bool b =>
   cases vs with
   | nil => simp [relB] at h
   | cons v vs =>
    cases v <;> simp [relB] at h
    obtain ⟨rfl, h4⟩ := h
    exact .sc .bool rfl rfl (ih h4)
  case str l =>
   cases vs with
   | nil => simp [relB] at h
   | cons v vs =>
    cases v <;> simp [relB] at h
    exact .sc (.str h.1) rfl rfl (ih h.2)
  case nilSlc =>
   cases vs with
   | nil => simp [relB] at h
   | cons v vs =>
    simp only [relB, Bool.and_eq_true] at h
    obtain ⟨h1, h2⟩ := h
    unfold isNilS at h1
    split at h1
    ·exact .sc .nilSlc rfl rfl (ih h2)
    ·simp at h1
  case nilPtr =>
   cases vs with
   | nil => simp [relB] at h
   | cons v vs =>
    simp only [relB, Bool.and_eq_true] at h
    obtain ⟨h1, h2⟩ := h
    unfold isNilP at h1
    split at h1
    ·exact .sc .nilPtr rfl rfl (ih h2)
    ·simp at h1
  case nilFn =>
   cases vs with
   | nil => simp [relB] at h
   | cons v vs =>
    cases v <;> simp [relB] at h
    exact .sc .nilFn rfl rfl (ih h)
  case nilIface =>
   cases vs with
   | nil => simp [relB] at h
   | cons v vs =>
    cases v <;> simp [relB] at h
    exact .sc .nilIface rfl rfl (ih h)
  all_goals
   cases vs <;> simp [relB] at h
theorem zeroOf_spec {P : Program} {C : Cx} {t : TypeId} {ps : List AV} (h : zeroOf P t = some ps) : ∃ i v, P.info? t = some i ∧ i.zero = some v ∧ PR C ps v.cells.toList := by
 unfold zeroOf at h
 split at h
 ·rename_i i hi
  split at h
  ·rename_i v hv
   split at h
   ·rename_i qs hq
    simp only [cond_eq_ite] at h
    split at h
    ·rename_i hr
     obtain rfl := Option.some.inj h
     exact ⟨i, v, hi, hv, relB_spec hr⟩
    ·simp at h
   ·simp at h
  ·simp at h
 ·simp at h
theorem Inv.newCells {P : Program} {S0 : Base} {w0 : World} {C : Cx} {h : Hp} {nx : Nat} (I : Inv P S0 w0 C h) (hM : C.M nx = none) {ps : List AV} {cs : List Value} (hp : PR C ps cs) {len : Nat} (hl : RowLen len ps)
  {arr : Array Value} {t : TypeId} {fz : Nat × Nat} {w' : World} (hw : w'.heap = C.w.heap.push (.cells arr t fz)) (hos : w'.os = C.w.os) (htp : w'.tape = C.w.tape) (hout : w'.output = C.w.output)
  (hpre : ∃ post, arr.toList = cs ++ post) (hfz : ∀ j, j < arr.size → ¬ (fz.1 ≤ j ∧ j < fz.2)) :
  ∃ C', C'.w = w' ∧ C.Le C' ∧ Inv P S0 w0 C' ((nx, .cells 0 false ps) :: h) ∧ C'.M nx = some ⟨0, some C.w.heap.size, len, false⟩ ∧ (∀ y, C'.M y ≠ none → C.M y ≠ none ∨ y = nx) ∧
   (∀ j, j < arr.size → (w'.cell? ⟨C.w.heap.size, j, none⟩).isSome = true) := by
 have hcell : ∀ j, w'.cell? ⟨C.w.heap.size, j, none⟩ = arr[j]? := fun j => by simp [World.cell?, hw]
 have T := I.make (b := nx) (e' := ⟨0, some C.w.heap.size, len, false⟩) (ao := .cells 0 false ps) (w' := w') hM
  (I.below.trans ⟨hos, htp, hout, by rw [hw]; simp, fun k hk => by rw [hw, Array.getElem?_push, if_neg (by have := I.below.size; omega)]⟩)
  (by rw [hw]; simp) (fun k hk => by rw [hw, Array.getElem?_push, if_neg (by omega)])
  (fun c hc => by simp at hc; subst hc; rw [hw]; simp)
  (fun le => by
   refine ⟨rfl, rfl, hl, cs, hp.mono le, fun j v hv => ?_, fun j hj => ?_⟩
   ·obtain ⟨post, hpost⟩ := hpre
    simp only [Nat.zero_add]
    show w'.cell? _ = _
    rw [hcell, ← Array.getElem?_toList, hpost, List.getElem?_append_left (List.getElem?_eq_some_iff.1 hv).1]; exact hv
   ·have hj : (w'.cell? ⟨C.w.heap.size, j, none⟩).isSome = true := hj
    rw [hcell] at hj
    have hlt : j < arr.size := by
     rcases Nat.lt_or_ge j arr.size with h | h
     ·exact h
     ·rw [Array.getElem?_eq_none h] at hj; simp at hj
    show w'.frozen? _ = false
    simp only [World.frozen?, hw, Array.getElem?_push_size]
    have := hfz j hlt
    simp only [Bool.and_eq_false_iff, decide_eq_false_iff_not]
    omega)
 refine ⟨_, rfl, T.1, T.2, by simp, fun y hy => ?_, fun j hj => by rw [hcell]; simp [hj]⟩
 by_cases hyn : y = nx
 ·exact .inr hyn
 ·left; simpa [hyn] using hy
end Go.AM
end
section
namespace Go.AM
open Go.RowKit
section
variable {P : Program} {S0 : Base} {w0 : World} {cs : List Frame} {C : Cx} {h h' : Hp} {nx : Nat}
theorem newA_sound (I : Inv P S0 w0 C h) (hM : C.M nx = none) {ps : List AV} {v : Value} {t : TypeId} {r : AV × Upd} (e : (newA nx ps).Ev r) (hp : PR C ps v.cells.toList) (hn : ps.all noRow = true) :
  Does P S0 w0 cs C h nx ((do pure (.value (← (do pure (.pointer (some (← newVar t v))) : Sem Value))) : Sem Next).run P C.w) r := by
 obtain rfl := F.ev_ret e
 obtain ⟨C', h1, h2, h3, h4, h5, _⟩ := I.newCells (len := 0) hM hp (RowLen_noRow hn) (arr := v.cells) (t := t) (fz := (0, 0)) (w' := C.w.alloc (.cells v.cells t)) rfl rfl rfl rfl ⟨[], by simp⟩ (fun j _ => by simp)
 refine ⟨.pointer (some ⟨C.w.heap.size, 0, none⟩), C', .inl ?_, h3, h2, .ptr h4 (Nat.le_refl _) (fun _ => ⟨C.w.heap.size, rfl, rfl, trivial⟩) ⟨_, rfl⟩, h5⟩
 rw [h1]; rfl
theorem allocA_sound (I : Inv P S0 w0 C h) (hM : C.M nx = none) {ps : List AV} {t : TypeId} {r : AV × Upd} (hz : zeroOf P t = some ps) (e : (newA nx ps).Ev r) :
  Does P S0 w0 cs C h nx ((do pure (.value (← Instr.alloc t true (.tuple #[]))) : Sem Next).run P C.w) r := by
 obtain ⟨i, v, h1, h2, h3⟩ := zeroOf_spec (C := C) hz
 have hn : ps.all noRow = true := by
  -- the table's zero values hold no rows
  have : ∀ {ps : List AV} {vs : List Value}, relB ps vs = true → ps.all noRow = true := by
   intro ps
   induction ps with
   | nil => intro _ _; rfl
   | cons p r ih =>
    intro vs h
    cases p
    case arr n t xs =>
     unfold relB at h
     split at h
     ·have := ih h; simpa [noRow] using this
     ·simp at h
    all_goals
     cases vs with
     | nil => simp [relB] at h
     | cons v vs => first
      | (simp [relB] at h; done)
      | (simp only [relB, Bool.and_eq_true] at h; have := ih h.2; simpa [noRow] using this)
      | (cases v <;> simp [relB] at h <;> first | (have := ih h.2; simpa [noRow] using this) | (have := ih h; simpa [noRow] using this))
  unfold zeroOf at hz
  split at hz
  ·split at hz
   ·split at hz
    ·simp only [cond_eq_ite] at hz
     split at hz
     ·rename_i hr
      obtain rfl := Option.some.inj hz
      exact this hr
     ·simp at hz
    ·simp at hz
   ·simp at hz
  ·simp at hz
 have k := newA_sound (cs := cs) (t := t) I hM e h3 hn
 have : (Instr.alloc t true (.tuple #[])).run P C.w = (do pure (.pointer (some (← newVar t v))) : Sem Value).run P C.w := by
  simp [Instr.alloc, zeroValue, typeInfo, h1, h2]
 simp only [Sem.run_bind] at k ⊢
 rw [this]
 exact k
theorem poff_append : ∀ (p q : List PStep), poff (p ++ q) = poff p + poff q
 | [], q => by simp [poff]
 | .off d :: r, q => by simp only [List.cons_append, poff, poff_append r q]; omega
 | .ix i z m :: r, q => by simp only [List.cons_append, poff, poff_append r q]; omega
theorem PathOK_append {len : Nat} : ∀ {p q : List PStep}, PathOK len p → PathOK len q → PathOK len (p ++ q)
 | [], _, _, h => h
 | .off d :: r, q, hp, h => PathOK_append (p := r) hp h
 | .ix i z m :: r, q, ⟨h1, h2, hp⟩, h => ⟨h1, h2, PathOK_append (p := r) hp h⟩
theorem fieldOf_spec {t : TypeId} {f : Nat} {fd : Field} (hf : fieldOf P t f = some fd) : ∃ fs, P.underlying t = some (.struct fs) ∧ fs[f]? = some fd := by
 unfold fieldOf at hf
 split at hf
 ·rename_i fs hu; exact ⟨fs, hu, hf⟩
 ·simp at hf
theorem cellsOf_pos {t : TypeId} (h : P.cellsOf t ≠ 0) : ∃ i, P.info? t = some i := by
 cases hi : P.info? t with
 | none => simp [Program.cellsOf, hi] at h
 | some i => exact ⟨i, rfl⟩
theorem run_fieldAt' {w : World} {t : TypeId} {f : Nat} {fd : Field} (hf : fieldOf P t f = some fd) (hz : P.cellsOf fd.type ≠ 0) (a : Addr) :
  (Instr.fieldAt t (.pointer (some a)) f).run P w = .ok (.pointer (some (a.add fd.offset))) w := by
 obtain ⟨fs, hu, hfd⟩ := fieldOf_spec hf
 obtain ⟨i, hi⟩ := cellsOf_pos hz
 simp [Instr.fieldAt, run_underlying hu, hfd, Instr.sureAddr, fieldPlace, run_sizeOf w hi, hz]
theorem run_fieldAt {w : World} {t : TypeId} {f : Nat} {fd : Field} (hf : fieldOf P t f = some fd) (hz : P.cellsOf fd.type ≠ 0) (b o : Nat) :
  (Instr.fieldAt t (.pointer (some ⟨b, o, none⟩)) f).run P w = .ok (.pointer (some ⟨b, o + fd.offset, none⟩)) w := by
 rw [run_fieldAt' hf hz, Addr.add_mid]
theorem fieldAddrA_sound {t : TypeId} {x : AV} {f : Nat} {v : Value} {r : AV × Upd} (e : (fieldAddrA P t x f).Ev r) (hv : VR C x v) : Vals P C (Instr.fieldAt t v f) r := by
 unfold fieldAddrA at e
 split at e
 ·rename_i fd hf
  simp only [cond_eq_ite] at e
  split at e
  ·exact (F.ev_fail e).elim
  ·rename_i hz
   have hz : P.cellsOf fd.type ≠ 0 := fun q => by rw [q] at hz; simp at hz
   split at e
   ·obtain rfl := F.ev_one e
    cases hv with
    | ptr k1 k2 k3 k4 =>
     obtain ⟨a, rfl⟩ := k4
     refine ⟨_, run_fieldAt' hf hz _, .ptr k1 k2 (fun q => ?_) ⟨_, rfl⟩, rfl⟩
     obtain ⟨c, q1, q2, q3⟩ := k3 q
     cases q2
     exact ⟨c, q1, by rw [Addr.add_mid]; simp [poff], trivial⟩
   ·obtain rfl := F.ev_one e
    cases hv with
    | ptr k1 k2 k3 k4 =>
     obtain ⟨a, rfl⟩ := k4
     refine ⟨_, run_fieldAt' hf hz _, .ptr k1 k2 (fun q => ?_) ⟨_, rfl⟩, rfl⟩
     obtain ⟨c, q1, q2, q3⟩ := k3 q
     cases q2
     exact ⟨c, q1, by rw [Addr.add_mid, poff_append]; simp [poff, Nat.add_assoc], PathOK_append q3 trivial⟩
   ·obtain rfl := F.ev_one e
    cases hv with
    | rp k1 k2 => exact ⟨_, run_fieldAt hf hz _ _, by rw [Nat.add_assoc]; exact .rp k1 k2, rfl⟩
   ·exact (F.ev_fail e).elim
 ·exact (F.ev_fail e).elim
theorem fieldA_sound {t : TypeId} {x : AV} {f : Nat} {v : Value} {r : AV × Upd} (e : (fieldA P t x f).Ev r) (hv : VR C x v) : Vals P C (Instr.field t v f) r := by
 unfold fieldA at e
 split at e
 ·rename_i fd ps hf
  split at e
  ·rename_i l hl
   simp only [cond_eq_ite] at e
   split at e
   ·rename_i hz
    obtain rfl := F.ev_one e
    simp only [Bool.and_eq_true, Bool.not_eq_true'] at hz
    obtain ⟨d, hd, h1⟩ := okSize_eq hz.1
    obtain ⟨fs, hu, hfd⟩ := fieldOf_spec hf
    cases hv with
    | @agg _ cs hp =>
     have hsz : P.cellsOf fd.type ≠ 0 → PR C l ((cs.drop fd.offset).take (P.cellsOf fd.type)) ∧ fd.offset + P.cellsOf fd.type ≤ cs.length := fun hn => by
      have hne : AM.partsAt ps fd.offset ≠ [] := fun q => by
       rw [q] at hl
       cases hc : P.cellsOf fd.type with
       | zero => exact hn hc
       | succ n => rw [hc] at hl; simp [takeCells] at hl
      obtain ⟨k1, k2⟩ := hp.partsAt _ hne
      obtain ⟨k3, k4⟩ := k1.take hl
      exact ⟨k3, by simp at k4; omega⟩
     ·obtain ⟨k3, k4⟩ := hsz (fun q => by rw [q] at hz; simp at hz)
      refine ⟨_, ?_, mkVal_sound k3 hd, rfl⟩
      have := run_part (P := P) C.w hd cs.toArray fd.offset (by simpa using k4) h1
      simp only [Instr.field, Sem.run_bind, run_underlying hu, Result.andThen_ok, hfd, asAgg, Sem.run_pure, this]
   ·exact (F.ev_fail e).elim
  ·exact (F.ev_fail e).elim
 ·exact (F.ev_fail e).elim
theorem inB_iff {i n : Int} : inB i n = true ↔ 0 ≤ i ∧ i < n := by simp [inB]
theorem okSize_info {t : TypeId} (h : okSize P t = true) : ∃ i, P.info? t = some i := by
 obtain ⟨d, hd, _⟩ := okSize_eq h
 exact underlying_info hd
theorem Hp.row_spec {h : Hp} {b v : Nat} {x : Bool × Held} (e : h.row b v = some x) : h.cells b v = some (x.1, [.row x.2.t x.2.xs]) := by
 unfold Hp.row at e
 split at e
 ·rename_i w t xs hc; obtain rfl := Option.some.inj e; exact hc
 ·simp at e
theorem Inv.rowLen (I : Inv P S0 w0 C h) (hs : Sub' h' h) {b v : Nat} {x : Bool × Held} (e : h'.row b v = some x) :
  ∃ ro en, h.get b = some (.cells v ro [.row x.2.t x.2.xs]) ∧ x.1 = !ro ∧ C.M b = some en ∧ en.ver = v ∧ en.perm = false ∧ en.len = x.2.xs.length ∧ match en.cb with
   | none => x.2.xs = []
   | some c => ∃ pre, Cat (Rep C x.2.t) x.2.xs pre ∧ C.w.rangeAt c 0 pre ∧ ∀ j, (C.w.cell? ⟨c, j, none⟩).isSome = true → C.w.frozen? ⟨c, j, none⟩ = false := by
 obtain ⟨ro, en, g1, g2, g3, g4, g5, g6, g7⟩ := I.block hs (Hp.row_spec e)
 have hl := g6 _ _ (List.mem_singleton.2 rfl)
 refine ⟨ro, en, g1, g2, g3, g4, g5, hl, ?_⟩
 revert g7
 cases en.cb with
 | none => rintro ⟨t, q⟩; simp at q; obtain ⟨q1, q2⟩ := q; subst q1; exact eq_of_heq q2
 | some c =>
  rintro ⟨pre, p1, p2, p3⟩
  cases p1 with
  | sc _ q _ _ => simp [AV.scal] at q
  | row q1 q2 => cases q2; exact ⟨_, q1, by simpa using p2, p3⟩
theorem run_indexAt_array {w : World} {t e : TypeId} {m : Nat} (hu : P.underlying t = some (.array m e)) (he : okSize P e = true) (a : Addr) {k : IntKind} {i : Int} (h0 : 0 ≤ i) (h1 : i < m) :
  (Instr.indexAt t (.pointer (some a)) (.int k i)).run P w = .ok (.pointer (some (a.add (i.toNat * P.cellsOf e)))) w := by
 obtain ⟨ii, hi⟩ := okSize_info he
 simp [Instr.indexAt, asIntOf, run_underlying hu, Instr.sureAddr, h0, h1, run_sizeOf w hi]
theorem run_indexAt_slice {w : World} {t e : TypeId} (hu : P.underlying t = some (.slice e)) (he : okSize P e = true) (a : Addr) {n cap : Nat} {k : IntKind} {i : Int} (h0 : 0 ≤ i) (h1 : i < n) :
  (Instr.indexAt t (.slice (some a) n cap) (.int k i)).run P w = .ok (.pointer (some (a.add (i.toNat * P.cellsOf e)))) w := by
 obtain ⟨ii, hi⟩ := okSize_info he
 simp [Instr.indexAt, asIntOf, run_underlying hu, h0, h1, run_sizeOf w hi]
theorem lenA_sound (I : Inv P S0 w0 C h) (hs : Sub' h' h) {x : AV} {v : Value} {n : Int} (hv : VR C x v) (e : lenA h' x = some n) :
  (∃ s, v = .string s ∧ n = s.size) ∨ (∃ cs : Array Value, v = .agg cs) ∨ (∃ a m c, v = .slice a m c ∧ n = m) := by
 cases hv with
 | str q => simp [lenA] at e; subst q; left; exact ⟨_, rfl, by rw [← e, bytesOf_length]⟩
 | arr q => right; left; exact ⟨_, rfl⟩
 | nilSlc => simp [lenA] at e; right; right; exact ⟨_, _, _, rfl, by simp [← e]⟩
 | lst q => simp [lenA] at e; obtain ⟨a, m, c, q1, q2, _⟩ := q; right; right; simp at q1; exact ⟨a, m, c, q1, by rw [← e, q2]⟩
 | nlst q _ => simp [lenA] at e; obtain ⟨a, m, c, q1, q2, _⟩ := q; right; right; simp at q1; exact ⟨a, m, c, q1, by rw [← e, q2]⟩
 | slc k1 k2 k3 k4 =>
  simp only [lenA, cond_eq_ite] at e
  split at e
  ·rename_i hf
   unfold Hp.fresh at hf
   split at hf
   ·rename_i x hx
    obtain ⟨ro, en, g1, g2, g3, g4, g5, g6, g7⟩ := I.block hs hx
    rw [g3] at k1; obtain rfl := Option.some.inj k1
    obtain ⟨q1, q2, q3, q4⟩ := k3 g4.symm
    simp at e
    right; right
    split at q4
    ·obtain ⟨rfl, q5, rfl⟩ := q4; exact ⟨_, _, _, rfl, by simp at q3; omega⟩
    ·obtain ⟨a, cap, rfl, _⟩ := q4; exact ⟨_, _, _, rfl, by omega⟩
   ·simp at hf
  ·simp at e
 | own k1 k2 k3 k4 =>
  simp only [lenA] at e
  split at e
  ·rename_i w u hr
   obtain ⟨ro, en, g1, g2, g3, g4, g5, g6, g7⟩ := I.rowLen hs hr
   rw [g3] at k1; obtain rfl := Option.some.inj k1
   have k3 := k3 g4.symm
   unfold OwnOK at k3
   simp at e
   right; right
   split at k3
   ·obtain ⟨cap, rfl, _⟩ := k3; exact ⟨_, _, _, rfl, by rw [← e, g6]⟩
   ·obtain ⟨q1, rfl⟩ := k3; exact ⟨_, _, _, rfl, by rw [← e, ← g6, q1]⟩
  ·simp at e
 | _ => simp [lenA] at e
theorem Cells.sub {b p : Nat} {ds : List Value} (hc : Cells C b p ds) (a n : Nat) : Cells C b (p + a) ((ds.drop a).take n) := by
 intro j v hv
 rw [List.getElem?_take] at hv
 split at hv
 ·rw [List.getElem?_drop] at hv
  have := hc _ _ hv
  rw [Nat.add_assoc]; exact this
 ·simp at hv
theorem indexAddrA_sound (I : Inv P S0 w0 C h) (hs : Sub' h' h) {t : TypeId} {x : AV} {k : IntKind} {i : Int} {v : Value} {r : AV × Upd} (e : (indexAddrA P h' t x i).Ev r) (hv : VR C x v) :
  Vals P C (Instr.indexAt t v (.int k i)) r := by
 unfold indexAddrA at e
 split at e
 ·rename_i m el hu
  simp only [cond_eq_ite] at e
  split at e
  ·rename_i hz
   simp only [Bool.and_eq_true] at hz
   have he := hz.1
   split at e
   ·rename_i b ver o path
    obtain ⟨hi, e⟩ := F.ev_guard e
    obtain ⟨h0, h1⟩ := inB_iff.1 hi
    cases hv with
    | ptr k1 k2 k3 k4 =>
     obtain ⟨a, rfl⟩ := k4
     split at e
     ·obtain rfl := F.ev_one e
      refine ⟨_, run_indexAt_array hu he a h0 h1, .ptr k1 k2 (fun q => ?_) ⟨_, rfl⟩, rfl⟩
      obtain ⟨c, q1, q2, q3⟩ := k3 q
      cases q2
      exact ⟨c, q1, by rw [Addr.add_mid, poff_append]; simp [poff, Nat.add_assoc], PathOK_append q3 ⟨h0, by simpa using h1, trivial⟩⟩
     ·split at e
      ·obtain rfl := F.ev_one e
       refine ⟨_, run_indexAt_array hu he a h0 h1, .ptr k1 k2 (fun q => ?_) ⟨_, rfl⟩, rfl⟩
       obtain ⟨c, q1, q2, q3⟩ := k3 q
       cases q2
       exact ⟨c, q1, by rw [Addr.add_mid]; simp [poff], trivial⟩
      ·exact (F.ev_fail e).elim
   ·rename_i ty y o
    split at e
    ·rename_i s hsub
     split at e
     ·rename_i hc
      simp only [Bool.and_eq_true] at hc
      obtain ⟨c1, c2⟩ := hc
      obtain ⟨hi, e⟩ := F.ev_guard e
      obtain ⟨h0, h1⟩ := inB_iff.1 hi
      obtain rfl := F.ev_one e
      cases hv with
      | @rp _ _ _ b p ds k1 k2 =>
       obtain ⟨s1, s2, s3, s4⟩ := k1.sub hsub
       rw [s1] at c1
       have hm := sameM_some c1
       have hlen : s.xs.length = m := by simpa using hm.symm
       have hzz := Nat.eq_of_beq_eq_true c2
       obtain ⟨hlt, hrd⟩ := rd_eq s.t.zero (xs := s.xs) h0 (by omega)
       have hg := Cat.get (fun _ _ h => Rep.length h) s3 hlt
       have hml := mul_le_of_lt (z := s.t.size) hlt
       rw [take_drop_take _ _ _ _ _ hml] at hg
       refine ⟨_, run_indexAt_array hu he _ h0 h1, ?_, rfl⟩
       rw [Addr.add_mid, ← hzz, hrd]
       have := VR.rp (o := 0) hg (k2.sub (o + i.toNat * s.t.size) s.t.size)
       rw [Nat.add_zero, ← Nat.add_assoc] at this
       exact this
     ·exact (F.ev_fail e).elim
    ·exact (F.ev_fail e).elim
   ·exact (F.ev_fail e).elim
  ·exact (F.ev_fail e).elim
 ·rename_i el hu
  simp only [cond_eq_ite] at e
  split at e
  ·rename_i he
   split at e
   ·rename_i b ver ty
    split at e
    ·rename_i hz
     have hz := Nat.eq_of_beq_eq_true hz
     split at e
     ·rename_i n hn
      obtain ⟨hi, e⟩ := F.ev_guard e
      obtain ⟨h0, h1⟩ := inB_iff.1 hi
      obtain rfl := F.ev_one e
      cases hv with
      | own k1 k2 k3 k4 =>
       simp only [lenA] at hn
       split at hn
       ·rename_i w u hr
        obtain ⟨ro, en, g1, g2, g3, g4, g5, g6, g7⟩ := I.rowLen hs hr
        have g6 : en.len = u.xs.length := g6
        have k1' := k1
        rw [g3] at k1; obtain rfl := Option.some.inj k1
        have k3 := k3 g4.symm
        unfold OwnOK at k3
        simp at hn
        split at k3
        ·rename_i c hc
         obtain ⟨cap, rfl, k5, k6⟩ := k3
         refine ⟨_, run_indexAt_slice hu he _ h0 (by omega), .ptr k1' k2 (fun _ => ⟨c, hc, ?_, h0, by simp; omega, trivial⟩) ⟨_, rfl⟩, rfl⟩
         rw [Addr.add_mid, ← hz]; simp [poff]
        ·omega
       ·simp at hn
     ·exact (F.ev_fail e).elim
    ·exact (F.ev_fail e).elim
   ·rename_i b ver o m ty s n
    split at e
    ·rename_i hz
     simp only [Bool.and_eq_true] at hz
     have hz1 := Nat.eq_of_beq_eq_true hz.1
     obtain ⟨hi, e⟩ := F.ev_guard e
     obtain ⟨h0, h1⟩ := inB_iff.1 hi
     obtain rfl := F.ev_one e
     have hf := hz.2
     unfold Hp.fresh at hf
     split at hf
     ·rename_i x hx
      obtain ⟨ro, en, g1, g2, g3, g4, g5, g6, g7⟩ := I.block hs hx
      cases hv with
      | slc k1 k2 k3 k4 =>
       have k1' := k1
       rw [g3] at k1; obtain rfl := Option.some.inj k1
       obtain ⟨q1, q2, q3, q4⟩ := k3 g4.symm
       split at q4
       ·obtain ⟨rfl, q5, _⟩ := q4; simp at q3; omega
       ·rename_i c hc
        obtain ⟨a, cap, rfl, q5, q6, q7⟩ := q4
        have hcap : cap ≠ 0 := by omega
        obtain rfl := q5 hcap
        refine ⟨_, run_indexAt_slice hu he _ h0 (by omega), .ptr k1' k2 (fun _ => ⟨c, hc, ?_, by omega, by omega, trivial⟩) ⟨_, rfl⟩, rfl⟩
        rw [Addr.add_mid, ← hz1]
        have : (s + i).toNat = s.toNat + i.toNat := by omega
        simp only [poff, this, Nat.add_mul, Nat.add_zero, Nat.add_assoc]
     ·simp at hf
    ·exact (F.ev_fail e).elim
   ·rename_i ty xs
    split at e
    ·rename_i hz
     have hz := Nat.eq_of_beq_eq_true hz
     obtain ⟨hi, e⟩ := F.ev_guard e
     obtain ⟨h0, h1⟩ := inB_iff.1 hi
     obtain rfl := F.ev_one e
     cases hv with
     | lst q =>
      obtain ⟨a, n, c, q1, q2, q3, q4⟩ := q
      simp at q1; subst q1
      obtain ⟨hlt, hrd⟩ := rd_eq ty.zero (xs := xs) h0 h1
      rcases q4 with ⟨q4, _⟩ | ⟨b, p, ds, rfl, q5, q6⟩
      ·have : List.length (α := ty.den) xs = 0 := by rw [q4]; rfl
       omega
      ·have hg := Cat.get (fun _ _ h => Rep.length h) q5 hlt
       refine ⟨_, run_indexAt_slice hu he _ h0 (by omega), ?_, rfl⟩
       rw [Addr.add_mid, ← hz, hrd]
       have := VR.rp (o := 0) hg (q6.sub (i.toNat * ty.size) ty.size)
       rw [Nat.add_zero] at this
       exact this
    ·exact (F.ev_fail e).elim
   ·exact (F.ev_fail e).elim
  ·exact (F.ev_fail e).elim
 ·exact (F.ev_fail e).elim
end
end Go.AM
end
section
namespace Go.AM
open Go.RowKit
section
variable {P : Program} {S0 : Base} {w0 : World} {cs : List Frame} {C : Cx} {h h' : Hp} {nx : Nat}
theorem bytesOf_get (s : ByteArray) (i : Nat) : (bytesOf s)[i]? = (s[i]?).map fun b => (b.toNat : Int) := by
 simp only [bytesOf, List.getElem?_map, Array.getElem?_toList]
 rfl
theorem u8_in (b : UInt8) : inRangeB .u8 (b.toNat : Int) = true := by
 rw [inRange_iff]
 have h : b.toNat < 256 := b.toNat_lt
 have h1 : IntKind.u8.min = 0 := rfl
 have h2 : IntKind.u8.max = 255 := rfl
 omega
theorem indexA_sound {t : TypeId} {x : AV} {k : IntKind} {i : Int} {v : Value} {r : AV × Upd} (e : (indexA P t x i).Ev r) (hv : VR C x v) : Vals P C (Instr.index t v (.int k i)) r := by
 unfold indexA at e
 split at e
 ·rename_i m el n ty xs hu
  simp only [cond_eq_ite] at e
  split at e
  ·rename_i hz
   simp only [Bool.and_eq_true] at hz
   obtain ⟨⟨z1, z2⟩, z3⟩ := hz
   obtain rfl := Nat.eq_of_beq_eq_true z1
   have z2 := Nat.eq_of_beq_eq_true z2
   obtain ⟨hi, e⟩ := F.ev_guard e
   obtain ⟨h0, h1⟩ := inB_iff.1 hi
   obtain rfl := F.ev_one e
   obtain ⟨d, hd, hd1⟩ := okSize_eq z3
   obtain ⟨ii, hii⟩ := underlying_info hd
   cases hv with
   | @arr _ _ _ cs q =>
    obtain ⟨q1, q2⟩ := q
    have hl := Cat.length (fun _ _ h => Rep.length h) q2
    obtain ⟨hlt, hrd⟩ := rd_eq ty.zero (xs := xs) h0 (by omega)
    have hg := Cat.get (fun _ _ h => Rep.length h) q2 hlt
    have hml := mul_le_of_lt (z := ty.size) hlt
    refine ⟨_, ?_, mkVal_sound (PR.of_inj (by rw [hrd]; exact hg)) hd, rfl⟩
    have hp := run_part (P := P) C.w hd cs (i.toNat * P.cellsOf el) (by simp at hl; rw [← z2]; omega) hd1
    rw [← z2] at hp
    simp [Instr.index, asIntOf, run_underlying hu, h0, h1, run_sizeOf C.w hii, ← z2, hp]
  ·exact (F.ev_fail e).elim
 ·rename_i s hu
  obtain ⟨hi, e⟩ := F.ev_guard e
  obtain ⟨h0, h1⟩ := inB_iff.1 hi
  obtain rfl := F.ev_one e
  cases hv with
  | @str s' _ q =>
   subst q
   rw [bytesOf_length] at h1
   have hlt : i.toNat < s'.size := by omega
   refine ⟨.int .u8 (s'[i.toNat].toNat : Int), ?_, ?_, rfl⟩
   ·simp [Instr.index, asIntOf, run_underlying hu, h0, hlt]
   ·have : rd (0 : Int) (bytesOf s') i = (s'[i.toNat].toNat : Int) := by
     unfold rd
     rw [List.getD_eq_getElem?_getD, bytesOf_get]; simp [hlt]
    rw [this]
    exact .int (u8_in _)
 ·exact (F.ev_fail e).elim
def OptR (C : Cx) : Option AV → Option Value → Prop
 | none, none => True
 | some a, some v => VR C a v
 | _, _ => False
theorem cutB_iff {l u n : Int} : cutB l u n = true ↔ 0 ≤ l ∧ l ≤ u ∧ u ≤ n := by simp [cutB, and_assoc]
theorem run_sliceBound {w : World} {k : IntKind} {i : Int} {y : Nat} {c : BoundsCode} (h0 : 0 ≤ i) (h1 : i ≤ y) : (Instr.sliceBound (.int k i) y c).run P w = .ok i.toNat w := by
 simp [Instr.sliceBound, asIntOf, h0, h1]
theorem run_bounds {w : World} {isSlice : Bool} {len cap : Nat} {lo hi : Option AV} {lo' hi' : Option Value} {l u : Int} (hl : OptR C lo lo') (hh : OptR C hi hi') (e1 : asI lo 0 = some l) (e2 : asI hi len = some u)
  (h0 : 0 ≤ l) (h1 : l ≤ u) (h2 : u ≤ cap) : (Instr.sliceBounds isSlice len cap lo' hi' none).run P w = .ok (l.toNat, u.toNat, cap) w := by
 cases hi with
 | none =>
  cases hi' with
  | some v => exact hh.elim
  | none =>
   simp [asI] at e2; subst e2
   cases lo with
   | none =>
    cases lo' with
    | some v => exact hl.elim
    | none => simp [asI] at e1; subst e1; simp [Instr.sliceBounds]
   | some a =>
    cases lo' with
    | none => exact hl.elim
    | some v =>
     have hl : VR C a v := hl
     cases hl <;> simp [asI] at e1
     subst e1
     simp [Instr.sliceBounds, run_sliceBound h0 h1]
 | some b =>
  cases hi' with
  | none => exact hh.elim
  | some v =>
   have hh : VR C b v := hh
   cases hh <;> simp [asI] at e2
   subst e2
   cases lo with
   | none =>
    cases lo' with
    | some v => exact hl.elim
    | none => simp [asI] at e1; subst e1; simp [Instr.sliceBounds, run_sliceBound h1 h2]
   | some a =>
    cases lo' with
    | none => exact hl.elim
    | some v =>
     have hl : VR C a v := hl
     cases hl <;> simp [asI] at e1
     subst e1
     simp [Instr.sliceBounds, run_sliceBound (Int.le_trans h0 h1) h2]
     rw [run_sliceBound h0 (by omega)]; rfl
theorem bytesOf_extract (s : ByteArray) (a b : Nat) : bytesOf (s.extract a b) = ((bytesOf s).take b).drop a := by
 simp [bytesOf, ByteArray.data_extract, List.map_drop, List.map_take, List.drop_take]
theorem run_bounds3 {w : World} {len cap : Nat} {lo : Option AV} {lo' : Option Value} {l u n : Int} {hv mv : Value} (hl : OptR C lo lo') (e1 : asI lo 0 = some l) {k k' : IntKind}
  (hh : hv = .int k u) (hm : mv = .int k' n) (h0 : 0 ≤ l) (h1 : l ≤ u) (h2 : u ≤ n) (h3 : n ≤ cap) :
  (Instr.sliceBounds true len cap lo' (some hv) (some mv)).run P w = .ok (l.toNat, u.toNat, n.toNat) w := by
 subst hh; subst hm
 cases lo with
 | none =>
  cases lo' with
  | some v => exact hl.elim
  | none => simp [asI] at e1; subst e1; simp [Instr.sliceBounds, run_sliceBound (Int.le_trans h1 h2) h3, run_sliceBound (y := n.toNat) h1 (by omega)]
 | some a =>
  cases lo' with
  | none => exact hl.elim
  | some v =>
   have hl : VR C a v := hl
   cases hl <;> simp [asI] at e1
   subst e1
   simp [Instr.sliceBounds, run_sliceBound (show 0 ≤ n by omega) h3, run_sliceBound (y := n.toNat) (show 0 ≤ u by omega) (by omega), run_sliceBound (y := u.toNat) h0 (by omega)]
theorem cutOf_none {mx lo hi : Option AV} {n l u : Int} (h : cutOf mx lo hi n = some (none, l, u)) : mx = none ∧ asI lo 0 = some l ∧ asI hi n = some u := by
 unfold cutOf at h
 split at h
 ·simp at h; obtain ⟨rfl, rfl⟩ := h; exact ⟨rfl, ‹_›, ‹_›⟩
 ·split at h <;> simp at h
 ·simp at h
theorem cutOf_some {mx lo hi : Option AV} {n l u k : Int} (h : cutOf mx lo hi n = some (some k, l, u)) : (∃ kk, mx = some (.int kk k)) ∧ asI lo 0 = some l ∧ ∃ kk, hi = some (.int kk u) := by
 unfold cutOf at h
 split at h
 ·simp at h
 ·rename_i kk k' l' u' e1 e2
  split at h
  ·rename_i hv
   simp at h; obtain ⟨rfl, rfl, rfl⟩ := h
   refine ⟨⟨kk, rfl⟩, e1, ?_⟩
   cases hv <;> simp [asI] at e2
   subst e2; exact ⟨_, rfl⟩
  ·simp at h
 ·simp at h
theorem run_sliceAt_slice {w : World} {t e : TypeId} (hu : P.underlying t = some (.slice e)) (he : okSize P e = true) {a : Option Addr} {len cap : Nat} {lo hi mx : Option Value} {l u m : Nat}
  (hb : (Instr.sliceBounds true len cap lo hi mx).run P w = .ok (l, u, m) w) :
  (Instr.sliceAt t (.slice a len cap) lo hi mx).run P w = .ok (.slice (if m = l then a else a.map (·.add (l * P.cellsOf e))) (u - l) (m - l)) w := by
 obtain ⟨i, hi⟩ := okSize_info he
 simp only [Instr.sliceAt, Sem.run_bind, run_underlying hu, Result.andThen_ok, Instr.slice, hb, run_sizeOf w hi, Sem.run_pure]
theorem Cat.cut {z : Nat} {α : Type} {R : α → List Value → Prop} (hz : ∀ x cs, R x cs → cs.length = z) {xs : List α} {ds : List Value} (hc : Cat R xs ds) (l u : Nat) :
  Cat R ((xs.take u).drop l) (((ds.take (u * z)).drop (l * z))) := (Cat.split hz l (Cat.split hz u hc).1).2
theorem Hp.sub_spec {h : Hp} {b v o : Nat} {m : Option Nat} {x : Bool × List AV × Sub AV} (e : h.sub b v o m = some x) : h.cells b v = some (x.1, x.2.1) ∧ subOf x.2.1 o = some x.2.2 ∧ sameM x.2.2.n m = true := by
 unfold Hp.sub at e
 split at e
 ·rename_i w ps hc
  split at e
  ·rename_i s hs
   simp only [cond_eq_ite] at e
   split at e
   ·rename_i hm
    obtain rfl := Option.some.inj e
    exact ⟨hc, hs, hm⟩
   ·simp at e
  ·simp at e
 ·simp at e
theorem cut_len {α : Type} (xs : List α) {l u : Int} (h : u.toNat ≤ xs.length) : (cut xs l u).length = u.toNat - l.toNat := by
 unfold cut; rw [List.length_drop, List.length_take, Nat.min_eq_left h]
theorem sliceA_sound (I : Inv P S0 w0 C h) (hs : Sub' h' h) {t : TypeId} {x : AV} {v : Value} {lo hi mx : Option AV} {lo' hi' mx' : Option Value} {r : AV × Upd} (e : (sliceA P h' t x lo hi mx).Ev r) (hv : VR C x v)
  (hlo : OptR C lo lo') (hhi : OptR C hi hi') (hmx : OptR C mx mx') : Vals P C (Instr.sliceAt t v lo' hi' mx') r := by
 unfold sliceA at e
 split at e
 ·rename_i s hu
  split at e
  ·rename_i l u hc
   obtain ⟨rfl, c1, c2⟩ := cutOf_none hc
   obtain ⟨hb, e⟩ := F.ev_guard e
   obtain ⟨b0, b1, b2⟩ := cutB_iff.1 hb
   obtain rfl := F.ev_one e
   cases mx' with
   | some _ => exact hmx.elim
   | none =>
    cases hv with
    | @str s' _ q =>
     subst q
     rw [bytesOf_length] at c2 b2
     refine ⟨.string (s'.extract l.toNat u.toNat), ?_, .str ?_, rfl⟩
     ·simp [Instr.sliceAt, run_underlying hu, Instr.slice, run_bounds (P := P) (w := C.w) (isSlice := false) (cap := s'.size) hlo hhi c1 c2 b0 b1 b2]
     ·rw [bytesOf_extract]; rfl
  ·exact (F.ev_fail e).elim
 ·rename_i el ty xs hu
  simp only [cond_eq_ite] at e
  split at e
  ·rename_i hz
   simp only [Bool.and_eq_true] at hz
   obtain ⟨z1, z2⟩ := hz
   have z1 := Nat.eq_of_beq_eq_true z1
   split at e
   ·rename_i l u hc
    obtain ⟨rfl, c1, c2⟩ := cutOf_none hc
    obtain ⟨hb, e⟩ := F.ev_guard e
    obtain ⟨b0, b1, b2⟩ := cutB_iff.1 hb
    obtain rfl := F.ev_one e
    cases mx' with
    | some _ => exact hmx.elim
    | none =>
     cases hv with
     | lst q =>
      obtain ⟨a, n, c, q1, q2, q3, q4⟩ := q
      simp at q1; subst q1
      have hrun := run_sliceAt_slice (P := P) (w := C.w) hu z2 (a := a) (run_bounds (P := P) (w := C.w) (isSlice := true) (len := n) (cap := c) hlo hhi c1 (by rw [q2]; exact c2) b0 b1 (by omega))
      refine ⟨_, hrun, .lst ?_, rfl⟩
      refine ⟨_, _, _, rfl, ?_, by omega, ?_⟩
      ·simp [cut]; omega
      ·rcases q4 with ⟨q4, q4'⟩ | ⟨b, p, ds, rfl, q5, q6⟩
       ·left
        refine ⟨?_, fun hn => ?_⟩
        ·show cut (α := ty.den) xs l u = []; rw [q4]; simp [cut]
        ·cases a with
         | none => rw [q4' rfl]; omega
         | some a => split at hn <;> simp at hn
       ·by_cases hcl : c = l.toNat
        ·left
         refine ⟨?_, fun hn => by omega⟩
         apply List.eq_nil_of_length_eq_zero
         simp [cut]; omega
        ·right
         have hk := Cat.cut (fun _ _ h => Rep.length h) q5 l.toNat u.toNat
         refine ⟨b, p + l.toNat * ty.size, _, ?_, hk, ?_⟩
         ·rw [if_neg hcl]; simp [Addr.add_mid, z1]
         ·rw [List.drop_take]
          have := (q6.sub (l.toNat * ty.size) (u.toNat * ty.size - l.toNat * ty.size))
          exact this
   ·rename_i k l u hc
    obtain ⟨⟨kk, rfl⟩, c1, kk2, rfl⟩ := cutOf_some hc
    obtain ⟨hb, e⟩ := F.ev_guard e
    simp only [Bool.and_eq_true, decide_eq_true_eq] at hb
    obtain ⟨b0, b1, b2⟩ := cutB_iff.1 hb.1
    have b3 := hb.2
    obtain rfl := F.ev_one e
    cases mx' with
    | none => exact hmx.elim
    | some mv =>
     cases hi' with
     | none => exact hhi.elim
     | some hv2 =>
      have h1 : VR C (.int kk2 u) hv2 := hhi
      have h2 : VR C (.int kk k) mv := hmx
      cases h1; cases h2
      cases hv with
      | lst q =>
       obtain ⟨a, n, c, q1, q2, q3, q4⟩ := q
       simp at q1; subst q1
       have hlen : xs.length = n := q2.symm
       refine ⟨_, run_sliceAt_slice (P := P) (w := C.w) hu z2 (a := a) (run_bounds3 (P := P) (w := C.w) (len := n) (cap := c) hlo c1 rfl rfl b0 b1 b2 (by omega)), .lst ?_, rfl⟩
       refine ⟨_, _, _, rfl, ?_, by omega, ?_⟩
       ·simp [cut]; omega
       ·rcases q4 with ⟨q4, q4'⟩ | ⟨b, p, ds, rfl, q5, q6⟩
        ·left
         refine ⟨?_, fun hn => ?_⟩
         ·show cut (α := ty.den) xs l u = []; rw [q4]; simp [cut]
         ·cases a with
          | none =>
           have := q4' rfl
           omega
          | some a => split at hn <;> simp at hn
        ·by_cases hcl : k.toNat = l.toNat
         ·left
          refine ⟨?_, fun hn => by omega⟩
          apply List.eq_nil_of_length_eq_zero
          simp [cut]; omega
         ·right
          have hk := Cat.cut (fun _ _ h => Rep.length h) q5 l.toNat u.toNat
          refine ⟨b, p + l.toNat * ty.size, _, ?_, hk, ?_⟩
          ·rw [if_neg hcl]; simp [Addr.add_mid, z1]
          ·rw [List.drop_take]
           have := (q6.sub (l.toNat * ty.size) (u.toNat * ty.size - l.toNat * ty.size))
           exact this
   ·exact (F.ev_fail e).elim
  ·exact (F.ev_fail e).elim
 ·rename_i el b ver ty hu
  simp only [cond_eq_ite] at e
  split at e
  ·rename_i hz
   simp only [Bool.and_eq_true] at hz
   obtain ⟨z1, z2⟩ := hz
   have z1 := Nat.eq_of_beq_eq_true z1
   split at e
   ·rename_i n hn
    cases hv with
    | own k1 k2 k3 k4 =>
     simp only [lenA] at hn
     split at hn
     ·rename_i w y hr
      obtain ⟨ro, en, g1, g2, g3, g4, g5, g6, g7⟩ := I.rowLen hs hr
      have g6 : en.len = y.xs.length := g6
      have k1' := k1
      rw [g3] at k1; obtain rfl := Option.some.inj k1
      have k3 := k3 g4.symm
      unfold OwnOK at k3
      simp at hn
      split at e
      ·rename_i l u hc
       obtain ⟨rfl, c1, c2⟩ := cutOf_none hc
       obtain ⟨hb, e⟩ := F.ev_guard e
       obtain ⟨b0, b1, b2⟩ := cutB_iff.1 hb
       obtain rfl := F.ev_one e
       cases mx' with
       | some _ => exact hmx.elim
       | none =>
        split at k3
        ·rename_i c hcb
         obtain ⟨cap, rfl, k5, k6⟩ := k3
         have hrun := run_sliceAt_slice (P := P) (w := C.w) hu z2 (a := some ⟨c, 0, none⟩) (run_bounds (P := P) (w := C.w) (isSlice := true) (len := en.len) (cap := cap) hlo hhi c1 (by rw [g6, hn]; exact c2) b0 b1 (by omega))
         refine ⟨_, hrun, .slc k1' k2 (fun _ => ⟨b0, by omega, by simp; omega, ?_⟩) ⟨_, _, _, rfl⟩, rfl⟩
         rw [hcb]
         refine ⟨if cap = l.toNat then ⟨c, 0, none⟩ else ⟨c, l.toNat * P.cellsOf el, none⟩, cap - l.toNat, ?_, fun hne => ?_, by simp; omega, ?_⟩
         ·have e1 : u.toNat - l.toNat = (u - l).toNat := by omega
          rw [e1]; split <;> simp [Addr.add_mid]
         ·rw [if_neg (by omega), ← z1]; simp
         ·rw [Nat.zero_add, show l.toNat + (cap - l.toNat) = cap by omega]; exact k6
        ·rename_i hcb
         obtain ⟨k5, rfl⟩ := k3
         have hl0 : l = 0 := by omega
         have hu0 : u = 0 := by omega
         subst hl0; subst hu0
         have hrun := run_sliceAt_slice (P := P) (w := C.w) hu z2 (a := none) (run_bounds (P := P) (w := C.w) (isSlice := true) (len := 0) (cap := 0) hlo hhi c1 (by rw [← hn, ← g6, k5] at c2; exact c2) b0 b1 (by omega))
         refine ⟨_, hrun, .slc k1' k2 (fun _ => ⟨b0, by omega, by simp, ?_⟩) ⟨_, _, _, rfl⟩, rfl⟩
         rw [hcb]
         exact ⟨rfl, k5, rfl⟩
      ·rename_i k l u hc
       obtain ⟨⟨kk, rfl⟩, c1, kk2, rfl⟩ := cutOf_some hc
       obtain ⟨hb, e⟩ := F.ev_guard e
       simp only [Bool.and_eq_true, decide_eq_true_eq] at hb
       obtain ⟨hb, hb2⟩ := hb
       obtain ⟨b0, b1, b2⟩ := cutB_iff.1 hb
       obtain rfl := F.ev_one e
       cases mx' with
       | none => exact hmx.elim
       | some mv =>
        cases hi' with
        | none => exact hhi.elim
        | some hv =>
         have h1 : VR C (.int kk2 u) hv := hhi
         have h2 : VR C (.int kk k) mv := hmx
         cases h1; cases h2
         split at k3
         ·obtain ⟨cap, rfl, k5, k6⟩ := k3
          exact ⟨_, run_sliceAt_slice (P := P) (w := C.w) hu z2 (run_bounds3 (len := en.len) (cap := cap) hlo c1 rfl rfl b0 b1 b2 (by omega)), .junk _, rfl⟩
         ·obtain ⟨k5, rfl⟩ := k3
          exact ⟨_, run_sliceAt_slice (P := P) (w := C.w) hu z2 (run_bounds3 (len := 0) (cap := 0) hlo c1 rfl rfl b0 b1 b2 (by omega)), .junk _, rfl⟩
      ·exact (F.ev_fail e).elim
     ·simp at hn
   ·exact (F.ev_fail e).elim
  ·exact (F.ev_fail e).elim
 ·rename_i el b ver o m ty s n hu
  simp only [cond_eq_ite] at e
  split at e
  ·rename_i hz
   simp only [Bool.and_eq_true] at hz
   obtain ⟨z1, z2⟩ := hz
   have z1 := Nat.eq_of_beq_eq_true z1
   have room : ∀ q, roomA h' (.slc b ver o m ty s n) = some q → ∃ en, C.M b = some en ∧ en.ver = ver ∧ q = (m.getD en.len : Nat) - s := by
    intro q hq
    simp only [roomA] at hq
    split at hq
    ·rename_i w ps sb hsb
     simp at hq
     unfold Hp.sub at hsb
     split at hsb
     ·rename_i w' ps' hcell
      split at hsb
      ·rename_i s' hs'
       simp only [cond_eq_ite] at hsb
       split at hsb
       ·rename_i hsm
        simp at hsb
        obtain ⟨rfl, rfl, rfl⟩ := hsb
        obtain ⟨ro, en, g1, g2, g3, g4, g5, g6, g7⟩ := I.block hs hcell
        refine ⟨en, g3, g4, ?_⟩
        cases hcb : en.cb with
        | none =>
         rw [hcb] at g7
         obtain ⟨t, g7⟩ := g7
         have g7 : ps' = [.row t []] := g7
         subst g7
         have hnn : s'.n = none := by
          unfold AM.subOf AM.partsAt at hs'
          split at hs'
          ·rename_i p tl hp
           cases hb0 : Nat.beq o 0 with
           | true => simp [hb0] at hp; obtain ⟨rfl, _⟩ := hp; simp [subPart] at hs'; rw [← hs']
           | false =>
            simp only [hb0, cond_false] at hp
            cases hb1 : Nat.blt o (AV.row t []).size <;> simp [hb1, AM.partsAt] at hp
          ·simp at hs'
         have hl := g6.sub hs' hnn
         rw [hnn] at hsm
         cases m with
         | none => simp; omega
         | some k => simp [sameM] at hsm
        | some c =>
         rw [hcb] at g7
         obtain ⟨pre, p1, p2, p3⟩ := g7
         obtain ⟨s1, s2, s3, s4⟩ := p1.subOf hs'
         rcases s1 with s1 | s1
         ·rw [s1] at hsm
          obtain rfl := sameM_some hsm
          simp; omega
         ·have hl := g6.sub hs' s1
          rw [s1] at hsm
          cases m with
          | none => simp; omega
          | some k => simp [sameM] at hsm
       ·simp at hsb
      ·simp at hsb
     ·simp at hsb
    ·simp at hq
   split at e
   ·rename_i c l u hq hc
    obtain ⟨en, g3, g4, rfl⟩ := room _ hq
    obtain ⟨rfl, c1, c2⟩ := cutOf_none hc
    obtain ⟨hb, e⟩ := F.ev_guard e
    obtain ⟨b0, b1, b2⟩ := cutB_iff.1 hb
    obtain rfl := F.ev_one e
    cases mx' with
    | some _ => exact hmx.elim
    | none =>
     cases hv with
     | slc k1 k2 k3 k4 =>
      have k1' := k1
      rw [g3] at k1; obtain rfl := Option.some.inj k1
      obtain ⟨q1, q2, q3, q4⟩ := k3 g4.symm
      split at q4
      ·rename_i hcb
       obtain ⟨rfl, q5, rfl⟩ := q4
       simp at q3 b2
       have hl0 : l = 0 := by omega
       have hu0 : u = 0 := by omega
       have hn0 : n = 0 := by omega
       subst hl0; subst hu0; subst hn0
       have hrun := run_sliceAt_slice (P := P) (w := C.w) hu z2 (a := none) (run_bounds (P := P) (w := C.w) (isSlice := true) (len := 0) (cap := 0) hlo hhi c1 (by simpa using c2) b0 b1 (by omega))
       refine ⟨_, hrun, .slc k1' k2 (fun _ => ⟨by omega, by omega, by simp; omega, ?_⟩) ⟨_, _, _, rfl⟩, rfl⟩
       rw [hcb]
       exact ⟨rfl, q5, rfl⟩
      ·rename_i c hcb
       obtain ⟨a, cap, rfl, q5, q6, q7⟩ := q4
       have hrun := run_sliceAt_slice (P := P) (w := C.w) hu z2 (a := some a) (run_bounds (P := P) (w := C.w) (isSlice := true) (len := n.toNat) (cap := cap) hlo hhi c1 (by rw [show ((n.toNat : Nat) : Int) = n by omega]; exact c2) b0 b1 (by omega))
       refine ⟨_, hrun, .slc k1' k2 (fun _ => ⟨by omega, by omega, by omega, ?_⟩) ⟨_, _, _, rfl⟩, rfl⟩
       rw [hcb]
       refine ⟨if cap = l.toNat then a else a.add (l.toNat * P.cellsOf el), cap - l.toNat, ?_, fun hne => ?_, by omega, ?_⟩
       ·have e1 : u.toNat - l.toNat = (u - l).toNat := by omega
        rw [e1]; split <;> simp
       ·have := q5 (by omega)
        subst this
        rw [if_neg (by omega), Addr.add_mid, ← z1, show (s + l).toNat = s.toNat + l.toNat by omega, Nat.add_mul, Nat.add_assoc]
       ·rw [show (s + l).toNat + (cap - l.toNat) = s.toNat + cap by omega]; exact q7
   ·rename_i c k l u hq hc
    obtain ⟨en, g3, g4, rfl⟩ := room _ hq
    obtain ⟨⟨kk, rfl⟩, c1, kk2, rfl⟩ := cutOf_some hc
    obtain ⟨hb, e⟩ := F.ev_guard e
    simp only [Bool.and_eq_true, decide_eq_true_eq] at hb
    obtain ⟨hb, hb2⟩ := hb
    obtain ⟨b0, b1, b2⟩ := cutB_iff.1 hb
    obtain rfl := F.ev_one e
    cases mx' with
    | none => exact hmx.elim
    | some mv =>
     cases hi' with
     | none => exact hhi.elim
     | some hv' =>
      have h1 : VR C (.int kk2 u) hv' := hhi
      have h2 : VR C (.int kk k) mv := hmx
      cases h1; cases h2
      cases hv with
      | slc k1 k2 k3 k4 =>
       rw [g3] at k1; obtain rfl := Option.some.inj k1
       obtain ⟨q1, q2, q3, q4⟩ := k3 g4.symm
       split at q4
       ·obtain ⟨rfl, q5, rfl⟩ := q4
        simp at q3 hb2
        exact ⟨_, run_sliceAt_slice (P := P) (w := C.w) hu z2 (run_bounds3 (len := 0) (cap := 0) hlo c1 rfl rfl b0 b1 b2 (by omega)), .junk _, rfl⟩
       ·obtain ⟨a, cap, rfl, q5, q6, q7⟩ := q4
        exact ⟨_, run_sliceAt_slice (P := P) (w := C.w) hu z2 (run_bounds3 (len := n.toNat) (cap := cap) hlo c1 rfl rfl b0 b1 b2 (by omega)), .junk _, rfl⟩
   ·exact (F.ev_fail e).elim
  ·exact (F.ev_fail e).elim
 ·rename_i m el b ver o hu
  split at e
  ·rename_i ty l u hty hc
   obtain ⟨rfl, c1, c2⟩ := cutOf_none hc
   split at e
   ·rename_i w ps sb hsb
    simp only [cond_eq_ite] at e
    split at e
    ·rename_i hf
     simp only [Bool.and_eq_true] at hf
     obtain ⟨⟨f1, f2⟩, f3⟩ := hf
     have f1 := Nat.eq_of_beq_eq_true f1
     have f2 := Nat.eq_of_beq_eq_true f2
     obtain ⟨ii, hii⟩ := okSize_info f3
     obtain ⟨hb, e⟩ := F.ev_guard e
     obtain ⟨b0, b1, b2⟩ := cutB_iff.1 hb
     obtain rfl := F.ev_one e
     obtain ⟨hcell, hs', hsm⟩ := Hp.sub_spec hsb
     obtain ⟨ro, en, g1, g2, g3, g4, g5, g6, g7⟩ := I.block hs hcell
     cases mx' with
     | some _ => exact hmx.elim
     | none =>
      cases hv with
      | ptr k1 k2 k3 k4 =>
       have k1' := k1
       rw [g3] at k1; obtain rfl := Option.some.inj k1
       obtain ⟨c, q1, rfl, _⟩ := k3 g4.symm
       rw [q1] at g7
       obtain ⟨pre, p1, p2, p3⟩ := g7
       obtain ⟨s1, s2, s3, s4⟩ := p1.subOf hs'
       have hlen : sb.xs.length = m := by
        rcases s1 with s1 | s1
        ·rw [s1] at hsm; have := sameM_some hsm; simpa using this.symm
        ·rw [s1] at hsm; simp [sameM] at hsm
       have hb := run_bounds (P := P) (w := C.w) (isSlice := false) (len := m) (cap := m) hlo hhi c1 c2 b0 b1 b2
       refine ⟨.slice (some (if m = l.toNat then ⟨c, o, none⟩ else ⟨c, o + l.toNat * P.cellsOf el, none⟩)) (u.toNat - l.toNat) (m - l.toNat), ?_, .slc k1' k2 (fun _ => ⟨b0, by omega, by simp; omega, ?_⟩) ⟨_, _, _, rfl⟩, rfl⟩
       ·simp only [Instr.sliceAt, Sem.run_bind, run_underlying hu, Result.andThen_ok, Instr.sureAddr, Sem.run_pure, hb, run_sizeOf C.w hii, poff, Nat.add_zero, Addr.add_mid]
       ·rw [q1]
        refine ⟨_, _, by rw [show u.toNat - l.toNat = (u - l).toNat by omega], fun hne => ?_, by simp; omega, ?_⟩
        ·rw [if_neg (by omega), f2]
        ·intro j hj
         rw [show l.toNat + (m - l.toNat) = m by omega, ← f1, ← hlen] at hj
         have s2 : o + sb.xs.length * sb.t.size ≤ pre.length := s2
         have := p2 j pre[j] (by rw [List.getElem?_eq_getElem (by omega)])
         simp only [Nat.zero_add] at this
         rw [this]; rfl
    ·exact (F.ev_fail e).elim
   ·exact (F.ev_fail e).elim
  ·exact (F.ev_fail e).elim
 ·rename_i m el m' ty xs hu
  simp only [cond_eq_ite] at e
  split at e
  ·rename_i hf
   simp only [Bool.and_eq_true] at hf
   obtain ⟨⟨f1, f2⟩, f3⟩ := hf
   have f1 := Nat.eq_of_beq_eq_true f1
   subst f1
   have f2 := Nat.eq_of_beq_eq_true f2
   obtain ⟨ii, hii⟩ := okSize_info f3
   split at e
   ·rename_i l u hc
    obtain ⟨rfl, c1, c2⟩ := cutOf_none hc
    obtain ⟨hb, e⟩ := F.ev_guard e
    obtain ⟨b0, b1, b2⟩ := cutB_iff.1 hb
    obtain rfl := F.ev_one e
    cases mx' with
    | some _ => exact hmx.elim
    | none =>
     cases hv with
     | @rp _ _ _ bb p ds k1 k2 =>
      obtain ⟨hlen, hcat⟩ := k1
      have hlen : List.length (α := ty.den) xs = m' := hlen
      have hcl2 : List.length (α := ty.den) (cut (α := ty.den) xs l u) = u.toNat - l.toNat := cut_len (α := ty.den) xs (by show u.toNat ≤ List.length (α := ty.den) xs; rw [hlen]; omega)
      have hb := run_bounds (P := P) (w := C.w) (isSlice := false) (len := m') (cap := m') hlo hhi c1 c2 b0 b1 b2
      refine ⟨.slice (some (if m' = l.toNat then ⟨bb, p, none⟩ else ⟨bb, p + l.toNat * P.cellsOf el, none⟩)) (u.toNat - l.toNat) (m' - l.toNat), ?_, .lst ?_, rfl⟩
      ·simp only [Instr.sliceAt, Sem.run_bind, run_underlying hu, Result.andThen_ok, Instr.sureAddr, Sem.run_pure, hb, run_sizeOf C.w hii, Nat.add_zero, Addr.add_mid]
      ·refine ⟨_, _, _, rfl, ?_, by omega, ?_⟩
       ·exact hcl2.symm
       ·by_cases hcl : m' = l.toNat
        ·left
         refine ⟨?_, fun hn => by simp at hn⟩
         exact List.length_eq_zero_iff.1 (hcl2.trans (by omega))
        ·right
         have hk := Cat.cut (fun _ _ h => Rep.length h) hcat l.toNat u.toNat
         refine ⟨bb, p + l.toNat * ty.size, _, ?_, hk, ?_⟩
         ·rw [if_neg hcl, f2]
         ·rw [List.drop_take]
          exact k2.sub (l.toNat * ty.size) (u.toNat * ty.size - l.toNat * ty.size)
   ·exact (F.ev_fail e).elim
  ·exact (F.ev_fail e).elim
 ·rename_i el hu
  simp only [cond_eq_ite] at e
  split at e
  ·rename_i z2
   split at e
   ·rename_i l u hc
    obtain ⟨rfl, c1, c2⟩ := cutOf_none hc
    obtain ⟨hb, e⟩ := F.ev_guard e
    obtain ⟨b0, b1, b2⟩ := cutB_iff.1 hb
    obtain rfl := F.ev_one e
    cases mx' with
    | some _ => exact hmx.elim
    | none =>
     cases hv with
     | nilSlc =>
      have hrun := run_sliceAt_slice (P := P) (w := C.w) hu z2 (a := none) (run_bounds (P := P) (w := C.w) (isSlice := true) (len := 0) (cap := 0) hlo hhi c1 c2 b0 b1 b2)
      have hl : l.toNat = 0 := by omega
      have hu0 : u.toNat = 0 := by omega
      refine ⟨.slice none 0 0, ?_, .nilSlc, rfl⟩
      rw [hrun, hl, hu0]; rfl
   ·exact (F.ev_fail e).elim
  ·exact (F.ev_fail e).elim
 ·exact (F.ev_fail e).elim
end
end Go.AM
end
section
namespace Go.AM
open Go.RowKit
section
variable {P : Program} {S0 : Base} {w0 : World} {cs : List Frame} {C : Cx} {h h' : Hp} {nx : Nat}
def Src (P : Program) (w : World) (z n : Nat) (x : Value) (ds : List Value) : Prop :=
 ds.length = n * z ∧ ∀ w' : World, w'.heap = w.heap → (Builtin.lenOf x).run P w' = .ok n w' ∧ ∀ k, k ≤ n → (Builtin.firstCells z k x).run P w' = .ok (ds.take (k * z)).toArray w'
theorem Src.full {w : World} {z n : Nat} {x : Value} {ds : List Value} (h : Src P w z n x ds) (w' : World) (e : w'.heap = w.heap) :
  (Builtin.lenOf x).run P w' = .ok n w' ∧ (Builtin.firstCells z n x).run P w' = .ok ds.toArray w' := by
 obtain ⟨h1, h2⟩ := h
 refine ⟨(h2 w' e).1, ?_⟩
 have := (h2 w' e).2 n (Nat.le_refl _)
 rwa [List.take_of_length_le (by omega)] at this
theorem Src.slice {w : World} {z n c : Nat} {a : Option Addr} {ds : List Value} (hl : ds.length = n * z) (ha : n = 0 ∨ ∃ b o, a = some ⟨b, o, none⟩ ∧ ∀ j v, ds[j]? = some v → w.cell? ⟨b, o + j, none⟩ = some v) :
  Src P w z n (.slice a n c) ds := by
 refine ⟨hl, fun w' hw => ⟨rfl, fun k hk => ?_⟩⟩
 have hkz : k * z ≤ n * z := Nat.mul_le_mul_right _ hk
 cases a with
 | none =>
  rcases ha with rfl | ⟨_, _, h, _⟩
  ·have : ds = [] := by cases ds with | nil => rfl | cons => simp at hl
   subst this
   rw [List.take_nil]; rfl
  ·simp at h
 | some a =>
  show (loadCells a (k * z)).run P w' = _
  have hl2 : (ds.take (k * z)).length = k * z := by rw [List.length_take, hl]; omega
  have := run_loadCells_list (P := P) w' a (ds.take (k * z)) fun j v hv => ?_
  ·rwa [hl2] at this
  rw [List.getElem?_take] at hv
  split at hv
  ·rcases ha with rfl | ⟨b, o, h, hc⟩
   ·have : ds = [] := by cases ds with | nil => rfl | cons => simp at hl
    subst this; simp at hv
   ·cases h; rw [Addr.add_mid, World.cell?_of_block (w := w) (w' := w') (by rw [hw])]; exact hc j v hv
  ·simp at hv
theorem Inv.subLen (I : Inv P S0 w0 C h) (hs : Sub' h' h) {b v o : Nat} {m : Option Nat} {x : Bool × List AV × Sub AV} (e : h'.sub b v o m = some x) :
  ∃ ro en, h.get b = some (.cells v ro x.2.1) ∧ x.1 = !ro ∧ C.M b = some en ∧ en.ver = v ∧ en.perm = false ∧ RowLen en.len x.2.1 ∧ subOf x.2.1 o = some x.2.2 ∧ x.2.2.xs.length = m.getD en.len ∧ match en.cb with
   | none => x.2.2.xs = [] ∧ m = none
   | some c => ∃ pre, PR C x.2.1 pre ∧ C.w.rangeAt c 0 pre ∧ (∀ j, (C.w.cell? ⟨c, j, none⟩).isSome = true → C.w.frozen? ⟨c, j, none⟩ = false) ∧
     o + x.2.2.xs.length * x.2.2.t.size ≤ pre.length ∧ Cat (Rep C x.2.2.t) x.2.2.xs ((pre.drop o).take (x.2.2.xs.length * x.2.2.t.size)) := by
 obtain ⟨w, ps, u⟩ := x
 obtain ⟨hcell, hs', hsm⟩ := Hp.sub_spec e
 obtain ⟨ro, en, g1, g2, g3, g4, g5, g6, g7⟩ := I.block hs hcell
 have g6 : RowLen en.len ps := g6
 have hs' : subOf ps o = some u := hs'
 have hsm : sameM u.n m = true := hsm
 cases hcb : en.cb with
 | none =>
  rw [hcb] at g7
  obtain ⟨t, g7⟩ := g7
  have g7 : ps = [.row t []] := g7
  subst g7
  have hnn : u.n = none ∧ u.xs = [] := by
   unfold AM.subOf AM.partsAt at hs'
   split at hs'
   ·rename_i p tl hp
    cases hb0 : Nat.beq o 0 with
    | true => simp [hb0] at hp; obtain ⟨rfl, _⟩ := hp; simp [subPart] at hs'; subst hs'; exact ⟨rfl, rfl⟩
    | false =>
     simp only [hb0, cond_false] at hp
     cases hb1 : Nat.blt o (AV.row t []).size <;> simp [hb1, AM.partsAt] at hp
   ·simp at hs'
  have hl := g6.sub hs' hnn.1
  rw [hnn.1] at hsm
  cases m with
  | some k => simp [sameM] at hsm
  | none => exact ⟨ro, en, g1, g2, g3, g4, g5, g6, hs', by simp [hl], by rw [hcb]; exact ⟨hnn.2, rfl⟩⟩
 | some c =>
  rw [hcb] at g7
  obtain ⟨pre, p1, p2, p3⟩ := g7
  obtain ⟨s1, s2, s3, s4⟩ := p1.subOf hs'
  refine ⟨ro, en, g1, g2, g3, g4, g5, g6, hs', ?_, by rw [hcb]; exact ⟨pre, p1, p2, p3, s2, s3⟩⟩
  show u.xs.length = _
  rcases s1 with s1 | s1
  ·rw [s1] at hsm
   obtain rfl := sameM_some hsm
   rfl
  ·have hl := g6.sub hs' s1
   rw [s1] at hsm
   cases m with
   | none => simp [hl]
   | some k => simp [sameM] at hsm
theorem heldOf_sound (I : Inv P S0 w0 C h) (hs : Sub' h' h) {x : AV} {u : Held} {v : Value} (e : heldOf h' x = some u) (hv : VR C x v) :
  ∃ ds, Cat (Rep C u.t) u.xs ds ∧ Src P C.w u.t.size u.xs.length v ds := by
 cases hv with
 | lst q =>
  simp only [heldOf, Option.some.injEq] at e
  subst e
  obtain ⟨a, n, c, q1, q2, q3, q4⟩ := q
  simp at q1; subst q1
  rcases q4 with ⟨q4, _⟩ | ⟨b, p, ds, rfl, q5, q6⟩
  ·have hn : n = 0 := by rw [q2, q4]; rfl
   subst hn
   refine ⟨[], by rw [q4]; rfl, ?_⟩
   show Src P C.w _ (List.length _) _ _
   rw [← q2]
   exact Src.slice (by simp) (.inl rfl)
  ·refine ⟨ds, q5, ?_⟩
   show Src P C.w _ (List.length _) _ _
   rw [← q2]
   exact Src.slice (by rw [Cat.length (fun _ _ h => Rep.length h) q5, q2]) (.inr ⟨b, p, rfl, fun j v hj => (q6 j v hj).1⟩)
 | nlst q _ =>
  simp only [heldOf, Option.some.injEq] at e
  subst e
  obtain ⟨a, n, c, q1, q2, q3, q4⟩ := q
  simp at q1; subst q1
  rcases q4 with ⟨q4, _⟩ | ⟨b, p, ds, rfl, q5, q6⟩
  ·have hn : n = 0 := by rw [q2, q4]; rfl
   subst hn
   refine ⟨[], by rw [q4]; rfl, ?_⟩
   show Src P C.w _ (List.length _) _ _
   rw [← q2]
   exact Src.slice (by simp) (.inl rfl)
  ·refine ⟨ds, q5, ?_⟩
   show Src P C.w _ (List.length _) _ _
   rw [← q2]
   exact Src.slice (by rw [Cat.length (fun _ _ h => Rep.length h) q5, q2]) (.inr ⟨b, p, rfl, fun j v hj => (q6 j v hj).1⟩)
 | own k1 k2 k3 k4 =>
  simp only [heldOf] at e
  split at e
  ·rename_i w y hr
   obtain rfl := Option.some.inj e
   obtain ⟨ro, en, g1, g2, g3, g4, g5, g6, g7⟩ := I.rowLen hs hr
   have g6 : en.len = y.xs.length := g6
   rw [g3] at k1; obtain rfl := Option.some.inj k1
   have k3 := k3 g4.symm
   unfold OwnOK at k3
   split at k3
   ·rename_i c hc
    obtain ⟨cap, rfl, k5, k6⟩ := k3
    rw [hc] at g7
    obtain ⟨pre, p1, p2, _⟩ := g7
    refine ⟨pre, p1, ?_⟩
    rw [← g6]
    exact Src.slice (by rw [Cat.length (fun _ _ h => Rep.length h) p1, g6]) (.inr ⟨c, 0, rfl, fun j v hj => p2 j v hj⟩)
   ·rename_i hc
    obtain ⟨k5, rfl⟩ := k3
    rw [hc] at g7
    have g7 : y.xs = [] := g7
    refine ⟨[], by rw [g7]; rfl, ?_⟩
    rw [g7]
    exact Src.slice (by simp) (.inl rfl)
  ·simp at e
 | @slc b ver o m ty i n en0 val k1 k2 k3 k4 =>
  simp only [heldOf] at e
  split at e
  ·rename_i w ps sb hsb
   simp only [cond_eq_ite] at e
   split at e
   ·rename_i hz
    have hz := Nat.eq_of_beq_eq_true hz
    obtain rfl := Option.some.inj e
    obtain ⟨ro, en, g1, g2, g3, g4, g5, g6, g7, g8, g9⟩ := I.subLen hs hsb
    have g8 : sb.xs.length = _ := g8
    rw [g3] at k1; obtain rfl := Option.some.inj k1
    obtain ⟨q1, q2, q3, q4⟩ := k3 g4.symm
    split at q4
    ·rename_i hcb
     rw [hcb] at g9
     obtain ⟨g9, rfl⟩ := g9
     have g9 : sb.xs = [] := g9
     obtain ⟨_, _, rfl⟩ := q4
     refine ⟨[], by rw [g9]; simp [Cat], ?_⟩
     rw [g9]
     simp only [List.drop_nil, List.take_nil, List.length_nil]
     exact Src.slice (by simp) (.inl rfl)
    ·rename_i c hcb
     rw [hcb] at g9
     obtain ⟨pre, p1, p2, p3, p4, p5⟩ := g9
     have p4 : o + sb.xs.length * sb.t.size ≤ pre.length := p4
     have p5 : Cat (Rep C sb.t) sb.xs ((pre.drop o).take (sb.xs.length * sb.t.size)) := p5
     obtain ⟨a, cap, rfl, q5, q6, q7⟩ := q4
     have hlen : ((sb.xs.drop i.toNat).take n.toNat).length = n.toNat := by simp; omega
     have hcut := Cat.cut (fun _ _ h => Rep.length h) p5 i.toNat (i.toNat + n.toNat)
     rw [← List.take_drop] at hcut
     refine ⟨_, hcut, ?_⟩
     show Src P C.w sb.t.size _ _ _
     rw [hlen]
     have hl := Cat.length (fun _ _ h => Rep.length h) hcut
     rw [hlen] at hl
     refine Src.slice hl ?_
     by_cases hn : n.toNat = 0
     ·exact .inl hn
     ·right
      obtain rfl := q5 (by omega)
      refine ⟨c, _, rfl, fun j v hj => ?_⟩
      rw [List.getElem?_drop, List.getElem?_take] at hj
      split at hj
      ·rw [List.getElem?_take] at hj
       split at hj
       ·rw [List.getElem?_drop] at hj
        have := p2 _ _ hj
        rw [hz] at this
        simp only [Nat.zero_add] at this
        rw [Nat.add_assoc]; exact this
       ·simp at hj
      ·simp at hj
   ·simp at e
  ·simp at e
 | _ => simp [heldOf] at e
theorem packAll_lst {ty t : Ty} {xs : List t.den} {ys : List ty.den} (e : packAll (.lst ty) [.lst t xs] = some ys) : ∃ h : t = ty, ys = h ▸ xs := by
 by_cases h : t = ty
 ·subst h
  refine ⟨rfl, ?_⟩
  simp [packAll, pack] at e
  exact (Option.some.inj e).symm
 ·simp [packAll, pack, h] at e
def SrcP (P : Program) (C : Cx) (v : Value) (ty : Ty) (ys : List ty.den) : Prop := ∃ ds, Cat (Rep C ty) ys ds ∧ Src P C.w ty.size ys.length v ds
theorem SrcP.pack {v : Value} {ty t : Ty} {xs : List t.den} {ys : List ty.den} (e : packAll (.lst ty) [.lst t xs] = some ys) (hp : SrcP P C v t xs) : SrcP P C v ty ys := by
 obtain ⟨ht, e⟩ := packAll_lst e
 subst ht; subst e; exact hp
theorem srcHeld (I : Inv P S0 w0 C h) (hs : Sub' h' h) {ty : Ty} {x : AV} {ys : List ty.den} {v : Value}
  (e : (match heldOf h' x with | some u => packAll (.lst ty) [.lst u.t u.xs] | none => none) = some ys) (hv : VR C x v) : SrcP P C v ty ys := by
 cases hu : heldOf h' x with
 | none => rw [hu] at e; simp at e
 | some u => rw [hu] at e; exact SrcP.pack e (heldOf_sound I hs hu hv)
theorem srcOf_sound (I : Inv P S0 w0 C h) (hs : Sub' h' h) {ty : Ty} {x : AV} {ys : List ty.den} {v : Value} (e : srcOf h' ty x = some ys) (hv : VR C x v) : SrcP P C v ty ys := by
 cases hv with
 | nilSlc =>
  have e : some ([] : List ty.den) = some ys := e
  obtain rfl := Option.some.inj e
  exact ⟨[], rfl, Src.slice (by simp) (.inl rfl)⟩
 | @str s _ q =>
  subst q
  have e : packAll (.lst ty) [.lst (.int .u8) (bytesOf s)] = some ys := e
  refine SrcP.pack e ?_
  refine ⟨s.data.toList.map fun b => .int .u8 b.toNat, ?_, ?_, fun w' _ => ⟨?_, fun k hk => ?_⟩⟩
  ·have : ∀ l : List UInt8, Cat (Rep C (.int .u8)) (l.map fun b => (b.toNat : Int)) (l.map fun b => .int .u8 b.toNat) := by
    intro l
    induction l with
    | nil => rfl
    | cons b r ih => exact ⟨[_], _, rfl, ⟨rfl, u8_in b⟩, ih⟩
   exact this _
  ·show _ = List.length (bytesOf s) * 1
   rw [bytesOf_length]; simp
  ·show _ = Result.ok (List.length (bytesOf s)) w'
   rw [bytesOf_length]; rfl
  ·show (Builtin.firstCells 1 k (.string s)).run P w' = _
   simp only [Builtin.firstCells, Sem.run_pure]
   congr 1
   apply Array.ext'
   show ((s.extract 0 k).data.map _).toList = ((_ : List Value).take (k * 1))
   rw [Nat.mul_one, ← List.map_take, Array.toList_map]
   congr 1
   simp
 | @lst t xs v q => exact srcHeld (x := .lst t xs) I hs e (.lst q)
 | @nlst t xs v q k => exact srcHeld (x := .nlst t xs) I hs e (.nlst q k)
 | @own b ver t en val k1 k2 k3 k4 => exact srcHeld (x := .own b ver t) I hs e (.own k1 k2 k3 k4)
 | @slc b ver o m t i n en val k1 k2 k3 k4 => exact srcHeld (x := .slc b ver o m t i n) I hs e (.slc k1 k2 k3 k4)
 | _ => exact nomatch e
theorem growBy_le (n : Nat) : ∀ (r c : Nat), c ≤ n + (n + 768) / 4 → Builtin.growBy n r c ≤ n + (n + 768) / 4
 | 0, c, h => h
 | r + 1, c, h => by
  unfold Builtin.growBy
  split
  ·exact h
  ·exact growBy_le n r _ (by omega)
theorem nextcap_le {n c : Nat} (h : c < n) : Builtin.nextslicecap n c ≤ 3 * n := by
 unfold Builtin.nextslicecap
 split
 ·omega
 ·split
  ·omega
  ·have := growBy_le n 4 c (by omega); omega
theorem growT_spec {e : TypeId} (hg : growT P e = true) : ∃ i v, P.info? e = some i ∧ i.zero = some v ∧ v.cells.size = i.size ∧ i.bytes ≠ 0 := by
 unfold growT at hg
 split at hg
 ·rename_i i hi
  simp only [Bool.and_eq_true, Bool.not_eq_true'] at hg
  obtain ⟨h1, h2⟩ := hg
  split at h2
  ·rename_i v hv
   exact ⟨i, v, hi, hv, Nat.eq_of_beq_eq_true h2, fun q => by rw [q] at h1; simp at h1⟩
  ·simp at h2
 ·simp at hg
theorem roomOf_spec {e : TypeId} {i : TypeInfo} {n : Nat} (hi : P.info? e = some i) (hb : i.bytes ≠ 0) (h : n < roomOf P e) : n * i.bytes < 70368744177664 := by
 unfold roomOf at h
 rw [hi] at h
 have : Nat.beq i.bytes 0 = false := by
  cases hq : Nat.beq i.bytes 0 with
  | true => exact absurd (Nat.eq_of_beq_eq_true hq) hb
  | false => rfl
 simp only [this, cond_false] at h
 have h1 := Nat.div_mul_le_self 70368744177664 i.bytes
 have h2 : (n + 1) * i.bytes ≤ 70368744177664 / i.bytes * i.bytes := Nat.mul_le_mul_right _ h
 rw [Nat.add_mul] at h2
 omega
theorem isIntT_spec {t : TypeId} (h : isIntT P t = false) : ∃ d, P.underlying t = some d ∧ ∀ k, d ≠ .int k := by
 unfold isIntT at h
 split at h
 ·simp at h
 ·rename_i d hd hu
  exact ⟨d, hu, fun k q => hd k q⟩
 ·simp at h
theorem run_append {w : World} {t t2 e : TypeId} (hu : P.underlying t = some (.slice e)) (h2 : isIntT P t2 = false) {i : TypeInfo} (hi : P.info? e = some i) {zv : Value} (hz : i.zero = some zv) {base : Option Addr} {sLen sCap n : Nat} {x : Value} {od dn : List Value}
  (hx : Src P w i.size n x dn) (hbase : Src P w i.size sLen (.slice base sLen sCap) od) (hb : i.bytes ≠ 0) (hr : (sLen + n) * i.bytes < 70368744177664) {ts : Array TypeId} (e0 : ts[0]? = some t) (e1 : ts[1]? = some t2) {ty : TypeId} :
  (sLen + n ≤ sCap ∧ (Builtin.append_ ts ty #[.slice base sLen sCap, x]).run P w = (do
    if let some a := base then storeCells (a.add (sLen * i.size)) dn
    pure (.slice base (sLen + n) sCap) : Sem Value).run P w) ∨
  (¬ sLen + n ≤ sCap ∧ ∃ newCap, sLen + n ≤ newCap ∧ (Builtin.append_ ts ty #[.slice base sLen sCap, x]).run P w =
   .ok (.slice (some ⟨w.heap.size, 0, none⟩) (sLen + n) newCap) (w.drew.alloc (.cells (od.toArray ++ dn.toArray ++ Builtin.zeroCells zv.cells (newCap - (sLen + n))) e))) := by
 obtain ⟨d, hd, hk⟩ := isIntT_spec h2
 have hsz : (sizeOf e).run P w = .ok i.size w := by rw [run_sizeOf w hi, cellsOf_info hi]
 have hti : ∀ w, (typeInfo e).run P w = .ok i w := fun w => by simp [typeInfo, hi]
 have hnz : (do pure ((← underlying t2) matches .int _) : Sem Bool).run P w = .ok false w := by
  rw [Sem.run_bind, run_underlying hd w]
  cases d <;> first | rfl | exact absurd rfl (hk _)
 have hroom : ¬ (Builtin.nextslicecap (sLen + n) sCap * i.bytes > 2 ^ 48 ∧ sCap < sLen + n) := by
  rintro ⟨q1, q2⟩
  have := nextcap_le q2
  have h3 : Builtin.nextslicecap (sLen + n) sCap * i.bytes ≤ 3 * (sLen + n) * i.bytes := Nat.mul_le_mul_right _ this
  rw [Nat.mul_assoc] at h3
  omega
 have hx1 := (hx.full w rfl).1
 have hx2 := (hx.full w rfl).2
 by_cases hc : sLen + n ≤ sCap
 ·left
  refine ⟨hc, ?_⟩
  unfold Builtin.append_
  simp only [e0, e1, show (#[Value.slice base sLen sCap, x] : Array Value)[0]? = some (.slice base sLen sCap) from rfl, show (#[Value.slice base sLen sCap, x] : Array Value)[1]? = some x from rfl]
  simp only [Sem.run_bind, run_underlying hu, Result.andThen_ok, hsz, run_underlying hd]
  simp only [Sem.run_pure, Result.andThen_ok, Bool.false_eq_true, if_false, Bool.not_false, if_true, false_or]
  rw [Sem.run_bind, hx1, Result.andThen_ok]
  simp only [if_pos hc, Sem.run_bind, hx2, Result.andThen_ok]
  cases base <;> rfl
 ·right
  refine ⟨hc, (Question.appendCap (sLen + n) sCap e).cut (w.tape w.drawn (Question.appendCap (sLen + n) sCap e)), Nat.le_add_right _ _, ?_⟩
  unfold Builtin.append_
  simp only [e0, e1, show (#[Value.slice base sLen sCap, x] : Array Value)[0]? = some (.slice base sLen sCap) from rfl, show (#[Value.slice base sLen sCap, x] : Array Value)[1]? = some x from rfl]
  simp only [Sem.run_bind, run_underlying hu, Result.andThen_ok, hsz, run_underlying hd]
  simp only [Sem.run_pure, Result.andThen_ok, Bool.false_eq_true, if_false, Bool.not_false, if_true, false_or]
  rw [Sem.run_bind, hx1, Result.andThen_ok]
  simp only [if_neg hc, Sem.run_bind, hti, Result.andThen_ok, hb, and_false, if_false, Sem.run_pure]
  rw [if_neg (fun q => hroom ⟨q, by omega⟩)]
  have hf : (Question.appendCap (sLen + n) sCap e).forced = false := rfl
  simp only [run_choose, hf, Bool.false_eq_true, if_false, Sem.run_pure, Result.andThen_ok, Sem.run_bind, hti, run_askRoom]
  have q1 := (hbase.full w.drew rfl).2
  have q2 := (hx.full w.drew rfl).2
  simp only [World.drew] at q1 q2
  simp only [q1, q2, Result.andThen_ok, zeroValue, Sem.run_bind, hti, hz, Sem.run_pure, newRow, run_newObj]
  rfl
end
end Go.AM
end
section
namespace Go.AM
open Go.RowKit
section
variable {P : Program} {S0 : Base} {w0 : World} {cs : List Frame} {C : Cx} {h h' : Hp} {nx : Nat}
theorem Inv.newNone (I : Inv P S0 w0 C h) (hM : C.M nx = none) {t : Ty} {w' : World} (hw : w'.heap = C.w.heap) (bel : Keep S0.io w0 w') :
  ∃ C', C'.w = w' ∧ C.Le C' ∧ Inv P S0 w0 C' ((nx, .cells 0 false [.row t []]) :: h) ∧ C'.M nx = some ⟨0, none, 0, false⟩ ∧ (∀ y, C'.M y ≠ none → C.M y ≠ none ∨ y = nx) := by
 have T := I.make (b := nx) (e' := ⟨0, none, 0, false⟩) (ao := .cells 0 false [.row t []]) (w' := w') hM bel (by rw [hw]; exact Nat.le_refl _) (fun k _ => by rw [hw]) (fun c hc => by simp at hc)
  (fun le => ⟨rfl, rfl, fun t' xs hm => by simp at hm; obtain ⟨rfl, hm⟩ := hm; cases hm; rfl, t, rfl⟩)
 refine ⟨_, rfl, T.1, T.2, by simp, fun y hy => ?_⟩
 by_cases hyn : y = nx
 ·exact .inr hyn
 ·left; simpa [hyn] using hy
theorem rowRowLen {t : Ty} {xs : List t.den} : RowLen xs.length [.row t xs] := fun t' xs' hm => by
 simp at hm; obtain ⟨rfl, hm⟩ := hm; cases hm; rfl
theorem PR.rowOne {t : Ty} {xs : List t.den} {ds : List Value} (hc : Cat (Rep C t) xs ds) : PR C [.row t xs] ds := by
 have := PR.row hc (PR.nil (C := C)); rwa [List.append_nil] at this
theorem zeroCells_size (z : Array Value) (n : Nat) : (Builtin.zeroCells z n).size = n * z.size := by simp [Builtin.zeroCells]
theorem Inv.newRow (I : Inv P S0 w0 C h) (hM : C.M nx = none) {t : Ty} {xs : List t.den} {ds : List Value} (hc : Cat (Rep C t) xs ds) {arr : Array Value} {e : TypeId} {w' : World} {fz : Nat × Nat} {cap : Nat}
  (hw : w'.heap = C.w.heap.push (.cells arr e fz)) (hos : w'.os = C.w.os) (htp : w'.tape = C.w.tape) (hout : w'.output = C.w.output) (hpre : ∃ post, arr.toList = ds ++ post) (hfz : ∀ j, j < arr.size → ¬ (fz.1 ≤ j ∧ j < fz.2))
  (hcap : cap * t.size ≤ arr.size) (hle : xs.length ≤ cap) :
  ∃ C', C'.w = w' ∧ C.Le C' ∧ Inv P S0 w0 C' ((nx, .cells 0 false [.row t xs]) :: h) ∧ VR C' (.own nx 0 t) (.slice (some ⟨C.w.heap.size, 0, none⟩) xs.length cap) ∧ (∀ y, C'.M y ≠ none → C.M y ≠ none ∨ y = nx) := by
 obtain ⟨C', h1, h2, h3, h4, h5, h6⟩ := I.newCells hM (PR.rowOne hc) rowRowLen hw hos htp hout hpre hfz
 refine ⟨C', h1, h2, h3, .own h4 (Nat.le_refl _) (fun _ => ?_) ⟨_, _, _, rfl⟩, h5⟩
 exact ⟨cap, rfl, hle, fun j hj => by rw [h1]; exact h6 j (by omega)⟩
theorem rangeAt_write {w : World} {c o : Nat} {pre ds : List Value} (hp : w.rangeAt c 0 pre) (ho : o ≤ pre.length) (hex : ∀ j, j < ds.length → (w.cell? ⟨c, o + j, none⟩).isSome = true) :
  (w.setCells c o ds).rangeAt c 0 (pre.take o ++ (ds ++ pre.drop (o + ds.length))) := by
 intro j v hv
 simp only [Nat.zero_add]
 by_cases h1 : j < o
 ·rw [World.cell?_setCells_out c ds o w _ (fun _ _ => .inl h1)]
  rw [List.getElem?_append_left (by simp; omega), List.getElem?_take_of_lt h1] at hv
  have := hp j v hv
  simpa using this
 ·have e : j - (pre.take o).length = j - o := by simp; omega
  rw [List.getElem?_append_right (by simp; omega), e] at hv
  by_cases h2 : j < o + ds.length
  ·rw [List.getElem?_append_left (by omega)] at hv
   have := World.cell?_setCells_in c ds o w hex (j - o) (by omega)
   rw [show o + (j - o) = j by omega] at this
   rw [this, ← hv, List.getElem?_eq_getElem]
  ·rw [World.cell?_setCells_out c ds o w _ (fun _ _ => .inr (by show o + ds.length ≤ j; omega))]
   rw [List.getElem?_append_right (by omega), List.getElem?_drop] at hv
   rw [show o + ds.length + (j - o - ds.length) = j by omega] at hv
   have := hp j v hv
   simpa using this
theorem isSome_setCells {w : World} {c o : Nat} {ds : List Value} (hex : ∀ j, j < ds.length → (w.cell? ⟨c, o + j, none⟩).isSome = true) (j : Nat) : ((w.setCells c o ds).cell? ⟨c, j, none⟩).isSome = (w.cell? ⟨c, j, none⟩).isSome := by
 by_cases hin : o ≤ j ∧ j < o + ds.length
 ·have := World.cell?_setCells_in c ds o w hex (j - o) (by omega)
  rw [show o + (j - o) = j by omega] at this
  have h2 := hex (j - o) (by omega)
  rw [show o + (j - o) = j by omega] at h2
  rw [this, h2]; rfl
 ·rw [World.cell?_setCells_out c _ _ _ _ (fun _ _ => by show j < o ∨ _ ≤ j; omega)]
theorem Inv.rowIn (I : Inv P S0 w0 C h) {b ver : Nat} {en : Ent} {c : Nat} {ro : Bool} {t : Ty} {xs zs : List t.den} {pre dn : List Value} {o ver' : Nat} (hg : h.get b = some (.cells ver ro [.row t xs])) (hM : C.M b = some en) (hv : en.ver = ver) (hp : en.perm = false)
  (hc : en.cb = some c) (p1 : Cat (Rep C t) xs pre) (p2 : C.w.rangeAt c 0 pre) (p3 : ∀ j, (C.w.cell? ⟨c, j, none⟩).isSome = true → C.w.frozen? ⟨c, j, none⟩ = false) (ho : o ≤ pre.length)
  (hex : ∀ j, j < dn.length → (C.w.cell? ⟨c, o + j, none⟩).isSome = true) (hz : Cat (Rep C t) zs (pre.take o ++ (dn ++ pre.drop (o + dn.length)))) (hro : ro = false ∨ pre.length ≤ o) (hver : ver < ver' ∨ (ver' = ver ∧ zs.length = en.len)) :
  ∃ C', C'.w = C.w.setCells c o dn ∧ C.Le C' ∧ Inv P S0 w0 C' ((b, .cells ver' ro [.row t zs]) :: h) ∧ C'.M b = some ⟨ver', some c, zs.length, false⟩ ∧ (∀ y, C'.M y ≠ none → C.M y ≠ none) ∧ (∀ n, Bsz C c n → Bsz C' c n) := by
 have loc := I.loc _ _ _ hM hc
 have hRO : ∀ j, C.RO c j → ro = true ∧ j < pre.length := fun j hj => by
  obtain ⟨v', ps', r1, r2⟩ := I.roO _ _ _ _ hM hc hj
  rw [hg] at r1; simp at r1
  obtain ⟨rfl, rfl, rfl⟩ := r1
  refine ⟨rfl, ?_⟩
  simp [AV.size] at r2
  rw [Cat.length (fun _ _ h => Rep.length h) p1]; exact r2
 have T := I.turn (b := b) (e := en) (e' := ⟨ver', some c, zs.length, false⟩) (ao := .cells ver' ro [.row t zs]) (w' := C.w.setCells c o dn) hM (by show en.ver ≤ ver'; omega)
  (fun q => by
   have q : en.ver = ver' := q
   rcases hver with hver | ⟨_, hver⟩
   ·omega
   ·cases en; simp_all)
  (hpin := fun c' _ q => by rw [hc] at q; exact q) (fun q => by simp [hp] at q)
  (Keep.setCells loc.1 _ _ I.below) (by rw [size_setCells]; exact Nat.le_refl _) (fun k _ hk => heap_setCells _ _ _ _ (fun q => hk (by rw [q]; exact hc)))
  (fun c' j hc' hr => by
   rw [hc] at hc'; obtain rfl := Option.some.inj hc'
   obtain ⟨r1, r2⟩ := hRO j hr
   rcases hro with hro | hro
   ·simp [r1] at hro
   ·exact World.cell?_setCells_out c _ _ _ _ (fun _ _ => .inl (by show j < o; omega)))
  (fun c' j hc' hr => by rw [hc] at hc'; obtain rfl := Option.some.inj hc'; rw [isSome_setCells hex]; exact hr)
  (fun c' hc' => .inl (by rw [hc]; exact hc'))
  (fun c' j hc' hc2 hr => by
   rw [hc] at hc'; obtain rfl := Option.some.inj hc'
   obtain ⟨r1, r2⟩ := hRO j hr
   refine ⟨ver', [.row t zs], by rw [r1], ?_⟩
   have hl := Cat.length (fun _ _ h => Rep.length h) hz
   simp [AV.size]
   rw [← hl]; simp
   rcases hro with hro | hro
   ·simp [r1] at hro
   ·omega)
  (fun le => ⟨rfl, rfl, rowRowLen, _, PR.rowOne (hz.mono fun _ _ => Rep.mono le), rangeAt_write p2 ho hex, fun j hj => by
   rw [World.frozen?_setCells]
   have hj : ((C.w.setCells c o dn).cell? ⟨c, j, none⟩).isSome = true := hj
   rw [isSome_setCells hex] at hj
   exact p3 j hj⟩)
 refine ⟨_, rfl, T.1, T.2, by simp, fun y hy => ?_, fun n hn j hj => ?_⟩
 ·by_cases hyb : y = b
  ·subst hyb; rw [hM]; simp
  ·simpa [hyb] using hy
 ·show ((C.w.setCells c o dn).cell? _).isSome = true
  rw [isSome_setCells hex]; exact hn j hj
theorem Inv.rowOut (I : Inv P S0 w0 C h) {b ver : Nat} {en : Ent} {t : Ty} {zs : List t.den} {ds : List Value} (hM : C.M b = some en) (hv : en.ver = ver) (hp : en.perm = false) (ro : Bool)
  (hz : Cat (Rep C t) zs ds) {arr : Array Value} {e : TypeId} {w' : World} (hw : w'.heap = C.w.heap.push (.cells arr e)) (hos : w'.os = C.w.os) (htp : w'.tape = C.w.tape) (hout : w'.output = C.w.output) (hpre : ∃ post, arr.toList = ds ++ post) (hbn : b ≠ ioName) :
  ∃ C', C'.w = w' ∧ C.Le C' ∧ Inv P S0 w0 C' ((b, .cells (ver + 1) ro [.row t zs]) :: h) ∧ C'.M b = some ⟨ver + 1, some C.w.heap.size, zs.length, false⟩ ∧ (∀ y, C'.M y ≠ none → C.M y ≠ none) ∧ Bsz C' C.w.heap.size arr.size := by
 have hcell : ∀ j, w'.cell? ⟨C.w.heap.size, j, none⟩ = arr[j]? := fun j => by simp [World.cell?, hw]
 have hsz := I.below.size
 have T := I.turn (b := b) (e := en) (e' := ⟨ver + 1, some C.w.heap.size, zs.length, false⟩) (ao := .cells (ver + 1) ro [.row t zs]) (w' := w') hM (by show en.ver ≤ ver + 1; omega)
  (fun q => by have q : en.ver = ver + 1 := q; omega) (fun q => by simp [hp] at q)
  (I.below.trans ⟨hos, htp, hout, by rw [hw]; simp, fun k hk => by rw [hw, Array.getElem?_push, if_neg (by omega)]⟩)
  (by rw [hw]; simp) (fun k hk _ => by rw [hw, Array.getElem?_push, if_neg (by omega)])
  (fun c j hc hr => World.cell?_of_block (a := ⟨c, j, none⟩) (by have := (I.ro _ _ hr).1; rw [hw, Array.getElem?_push, if_neg (by show c ≠ _; omega)]))
  (fun c j hc hr => by
   rw [World.cell?_of_block (a := ⟨c, j, none⟩) (w := C.w) (w' := w') (by have := block_of_cell hr; rw [hw, Array.getElem?_push, if_neg (by show c ≠ _; omega)])]; exact hr)
  (fun c hc => by simp at hc; subst hc; right; rw [hw]; simp)
  (fun c j hc hc2 hr => by simp at hc2; subst hc2; have := (I.ro _ _ hr).1; omega)
  (fun le => ⟨rfl, rfl, rowRowLen, ds, PR.rowOne (hz.mono fun _ _ => Rep.mono le), fun j v hv => by
   obtain ⟨post, hpost⟩ := hpre
   simp only [Nat.zero_add]
   show w'.cell? _ = _
   rw [hcell, ← Array.getElem?_toList, hpost, List.getElem?_append_left (List.getElem?_eq_some_iff.1 hv).1]; exact hv, fun j hj => by
   show w'.frozen? _ = false
   simp [World.frozen?, hw]⟩)
  (fun _ q _ => absurd q hbn)
 refine ⟨_, rfl, T.1, T.2, by simp, fun y hy => ?_, fun j hj => ?_⟩
 ·by_cases hyb : y = b
  ·subst hyb; rw [hM]; simp
  ·simpa [hyb] using hy
 ·show (w'.cell? _).isSome = true
  rw [hcell]; simp [hj]
end
end Go.AM
end
section
namespace Go.AM
open Go.RowKit
section
variable {P : Program} {S0 : Base} {w0 : World} {cs : List Frame} {C : Cx} {h h' : Hp} {nx : Nat}
theorem Does.val {s : Sem Value} {v : Value} {C' : Cx} {x : AV × Upd} (hr : s.run P C.w = .ok v C'.w) (I' : Inv P S0 w0 C' (x.2 ++ h)) (le : C.Le C') (hv : VR C' x.1 v) (hn : ∀ y, C'.M y ≠ none → C.M y ≠ none ∨ y = nx) :
  Does P S0 w0 cs C h nx ((do pure (.value (← s)) : Sem Next).run P C.w) x := by
 refine ⟨v, C', .inl ?_, I', le, hv, hn⟩
 rw [Sem.run_bind, hr]; rfl
theorem Inv.rowNone (I : Inv P S0 w0 C h) {b ver : Nat} {en : Ent} {t : Ty} (hM : C.M b = some en) (hv : en.ver = ver) (hp : en.perm = false) (hc : en.cb = none) (ro : Bool) :
  ∃ C', C'.w = C.w ∧ C.Le C' ∧ Inv P S0 w0 C' ((b, .cells (ver + 1) ro [.row t []]) :: h) ∧ C'.M b = some ⟨ver + 1, none, 0, false⟩ ∧ (∀ y, C'.M y ≠ none → C.M y ≠ none) := by
 have T := I.turn (b := b) (e := en) (e' := ⟨ver + 1, none, 0, false⟩) (ao := .cells (ver + 1) ro [.row t []]) (w' := C.w) hM (by show en.ver ≤ ver + 1; omega)
  (fun q => by have q : en.ver = ver + 1 := q; omega) (fun q => by simp [hp] at q) I.below (Nat.le_refl _) (fun _ _ _ => rfl) (fun _ _ _ _ => rfl) (fun _ _ _ q => q)
  (fun c q => by simp at q) (fun c j _ q _ => by simp at q) (fun le => ⟨rfl, rfl, rowRowLen, t, rfl⟩) (fun c _ q => by rw [hc] at q; simp at q)
 refine ⟨⟨C.w, C.RO, fun x => if x = b then some ⟨ver + 1, none, 0, false⟩ else C.M x⟩, rfl, T.1, T.2, by simp, fun y hy => ?_⟩
 by_cases hyb : y = b
 ·subst hyb; rw [hM]; simp
 ·simpa [hyb] using hy
theorem grown_pre (od dn : List Value) (z : Array Value) : ∃ post, (od.toArray ++ dn.toArray ++ z).toList = (od ++ dn) ++ post := ⟨z.toList, by simp⟩
theorem grown_pre0 (dn : List Value) (z : Array Value) : ∃ post, (([] : List Value).toArray ++ dn.toArray ++ z).toList = dn ++ post := ⟨z.toList, by simp⟩
theorem run_storeRow {c o : Nat} {a : Addr} {dn : List Value} {w : World} (ha : dn = [] ∨ a = ⟨c, o, none⟩) (hex : ∀ j, j < dn.length → (w.cell? ⟨c, o + j, none⟩).isSome = true)
  (hf : ∀ j, (w.cell? ⟨c, j, none⟩).isSome = true → w.frozen? ⟨c, j, none⟩ = false) (h1 : ∀ v ∈ dn, v.oneCell' = true) : (storeCells a dn).run P w = .ok () (w.setCells c o dn) := by
 rcases ha with rfl | rfl
 ·rfl
 ·have := run_storeCells_cells (P := P) c o dn 0 w (fun j hj => by simpa using hex j hj) (fun j hj => by simpa using hf _ (hex j hj)) h1
  simpa using this
theorem Cat.one {t : Ty} {xs : List t.den} {ds : List Value} (hc : Cat (Rep C t) xs ds) : ∀ v ∈ ds, v.oneCell' = true := fun v hv => cellV_one ((PR.rowOne hc).cellV v hv)
theorem asRow_spec {ty : Ty} {hd : Held} {xs : List ty.den} (e : asRow ty hd = some xs) : hd = ⟨ty, xs⟩ := by
 cases hd with
 | mk td xs' =>
  obtain ⟨h1, h2⟩ := packAll_lst e
  cases h1; cases h2; rfl
theorem grown_size {od dn : List Value} {zv : Value} {z a b nc : Nat} (h1 : od.length = a * z) (h2 : dn.length = b * z) (h3 : zv.cells.size = z) (h4 : a + b ≤ nc) :
  (od.toArray ++ dn.toArray ++ Builtin.zeroCells zv.cells (nc - (a + b))).size = nc * z := by
 simp only [Array.size_append, List.size_toArray, zeroCells_size, h1, h2, h3]
 rw [← Nat.add_mul, ← Nat.add_mul]
 congr 1; omega
theorem appendA_sound (I : Inv P S0 w0 C h) (hM : C.M nx = none) (hs : Sub' h' h) {t t2 : TypeId} {s x : AV} {v u : Value} {r : AV × Upd} {ts : Array TypeId} (e0 : ts[0]? = some t) (e1 : ts[1]? = some t2) {ty' : TypeId}
  (e : (appendA P h' nx t t2 s x).Ev r) (hv : VR C s v) (hu : VR C x u) :
  Does P S0 w0 cs C h nx ((do pure (.value (← Builtin.append_ ts ty' #[v, u])) : Sem Next).run P C.w) r := by
 unfold appendA at e
 split at e
 ·rename_i el hul
  simp only [cond_eq_ite] at e
  split at e
  ·exact (F.ev_fail e).elim
  ·rename_i hz
   simp only [Bool.or_eq_true, Bool.not_eq_true', not_or, Bool.not_eq_true, Bool.not_eq_false] at hz
   obtain ⟨h2, hg⟩ := hz
   obtain ⟨i, zv, hi, hzv, hzs, hb⟩ := growT_spec hg
   split at e
   ·rename_i ty hty
    have hsz : i.size = ty.size := by rw [← cellsOf_info hi]; exact tyOf_size hty
    split at e
    ·exact (F.ev_fail e).elim
    ·rename_i ys hys
     obtain ⟨dn, hdn, hsrc⟩ := srcOf_sound I hs hys hu
     have hdl : dn.length = List.length ys * ty.size := Cat.length (fun _ _ h => Rep.length h) hdn
     have RA := fun (base : Option Addr) (sLen sCap : Nat) (od : List Value) (hbase : Src P C.w ty.size sLen (.slice base sLen sCap) od) (hr : sLen + List.length ys < roomOf P el) =>
      run_append (P := P) (w := C.w) (ty := ty') (base := base) (sLen := sLen) (sCap := sCap) (od := od) hul h2 hi hzv (by rw [hsz]; exact hsrc) (by rw [hsz]; exact hbase) hb (roomOf_spec hi hb hr) e0 e1
     split at e
     ·obtain ⟨hroom, e⟩ := F.ev_guard e
      obtain rfl := F.ev_ret e
      have hroom := of_decide_eq_true hroom
      cases hv
      rcases RA none 0 0 [] (Src.slice (by simp) (.inl rfl)) (by omega) with ⟨q1, q2⟩ | ⟨q1, nc, q2, q3⟩
      ·have hn : List.length ys = 0 := by omega
       have hy0 := List.eq_nil_of_length_eq_zero hn
       obtain ⟨C', c1, c2, c3, c4, c5⟩ := I.newNone hM (t := ty) (w' := C.w) rfl I.below
       refine Does.val (C' := C') (v := .slice none 0 0) ?_ ?_ c2 (.own c4 (Nat.le_refl _) (fun _ => ⟨rfl, rfl⟩) ⟨_, _, _, rfl⟩) c5
       ·rw [q2, c1, hn]; rfl
       ·rw [hy0]; exact c3
      ·obtain ⟨C', c1, c2, c3, c4, c5⟩ := I.newRow hM hdn (e := el) (fz := (0, 0)) (cap := nc) (arr := [].toArray ++ dn.toArray ++ Builtin.zeroCells zv.cells (nc - (0 + List.length ys)))
        (w' := C.w.drew.alloc (.cells ([].toArray ++ dn.toArray ++ Builtin.zeroCells zv.cells (nc - (0 + List.length ys))) el)) rfl rfl rfl rfl (grown_pre0 _ _) (fun j _ => by simp)
        (by rw [grown_size (z := ty.size) (a := 0) (b := List.length ys) (by simp) hdl (by rw [hzs, hsz]) q2]; exact Nat.le_refl _) (by omega)
       refine Does.val (C' := C') ?_ c3 c2 c4 c5
       rw [q3, c1, Nat.zero_add]
     ·rename_i b ver t0
      split at e
      ·rename_i w hd hr
       split at e
       ·rename_i xs hxs
        obtain ⟨hroom, e⟩ := F.ev_guard e
        obtain rfl := F.ev_ret e
        have hroom := of_decide_eq_true hroom
        split at hxs
        ·rename_i ht0
         simp only [Bool.and_eq_true, Bool.not_eq_true'] at ht0
         have hbn : b ≠ ioName := fun q => by rw [q, Nat.beq_refl] at ht0; exact absurd ht0.2 (by decide)
         have ht0 := Nat.eq_of_beq_eq_true ht0.1
         obtain rfl := asRow_spec hxs
         obtain ⟨ro, en, g1, g2, g3, g4, g5, g6, g7⟩ := I.rowLen hs hr
         have g6 : en.len = List.length xs := g6
         have g2 : w = !ro := g2
         subst g2
         rw [Bool.not_not]
         cases hv with
         | own k1 k2 k3 k4 =>
          rw [g3] at k1; obtain rfl := Option.some.inj k1
          have k3 := k3 g4.symm
          unfold OwnOK at k3
          split at k3
          ·rename_i c hc
           rw [hc] at g7
           obtain ⟨pre, p1, p2, p3⟩ := g7
           obtain ⟨cap, rfl, k5, k6⟩ := k3
           have hpl : pre.length = List.length xs * ty.size := Cat.length (fun _ _ h => Rep.length h) p1
           have hl2 : List.length (xs ++ ys) = List.length xs + List.length ys := List.length_append
           rcases RA (some ⟨c, 0, none⟩) en.len cap pre (by rw [g6]; exact Src.slice hpl (.inr ⟨c, 0, rfl, fun j v hj => p2 j v hj⟩)) (by rw [g6]; exact hroom) with ⟨q1, q2⟩ | ⟨q1, nc, q2, q3⟩
           ·have hex : ∀ j, j < dn.length → (C.w.cell? ⟨c, pre.length + j, none⟩).isSome = true := fun j hj => k6 _ (by
             rw [ht0]
             have : (List.length xs + List.length ys) * ty.size ≤ cap * ty.size := Nat.mul_le_mul_right _ (by omega)
             rw [Nat.add_mul] at this
             omega)
            obtain ⟨C', c1, c2, c3, c4, c5, c6⟩ := I.rowIn (zs := xs ++ ys) (dn := dn) (o := pre.length) (ver' := ver + 1) g1 g3 g4 g5 hc p1 p2 p3 (Nat.le_refl _) hex
             (by rw [List.take_length, List.drop_eq_nil_of_le (by omega), List.append_nil]; exact Cat.append p1 hdn) (.inr (Nat.le_refl _)) (.inl (Nat.lt_succ_self _))
            refine Does.val (C' := C') (v := .slice (some ⟨c, 0, none⟩) (en.len + List.length ys) cap) ?_ c3 c2 (.own c4 (Nat.le_refl _) (fun _ => ⟨cap, ?_, ?_, ?_⟩) ⟨_, _, _, rfl⟩) (fun y hy => .inl (c5 y hy))
            ·rw [q2, c1]
             have hst := run_storeRow (P := P) (a := (⟨c, 0, none⟩ : Addr).add (en.len * i.size)) (o := pre.length) (w := C.w) (dn := dn) (.inr (by rw [Addr.add_mid, hpl, g6, hsz, Nat.zero_add])) hex p3 hdn.one
             simp only [Sem.run_bind, hst, Result.andThen_ok, Sem.run_pure]
            ·show Value.slice _ _ _ = .slice _ (List.length (xs ++ ys)) _
             rw [hl2, g6]
            ·show List.length (xs ++ ys) ≤ cap
             omega
            ·exact c6 _ (by rw [← ht0]; exact k6)
           ·obtain ⟨C', c1, c2, c3, c4, c5, c6⟩ := I.rowOut (zs := xs ++ ys) (ds := pre ++ dn) g3 g4 g5 ro (Cat.append p1 hdn) (e := el)
             (arr := pre.toArray ++ dn.toArray ++ Builtin.zeroCells zv.cells (nc - (en.len + List.length ys)))
             (w' := C.w.drew.alloc (.cells (pre.toArray ++ dn.toArray ++ Builtin.zeroCells zv.cells (nc - (en.len + List.length ys))) el)) rfl rfl rfl rfl (grown_pre _ _ _) hbn
            refine Does.val (C' := C') (v := .slice (some ⟨C.w.heap.size, 0, none⟩) (en.len + List.length ys) nc) ?_ c3 c2 (.own c4 (Nat.le_refl _) (fun _ => ⟨nc, ?_, ?_, ?_⟩) ⟨_, _, _, rfl⟩) (fun y hy => .inl (c5 y hy))
            ·rw [q3, c1]
            ·show Value.slice _ _ _ = .slice _ (List.length (xs ++ ys)) _
             rw [hl2, g6]
            ·show List.length (xs ++ ys) ≤ nc
             omega
            ·rw [grown_size (z := ty.size) (by rw [g6]; exact hpl) hdl (by rw [hzs, hsz]) q2] at c6
             exact c6
          ·rename_i hc
           obtain ⟨k5, rfl⟩ := k3
           rw [hc] at g7
           have g7 : xs = [] := g7
           subst g7
           rcases RA none 0 0 [] (Src.slice (by simp) (.inl rfl)) hroom with ⟨q1, q2⟩ | ⟨q1, nc, q2, q3⟩
           ·have hn : List.length ys = 0 := by omega
            have hy0 := List.eq_nil_of_length_eq_zero hn
            obtain ⟨C', c1, c2, c3, c4, c5⟩ := I.rowNone (t := ty) g3 g4 g5 hc ro
            refine Does.val (C' := C') (v := .slice none 0 0) ?_ ?_ c2 (.own c4 (Nat.le_refl _) (fun _ => ⟨rfl, rfl⟩) ⟨_, _, _, rfl⟩) (fun y hy => .inl (c5 y hy))
            ·rw [q2, c1, hn]; rfl
            ·rw [hy0]; exact c3
           ·obtain ⟨C', c1, c2, c3, c4, c5, c6⟩ := I.rowOut (zs := ys) (ds := dn) g3 g4 g5 ro hdn (e := el)
             (arr := [].toArray ++ dn.toArray ++ Builtin.zeroCells zv.cells (nc - (0 + List.length ys)))
             (w' := C.w.drew.alloc (.cells ([].toArray ++ dn.toArray ++ Builtin.zeroCells zv.cells (nc - (0 + List.length ys))) el)) rfl rfl rfl rfl (grown_pre0 _ _) hbn
            refine Does.val (C' := C') (v := .slice (some ⟨C.w.heap.size, 0, none⟩) (0 + List.length ys) nc) ?_ c3 c2 (.own c4 (Nat.le_refl _) (fun _ => ⟨nc, ?_, ?_, ?_⟩) ⟨_, _, _, rfl⟩) (fun y hy => .inl (c5 y hy))
            ·rw [q3, c1]
            ·rw [Nat.zero_add]
            ·show List.length ys ≤ nc
             omega
            ·rw [grown_size (z := ty.size) (a := 0) (by simp) hdl (by rw [hzs, hsz]) q2] at c6
             exact c6
        ·simp at hxs
       ·exact (F.ev_fail e).elim
      ·exact (F.ev_fail e).elim
     ·rename_i b ver t0 n
      split at e
      ·rename_i hd hr
       split at e
       ·rename_i xs hxs
        obtain ⟨hroom, e⟩ := F.ev_guard e
        obtain rfl := F.ev_ret e
        simp only [Bool.and_eq_true, decide_eq_true_eq] at hroom
        obtain ⟨hroom, hn0⟩ := hroom
        split at hxs
        ·rename_i ht0
         simp only [Bool.and_eq_true, Bool.not_eq_true'] at ht0
         have hbn : b ≠ ioName := fun q => by rw [q, Nat.beq_refl] at ht0; exact absurd ht0.2 (by decide)
         have ht0 := Nat.eq_of_beq_eq_true ht0.1
         obtain rfl := asRow_spec hxs
         obtain ⟨ro, en, g1, g2, g3, g4, g5, g6, g7⟩ := I.rowLen hs hr
         have g6 : en.len = List.length xs := g6
         have g2 : true = !ro := g2
         have hro : ro = false := by cases ro with | false => rfl | true => exact absurd g2 (by decide)
         subst hro
         have hl2 : n.toNat ≤ List.length xs → List.length (xs.take n.toNat ++ (ys ++ xs.drop (n.toNat + List.length ys))) = max (List.length xs) (n.toNat + List.length ys) := by
          intro hle
          show List.length (xs.take n.toNat ++ (ys ++ xs.drop (n.toNat + List.length ys))) = max _ _
          rw [List.length_append, List.length_append, List.length_take, List.length_drop]
          omega
         cases hv with
         | slc k1 k2 k3 k4 =>
          rw [g3] at k1; obtain rfl := Option.some.inj k1
          obtain ⟨s1, s2, s3, s4⟩ := k3 g4.symm
          have s3 : 0 + n ≤ (en.len : Nat) := s3
          split at s4
          ·rename_i hc
           obtain ⟨_, k5, rfl⟩ := s4
           rw [hc] at g7
           have g7 : xs = [] := g7
           subst g7
           have hnn : n = 0 := by omega
           subst hnn
           rcases RA none 0 0 [] (Src.slice (by simp) (.inl rfl)) hroom with ⟨q1, q2⟩ | ⟨q1, nc, q2, q3⟩
           ·have hn : List.length ys = 0 := by omega
            have hy0 := List.eq_nil_of_length_eq_zero hn
            subst hy0
            obtain ⟨C', c1, c2, c3, c4, c5⟩ := I.rowNone (t := ty) g3 g4 g5 hc false
            refine Does.val (C' := C') (v := .slice none 0 0) ?_ ?_ c2 (.slc c4 (Nat.le_refl _) (fun _ => ⟨Int.le_refl _, by simp, by simp, rfl, rfl, rfl⟩) ⟨_, _, _, rfl⟩) (fun y hy => .inl (c5 y hy))
            ·rw [q2, c1]; rfl
            ·exact c3
           ·have hcontent : List.append (α := ty.den) (List.take (Int.toNat 0) []) (List.append (α := ty.den) ys (List.drop (α := ty.den) (Int.toNat 0 + List.length ys) [])) = ys := by
             show ([] : List ty.den).take 0 ++ (ys ++ ([] : List ty.den).drop _) = ys
             simp
            obtain ⟨C', c1, c2, c3, c4, c5, c6⟩ := I.rowOut (zs := ys) (ds := dn) g3 g4 g5 false hdn (e := el)
             (arr := [].toArray ++ dn.toArray ++ Builtin.zeroCells zv.cells (nc - (0 + List.length ys)))
             (w' := C.w.drew.alloc (.cells ([].toArray ++ dn.toArray ++ Builtin.zeroCells zv.cells (nc - (0 + List.length ys))) el)) rfl rfl rfl rfl (grown_pre0 _ _) hbn
            refine Does.val (C' := C') (v := .slice (some ⟨C.w.heap.size, 0, none⟩) (0 + List.length ys) nc) ?_ ?_ c2 (.slc c4 (Nat.le_refl _) (fun _ => ⟨Int.le_refl _, by simp, by simp, ⟨C.w.heap.size, 0, none⟩, nc, ?_, fun _ => by simp, ?_, ?_⟩) ⟨_, _, _, rfl⟩) (fun y hy => .inl (c5 y hy))
            ·rw [q3, c1]
            ·show Inv P S0 w0 C' ((b, .cells (ver + 1) false [.row ty (List.append (α := ty.den) _ _)]) :: h)
             rw [hcontent]; exact c3
            ·congr 1
            ·show List.length ys ≤ 0 + nc
             omega
            ·rw [grown_size (z := ty.size) (a := 0) (by simp) hdl (by rw [hzs, hsz]) q2] at c6
             simpa using c6
          ·rename_i c hc
           obtain ⟨a, cap, rfl, s5, s6, s7⟩ := s4
           rw [hc] at g7
           obtain ⟨pre, p1, p2, p3⟩ := g7
           have p1 : Cat (Rep C ty) xs pre := p1
           have hpl : pre.length = List.length xs * ty.size := Cat.length (fun _ _ h => Rep.length h) p1
           have hnx : n.toNat ≤ List.length xs := by omega
           have s6 : en.len ≤ 0 + cap := s6
           have s7 : Bsz C c (0 + (0 + cap) * t0.size) := s7
           have s5 : cap ≠ 0 → a = ⟨c, 0, none⟩ := fun q => by rw [s5 q]; simp
           have hl2 := hl2 hnx
           have hmul : n.toNat * ty.size ≤ List.length xs * ty.size := Nat.mul_le_mul_right _ hnx
           have hcont : Cat (Rep C ty) (xs.take n.toNat ++ (ys ++ xs.drop (n.toNat + List.length ys))) (pre.take (n.toNat * ty.size) ++ (dn ++ pre.drop ((n.toNat + List.length ys) * ty.size))) :=
            Cat.append (Cat.split (fun _ _ h => Rep.length h) n.toNat p1).1 (Cat.append hdn (Cat.split (fun _ _ h => Rep.length h) (n.toNat + List.length ys) p1).2)
           have htl : (pre.take (n.toNat * ty.size)).length = n.toNat * ty.size := by rw [List.length_take, hpl]; omega
           have hbz : Src P C.w ty.size n.toNat (.slice (some a) n.toNat cap) (pre.take (n.toNat * ty.size)) := Src.slice htl (by
            by_cases hn : n.toNat = 0
            ·exact .inl hn
            ·right
             refine ⟨c, 0, by rw [s5 (by omega)], fun j v hj => ?_⟩
             rw [List.getElem?_take] at hj
             split at hj
             ·exact p2 j v hj
             ·simp at hj)
           rcases RA (some a) n.toNat cap _ hbz (by omega) with ⟨q1, q2⟩ | ⟨q1, nc, q2, q3⟩
           ·have hex : ∀ j, j < dn.length → (C.w.cell? ⟨c, n.toNat * ty.size + j, none⟩).isSome = true := fun j hj => s7 _ (by
             rw [ht0]
             have : (n.toNat + List.length ys) * ty.size ≤ cap * ty.size := Nat.mul_le_mul_right _ (by omega)
             rw [Nat.add_mul] at this
             simp only [Nat.zero_add]
             omega)
            obtain ⟨C', c1, c2, c3, c4, c5, c6⟩ := I.rowIn (zs := xs.take n.toNat ++ (ys ++ xs.drop (n.toNat + List.length ys))) (dn := dn) (o := n.toNat * ty.size) (ver' := ver + 1) g1 g3 g4 g5 hc p1 p2 p3 (by omega) hex
             (by rw [hdl, ← Nat.add_mul]; exact hcont) (.inl rfl) (.inl (Nat.lt_succ_self _))
            refine Does.val (C' := C') (v := .slice (some a) (n.toNat + List.length ys) cap) ?_ c3 c2 (.slc c4 (Nat.le_refl _) (fun _ => ⟨Int.le_refl _, by omega, ?_, a, cap, ?_, ?_, ?_, ?_⟩) ⟨_, _, _, rfl⟩) (fun y hy => .inl (c5 y hy))
            ·rw [q2, c1]
             have hst := run_storeRow (P := P) (a := a.add (n.toNat * i.size)) (o := n.toNat * ty.size) (w := C.w) (dn := dn) (by
              by_cases hcap : cap = 0
              ·left
               have : List.length ys = 0 := by omega
               rw [this, Nat.zero_mul] at hdl
               exact List.eq_nil_of_length_eq_zero hdl
              ·right
               rw [s5 hcap, Addr.add_mid, hsz, Nat.zero_add]) hex p3 hdn.one
             simp only [Sem.run_bind, hst, Result.andThen_ok, Sem.run_pure]
            ·show 0 + (n + (List.length ys : Int)) ≤ ((List.length (xs.take n.toNat ++ (ys ++ xs.drop (n.toNat + List.length ys))) : Nat) : Int)
             rw [hl2]; omega
            ·congr 1; omega
            ·intro q; rw [s5 q]; simp
            ·show List.length (xs.take n.toNat ++ (ys ++ xs.drop (n.toNat + List.length ys))) ≤ 0 + cap
             rw [hl2]; omega
            ·refine c6 _ ?_
             rw [← ht0]; exact s7
           ·have hdrop : xs.drop (n.toNat + List.length ys) = [] := List.drop_eq_nil_of_le (by omega)
            obtain ⟨C', c1, c2, c3, c4, c5, c6⟩ := I.rowOut (zs := xs.take n.toNat ++ (ys ++ xs.drop (n.toNat + List.length ys))) (ds := pre.take (n.toNat * ty.size) ++ dn) g3 g4 g5 false
             (by rw [hdrop, List.append_nil]; exact Cat.append (Cat.split (fun _ _ h => Rep.length h) n.toNat p1).1 hdn) (e := el)
             (arr := (pre.take (n.toNat * ty.size)).toArray ++ dn.toArray ++ Builtin.zeroCells zv.cells (nc - (n.toNat + List.length ys)))
             (w' := C.w.drew.alloc (.cells ((pre.take (n.toNat * ty.size)).toArray ++ dn.toArray ++ Builtin.zeroCells zv.cells (nc - (n.toNat + List.length ys))) el)) rfl rfl rfl rfl (grown_pre _ _ _) hbn
            refine Does.val (C' := C') (v := .slice (some ⟨C.w.heap.size, 0, none⟩) (n.toNat + List.length ys) nc) ?_ c3 c2 (.slc c4 (Nat.le_refl _) (fun _ => ⟨Int.le_refl _, by omega, ?_, ⟨C.w.heap.size, 0, none⟩, nc, ?_, fun _ => by simp, ?_, ?_⟩) ⟨_, _, _, rfl⟩) (fun y hy => .inl (c5 y hy))
            ·rw [q3, c1]
            ·show 0 + (n + (List.length ys : Int)) ≤ ((List.length (xs.take n.toNat ++ (ys ++ xs.drop (n.toNat + List.length ys))) : Nat) : Int)
             rw [hl2]; omega
            ·congr 1; omega
            ·show List.length (xs.take n.toNat ++ (ys ++ xs.drop (n.toNat + List.length ys))) ≤ 0 + nc
             rw [hl2]; omega
            ·rw [grown_size (z := ty.size) htl hdl (by rw [hzs, hsz]) q2] at c6
             simpa using c6
        ·simp at hxs
       ·exact (F.ev_fail e).elim
      ·exact (F.ev_fail e).elim
     ·exact (F.ev_fail e).elim
   ·exact (F.ev_fail e).elim
 ·exact (F.ev_fail e).elim
end
end Go.AM
end
