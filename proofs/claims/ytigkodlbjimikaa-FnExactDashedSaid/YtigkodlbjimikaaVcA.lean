/- Values, memory and steps of a reading of the program's code on typed lists: what is computed, with no memory in sight. -/
import Derived.WalkKit
import Derived.WalkLawsBesides
import Derived.WalkSpells
import Derived.OpenShut
import Derived.Laws.StructEq
import Derived.Laws.OwnMore
import Derived.Laws.AppendOwn
import Derived.Laws.MakeOwn
import Derived.Maps.AppendAt
import Derived.Laws.Slices
import Derived.OwnWalk
import Derived.Below
import Derived.Tactics
import Derived.KernelRfl
import Derived.Laws.BytesArg
import Derived.Lib.ConvBytes
import Derived.Deep.Draws
import Derived.Deep.AppendLies
import Derived.ArgAppend
import Derived.RowKit3
import Derived.RowKit
namespace Go.Proofs.Ytigkodlbjimikaa.Vc
open Go Go.RowKit
set_option linter.unusedVariables false

/-! ### types -/
inductive Ty where
  | int (k : IntKind) | bool | str | sl (e : TypeId) (t : Ty) | unit | pair (a b : Ty)
  /-- an address or a function -/
  | opq
  deriving DecidableEq
@[reducible] def Ty.den : Ty → Type
  | .int _ => Int
  | .bool => Bool
  | .str => ByteArray
  | .sl _ t => List t.den
  | .unit => Unit
  | .pair a b => a.den × b.den
  | .opq => Unit
def Ty.size : Ty → Nat
  | .unit => 0
  | .pair a b => a.size + b.size
  | _ => 1
def Ty.dflt : (t : Ty) → t.den
  | .int _ => (0 : Int)
  | .bool => false
  | .str => ByteArray.empty
  | .sl _ _ => []
  | .unit => ()
  | .pair a b => (a.dflt, b.dflt)
  | .opq => ()
/-- A slice lies somewhere in it. -/
def Ty.deep : Ty → Bool
  | .sl _ _ => true
  | .pair a b => a.deep || b.deep
  | _ => false
def cast (s t : Ty) (x : s.den) : Option t.den := if h : s = t then some (h ▸ x) else none

/-! ### cells -/
inductive Cell where
  | int (k : IntKind) (n : Int)
  | bool (b : Bool)
  | str (s : ByteArray)
  | nil (e : TypeId) (t : Ty)
  | own (r : Nat)
  | sub (r : Nat) (z : Bool) (lo n : Int)
  | inn (r : Nat) (i : Int) (off : Nat) (e : TypeId) (t : Ty)
  | view (e : TypeId) (t : Ty) (xs : List t.den)
  | ptr (b off : Nat)
  | eptr (r : Nat) (i : Int) (off : Nat)
  | vptr (t : Ty) (x : t.den) (off : Nat)
  | fn (f : Nat) (caps : List Nat)
  /-- a slice that was given away: its length -/
  | gone (n : Int)
  | bad
inductive Comp where
  | one (c : Cell)
  | agg (cs : List Cell)
inductive AVal where
  | cp (c : Comp)
  | tup (l : List Comp)
  | bad
  /-- nothing: the operation was passed over -/
  | und
abbrev AVal.c (c : Cell) : AVal := .cp (.one c)
structure Reg where
  e : TypeId
  t : Ty
  xs : List t.den
  /-- the slice itself is the one that came in: the parameter's number and one; or 0 -/
  orig : Nat
structure Box where
  tid : TypeId
  cells : List Cell
structure St where
  tmps : List (Nat × AVal)
  boxes : List (Nat × Box)
  regs : List (Nat × Reg)

/-! ### tables -/
def get {α : Type} : List (Nat × α) → Nat → Option α
  | [], _ => none
  | (k, v) :: l, n => bif k == n then some v else get l n
def ins {α : Type} (n : Nat) (x : α) : List (Nat × α) → List (Nat × α)
  | [] => [(n, x)]
  | (k, v) :: l => bif Nat.blt n k then (n, x) :: (k, v) :: l else bif n == k then (n, x) :: l else (k, v) :: ins n x l
def del {α : Type} (n : Nat) : List (Nat × α) → List (Nat × α)
  | [] => []
  | (k, v) :: l => bif k == n then del n l else (k, v) :: del n l
def mapv {α β : Type} (f : α → β) : List (Nat × α) → List (Nat × β)
  | [] => []
  | (k, v) :: l => (k, f v) :: mapv f l
structure TI where
  ty : Option Ty := none
  elem : TypeId := 0
  flds : List (Nat × TypeId) := []
  bytes : Nat := 0
  /-- a struct of plain cells, held against another -/
  eq : Bool := false
/-- What is known of the program: its types, its functions. -/
structure Env where
  types : List (Nat × TI)
  funcs : List (Nat × Func)
def Env.ty (E : Env) (t : TypeId) : Option Ty := (get E.types t).bind TI.ty

/-! ### numbers: each operation by a name of its own -/
def wr (k : IntKind) (n : Int) : Int := match k with | .i64 => wrap64 n | k => k.wrap n
def iadd (x y : Int) : Int := x + y
def isub (x y : Int) : Int := x - y
def imul (x y : Int) : Int := x * y
def iquo (x y : Int) : Int := x.tdiv y
def irem (x y : Int) : Int := x.tmod y
def ibit (op : BinOp) (k : IntKind) (x y : Int) : Int := Go.bits op k x y
def shift (y : Int) (k : IntKind) : Nat := min y.toNat k.bits
def ishl (k : IntKind) (x y : Int) : Int := x * 2 ^ shift y k
def ishr (k : IntKind) (x y : Int) : Int := x.fdiv (2 ^ shift y k)
def imin (x y : Int) : Int := if y < x then y else x
def imax (x y : Int) : Int := if y > x then y else x
def ieq (x y : Int) : Bool := x == y
def ilt (x y : Int) : Bool := decide (x < y)
def ile (x y : Int) : Bool := decide (x ≤ y)
def beq_ (x y : Bool) : Bool := x == y
def not_ (x : Bool) : Bool := !x
def and_ (x y : Bool) : Bool := x && y
def seq_ (x y : ByteArray) : Bool := x == y
def pickI (q : Bool) (x y : Int) : Int := bif q then x else y
def pickB (q : Bool) (x y : Bool) : Bool := bif q then x else y
def llen {α : Type} (xs : List α) : Int := xs.length
def lapp {α : Type} (xs ys : List α) : List α := xs ++ ys
def lcut {α : Type} (xs : List α) (lo n : Int) : List α := (xs.drop lo.toNat).take n.toNat
def lrep {α : Type} (n : Int) (x : α) : List α := List.replicate n.toNat x
def slen (s : ByteArray) : Int := s.size
def scut (s : ByteArray) (lo hi : Int) : ByteArray := s.extract lo.toNat hi.toNat
def bt (s : ByteArray) (i : Int) : Int := if h : i.toNat < s.size then ((s[i.toNat]'h).toNat : Int) else 0
def sat (s : ByteArray) (i : Int) : Int := bt s i
/-- What is asked of the numbers, and what comes of them. -/
def intOp (op : BinOp) (k : IntKind) (x y : Int) : Bool × Cell :=
  match op with
  | .add => (true, .int k (wr k (iadd x y)))
  | .sub => (true, .int k (wr k (isub x y)))
  | .mul => (true, .int k (wr k (imul x y)))
  | .quo => (not_ (ieq y 0), .int k (wr k (iquo x y)))
  | .rem => (not_ (ieq y 0), .int k (irem x y))
  | .and => (true, .int k (ibit .and k x y))
  | .or => (true, .int k (ibit .or k x y))
  | .xor => (true, .int k (ibit .xor k x y))
  | .andNot => (true, .int k (ibit .andNot k x y))
  | .eql => (true, .bool (ieq x y))
  | .neq => (true, .bool (not_ (ieq x y)))
  | .lss => (true, .bool (ilt x y))
  | .leq => (true, .bool (ile x y))
  | .gtr => (true, .bool (ilt y x))
  | .geq => (true, .bool (ile y x))
  | .shl => (ile 0 y, .int k (wr k (ishl k x y)))
  | .shr => (ile 0 y, .int k (ishr k x y))
/-! ### typed values as cells -/
def zcells : Ty → List Cell
  | .int k => [.int k 0]
  | .bool => [.bool false]
  | .str => [.str ByteArray.empty]
  | .sl e t => [.nil e t]
  | .unit => []
  | .pair a b => zcells a ++ zcells b
  | .opq => [.bad]
/-- .. of what stays. -/
def vcells : (t : Ty) → t.den → List Cell
  | .int k, x => [.int k x]
  | .bool, x => [.bool x]
  | .str, x => [.str x]
  | .sl e t, x => [.view e t x]
  | .unit, _ => []
  | .pair a b, x => vcells a x.1 ++ vcells b x.2
  | .opq, _ => [.bad]
/-- .. of what is the region r's, element i, from a place on. -/
def ocells (r : Nat) (i : Int) : (t : Ty) → Nat → t.den → List Cell
  | .int k, _, x => [.int k x]
  | .bool, _, x => [.bool x]
  | .str, _, x => [.str x]
  | .sl e t, off, _ => [.inn r i off e t]
  | .unit, _, _ => []
  | .opq, _, _ => [.bad]
  | .pair a b, off, x => ocells r i a off x.1 ++ ocells r i b (off + a.size) x.2
/-- The slice at a place of a value. -/
def innAt (e' : TypeId) (t' : Ty) : (t : Ty) → Nat → t.den → Option (List t'.den)
  | .sl e t, off, x => bif off == 0 && e == e' then cast (.sl e t) (.sl e t') x else none
  | .pair a b, off, x => bif Nat.blt off a.size then innAt e' t' a off x.1 else innAt e' t' b (off - a.size) x.2
  | _, _, _ => none
/-- .. put anew. -/
def innPut (e' : TypeId) (t' : Ty) (l : List t'.den) : (t : Ty) → Nat → t.den → Option t.den
  | .sl e t, off, _ => bif off == 0 && e == e' then cast (.sl e t') (.sl e t) l else none
  | .pair a b, off, x => bif Nat.blt off a.size then (innPut e' t' l a off x.1).map fun y => (y, x.2) else (innPut e' t' l b (off - a.size) x.2).map fun y => (x.1, y)
  | _, _, _ => none
def lget {t : Ty} (xs : List t.den) (i : Int) : t.den := xs.getD i.toNat t.dflt
def St.reg (s : St) (r : Nat) : Option Reg := get s.regs r
/-- What a slice's cell holds. -/
def St.slice (s : St) : Cell → Option ((e : TypeId) × (t : Ty) × List t.den)
  | .nil e t => some ⟨e, t, []⟩
  | .own r => (s.reg r).map fun g => ⟨g.e, g.t, g.xs⟩
  | .sub r _ lo n => (s.reg r).map fun g => ⟨g.e, g.t, lcut g.xs lo n⟩
  | .inn r i off e t => (s.reg r).bind fun g => (innAt e t g.t off (lget g.xs i)).map fun l => ⟨e, t, l⟩
  | .view e t xs => some ⟨e, t, xs⟩
  | _ => none
/-- The cells of a value, read by its type: the slices in it by what they hold. -/
def St.read (s : St) : (t : Ty) → List Cell → Option (t.den × List Cell)
  | .int k, .int k' n :: l => bif decide (k = k') then some (n, l) else none
  | .bool, .bool b :: l => some (b, l)
  | .str, .str b :: l => some (b, l)
  | .sl e t, c :: l => match s.slice c with
    | some ⟨e', t', xs⟩ => bif e == e' then (cast (.sl e t') (.sl e t) xs).map fun x => (x, l) else none
    | none => none
  | .unit, l => some ((), l)
  | .pair a b, l => match s.read a l with
    | some (x, l') => (match s.read b l' with | some (y, l'') => some ((x, y), l'') | none => none)
    | none => none
  | _, _ => none
def Comp.cells : Comp → List Cell
  | .one c => [c]
  | .agg cs => cs
/-- Cells by a type: one, or a struct. -/
def isAggTy : Ty → Bool
  | .pair _ _ => true
  | .unit => true
  | _ => false
def compOf (t : Ty) (cs : List Cell) : Option Comp := bif isAggTy t then some (.agg cs) else match cs with | [c] => some (.one c) | _ => none

/-! ### a value written down -/
def constCells : Ty → List Value → Option (List Cell × List Value)
  | .int k, .int k' n :: l => bif decide (k = k') then some ([.int k n], l) else none
  | .bool, .bool b :: l => some ([.bool b], l)
  | .str, .string s :: l => some ([.str s], l)
  | .sl e t, .slice none 0 0 :: l => some ([.nil e t], l)
  | .unit, l => some ([], l)
  | .pair a b, l => match constCells a l with
    | some (x, l') => (match constCells b l' with | some (y, l'') => some (x ++ y, l'') | none => none)
    | none => none
  | _, _ => none
def constVal (E : Env) (t : TypeId) : Value → Option AVal
  | .int k n => some (.c (.int k n))
  | .bool b => some (.c (.bool b))
  | .string s => some (.c (.str s))
  | .slice none 0 0 => match E.ty t with | some (.sl e u) => some (.c (.nil e u)) | _ => none
  | .agg cs => match E.ty t with
    | some u => (match constCells u cs.toList with | some (l, []) => some (.cp (.agg l)) | _ => none)
    | none => none
  | .func (.func f) first caps => bif first.size == 0 && caps.size == 0 then some (.c (.fn f [])) else none
  | _ => none
def St.opnd (E : Env) (s : St) (t : TypeId) : Operand → Option AVal
  | .tmp n => match get s.tmps n with | some (.cp c) => some (.cp c) | some (.tup l) => some (.tup l) | _ => none
  | .const v => constVal E t v
  | .func f => some (.c (.fn f []))
  | .global _ => none
def St.put (s : St) (d : Option Tmp) (v : AVal) : St := match d with | some d => { s with tmps := ins d v s.tmps } | none => s

/-- Values held against each other. -/
def eqT : (t : Ty) → t.den → t.den → Option Bool
  | .int _, x, y => some (ieq x y)
  | .bool, x, y => some (beq_ x y)
  | .str, x, y => some (seq_ x y)
  | .unit, _, _ => some true
  | .pair a b, x, y => match eqT a x.1 y.1, eqT b x.2 y.2 with | some p, some q => some (and_ p q) | _, _ => none
  | _, _, _ => none

end Go.Proofs.Ytigkodlbjimikaa.Vc
