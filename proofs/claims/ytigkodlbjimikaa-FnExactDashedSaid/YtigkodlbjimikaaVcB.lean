/- Steps and runs of the reading: what each operation makes of the values, and what a function answers. -/
import Derived.Test.YtigkodlbjimikaaVcA
namespace Go.Proofs.Ytigkodlbjimikaa.Vc
open Go Go.RowKit
set_option linter.unusedVariables false

/-! ### all cells -/
def Comp.map (f : Cell → Cell) : Comp → Comp
  | .one c => .one (f c)
  | .agg cs => .agg (cs.map f)
def AVal.map (f : Cell → Cell) : AVal → AVal
  | .cp c => .cp (c.map f)
  | .tup l => .tup (l.map (Comp.map f))
  | .bad => .bad
  | .und => .und
def St.map (f : Cell → Cell) (s : St) : St := { s with tmps := mapv (AVal.map f) s.tmps, boxes := mapv (fun b => { b with cells := b.cells.map f }) s.boxes }
/-- What hangs on a region. -/
def Cell.of : Cell → Option Nat
  | .own r => some r
  | .sub r _ _ _ => some r
  | .inn r _ _ _ _ => some r
  | .eptr r _ _ => some r
  | _ => none
def Cell.drop (s : St) (r : Nat) (c : Cell) : Cell := match c.of with
  | some q => bif q == r then (match c with
    | .own _ => (match s.reg r with | some g => .gone (llen g.xs) | none => .bad)
    | _ => .bad) else c
  | none => c
/-- The region is gone. -/
def St.drop (r : Nat) (s : St) : St := { (s.map (Cell.drop s r)) with regs := del r s.regs }
def Cell.still (s : St) (r : Nat) (c : Cell) : Cell := match c.of with
  | some q => bif q == r then (match c with
    | .eptr _ i off => (match s.reg r with | some g => .vptr g.t (lget g.xs i) off | none => .bad)
    | c => (match s.slice c with | some ⟨e, t, xs⟩ => .view e t xs | none => .bad)) else c
  | none => c
/-- The region is not written from here on. -/
def St.still (r : Nat) (s : St) : St := { (s.map (Cell.still s r)) with regs := del r s.regs }
def St.setReg (s : St) (r : Nat) (g : Reg) : St := { s with regs := ins r g s.regs }
def St.setBox (s : St) (b : Nat) (x : Box) : St := { s with boxes := ins b x s.boxes }
def siteLab (d : Tmp) : Nat := 2 * d
def homeLab (t : Tmp) : Nat := 2 * t + 1
def boxLab (b o : Nat) : Nat := 100000 + b * 1000 + o
def callLab (d j : Nat) : Nat := 100000000 + d * 1000 + j

/-! ### what a value gives away: the regions of the slices in it -/
/-- Cells that go into a region of their own kind: each slice in them is a region's whole or nothing. -/
def gives : List Cell → Option (List Nat)
  | [] => some []
  | .own r :: l => (gives l).map (r :: ·)
  | .nil _ _ :: l => gives l
  | .int _ _ :: l => gives l
  | .bool _ :: l => gives l
  | .str _ :: l => gives l
  | _ => none
/-- The regions that cells hang on. -/
def hangs : List Cell → List Nat
  | [] => []
  | c :: l => match c.of with | some r => r :: hangs l | none => hangs l
def nodup : List Nat → Bool
  | [] => true
  | x :: l => !(l.contains x) && nodup l
def dropAll (l : List Nat) (s : St) : St := l.foldl (fun s r => s.drop r) s
def stillOne (s : St) (r : Nat) : St := bif (s.reg r).isSome then s.still r else s
def stillAll (l : List Nat) (s : St) : St := l.foldl stillOne s
def splice (cs : List Cell) (off n : Nat) (new : List Cell) : List Cell := cs.take off ++ new ++ cs.drop (off + n)

def noInn (r : Nat) (c : Cell) : Cell := match c with | .inn q _ _ _ _ => bif q == r then .bad else c | c => c
structure Hints where
  /-- rows (by place in the text) whose literals are still at once -/
  still : List String := []
  /-- rows at which slices in a region's elements are told by their place -/
  inner : List String := []

/-- A value's cells, put at a place. -/
def putCells (cs : List Cell) (off size : Nat) (new : List Cell) : Option (List Cell) := bif new.length == size && Nat.ble (off + size) cs.length then some (splice cs off size new) else none
/-- The elements of a literal, put one by one. -/
def fillCells (size : Nat) (s : St) (E : Env) (te : TypeId) : List (Nat × Operand) → List Cell → Option (List Cell)
  | [], cs => some cs
  | (i, x) :: l, cs => match s.opnd E te x with
    | some (.cp c) => (match putCells cs (i * size) size c.cells with | some cs' => fillCells size s E te l cs' | none => none)
    | _ => none
def fillFields (s : St) (E : Env) (fl : List (Nat × TypeId)) : List (Nat × Operand) → List Cell → Option (List Cell)
  | [], cs => some cs
  | (i, x) :: l, cs => match fl[i]? with
    | some (off, tf) => (match E.ty tf, s.opnd E tf x with
      | some u, some (.cp c) => (match putCells cs off u.size c.cells with | some cs' => fillFields s E fl l cs' | none => none)
      | _, _ => none)
    | none => none
/-- Cells of n elements, as a list of values. -/
def readMany (s : St) (t : Ty) : Nat → List Cell → Option (List t.den)
  | 0, _ => some []
  | n + 1, cs => match s.read t cs with
    | some (x, l) => (match readMany s t n l with | some xs => some (x :: xs) | none => none)
    | none => none
def zmany (t : Ty) : Nat → List Cell
  | 0 => []
  | n + 1 => zcells t ++ zmany t n
def rooms (bytes : Nat) : Nat := 140737488355328 / bytes

/-! ### one operation -/
/-- What is asked, and the state behind it. -/
abbrev Out := Option (Bool × St)
def St.ok (s : St) (d : Option Tmp) (c : Cell) : Out := some (true, s.put d (.c c))
/-- The cells at a pointer, of a given size. -/
def St.at_ (E : Env) (H : Hints) (pos : String) (s : St) (size : Nat) (p : Cell) : Option (St × List Cell) := match p with
  | .ptr b off => (get s.boxes b).map fun x => (s, (x.cells.drop off).take size)
  | .vptr t x off => some (s, ((vcells t x).drop off).take size)
  | .eptr r i off => match s.reg r with
    | some g => bif g.t.deep && !(H.inner.contains pos) && !((hangs (((ocells r i g.t 0 (lget g.xs i)).drop off).take size)).isEmpty)
        then some (s.still r, ((vcells g.t (lget g.xs i)).drop off).take size)
        else some (s, ((ocells r i g.t 0 (lget g.xs i)).drop off).take size)
    | none => none
  | _ => none
def lset {t : Ty} (xs : List t.den) (i : Int) (x : t.den) : List t.den := xs.set i.toNat x
def slTy (E : Env) (t e : TypeId) (u : Ty) : Bool := match E.ty t with | some (.sl e0 u0) => e0 == e && decide (u0 = u) | _ => false
def append (E : Env) (s : St) (d : Option Tmp) (t : TypeId) (x y : Cell) : Out :=
  match d, s.slice x, s.slice y with
  | some dd, some ⟨e, u, xs⟩, some ⟨e', u', ys⟩ =>
    match cast (.sl e u') (.sl e u) ys, bif u.size == 0 || !(slTy E t e u) then none else get E.types e with
    | some ys, some ti =>
      match (bif u.deep then gives [y] else some []) with
      | some gv =>
        let s1 := dropAll gv s
        let zs : List u.den := lapp xs ys
        let c := ile (llen zs) (rooms ti.bytes : Nat)
        (match x with
        | .nil _ _ => bif (s.reg (siteLab dd)).isSome then none else some (c, (s1.setReg (siteLab dd) ⟨e, u, zs, 0⟩).put d (.c (.own (siteLab dd))))
        | .own r => bif gv.contains r then none else some (c, ((s1.drop r).setReg r ⟨e, u, zs, 0⟩).put d (.c (.own r)))
        | .sub r true _ _ => bif gv.contains r then none else some (c, ((s1.drop r).setReg r ⟨e, u, zs, 0⟩).put d (.c (.own r)))
        | _ => none)
      | none => none
    | _, _ => none
  | _, _, _ => none
def bounds_ (lo hi len : Int) : Bool := and_ (ile 0 lo) (and_ (ile lo hi) (ile hi len))
def intOf_ : Option AVal → Option Int
  | some (.cp (.one (.int _ n))) => some n
  | _ => none
def optInt (E : Env) (s : St) : Option Operand → Int → Option Int
  | none, d => some d
  | some x, _ => intOf_ (s.opnd E 0 x)
def sliceOp (E : Env) (s : St) (d : Option Tmp) (t : TypeId) (x : Operand) (lo hi : Option Operand) : Out :=
  match E.ty t, s.opnd E t x with
  | some .str, some (.cp (.one (.str b))) => (match optInt E s lo 0, optInt E s hi (slen b) with
    | some l, some h => some (bounds_ l h (slen b), s.put d (.c (.str (scut b l h))))
    | _, _ => none)
  | some (.sl _ w), some (.cp (.one c)) => (match s.slice c with
    | some ⟨e, u, xs⟩ => bif u.size == w.size then (match optInt E s lo 0, optInt E s hi (llen xs) with
      | some l, some h =>
        let q := bounds_ l h (llen xs)
        (match c with
        | .nil e u => some (q, s.put d (.c (.nil e u)))
        | .own r => some (q, s.put d (.c (.sub r lo.isNone l (isub h l))))
        | .view e u xs => some (q, s.put d (.c (.view e u (lcut xs l (isub h l)))))
        | _ => none)
      | _, _ => none) else none
    | none => none)
  | _, _ => none
def cells? : Option AVal → Option (List Cell)
  | some (.cp c) => some c.cells
  | _ => none
def cell? : Option AVal → Option Cell
  | some (.cp (.one c)) => some c
  | _ => none
def sameOp : Operand → Operand → Bool
  | .tmp a, .tmp b => a == b
  | _, _ => false
def capsOf (E : Env) (s : St) : List Operand → Option (List Nat)
  | [] => some []
  | x :: l => match cell? (s.opnd E 0 x), capsOf E s l with | some (.ptr b 0), some r => some (b :: r) | _, _ => none
/-- The least (or greatest) of numbers. -/
def numsOf (E : Env) (s : St) (t : TypeId) : List Operand → Option (List Int)
  | [] => some []
  | x :: l => match cell? (s.opnd E t x), numsOf E s t l with | some (.int .i64 n), some r => some (n :: r) | _, _ => none
def astep (E : Env) (H : Hints) (s : St) (o : Oper) : Out :=
  match o.op with
  | .move x => (s.opnd E o.type x).map fun v => (true, s.put o.dst v)
  | .assign x => (s.opnd E o.type x).map fun v => (true, s.put o.dst v)
  | .pick c a b => match cell? (s.opnd E 0 c) with
    | some (.bool q) => (match cell? (s.opnd E o.type a), cell? (s.opnd E o.type b) with
      | some (.bool x), some (.bool y) => s.ok o.dst (.bool (pickB q x y))
      | some (.int k x), some (.int k' y) => bif decide (k = k') then s.ok o.dst (.int k (pickI q x y)) else none
      | _, _ => (bif q then s.opnd E o.type a else s.opnd E o.type b).map fun v => (true, s.put o.dst v))
    | _ => none
  | .alloc t => match o.dst, E.ty t with
    | some d, some u => bif (get s.boxes d).isSome then none else some (true, (s.setBox d ⟨t, zcells u⟩).put o.dst (.c (.ptr d 0)))
    | _, _ => none
  | .box t x => match o.dst, cells? (s.opnd E t x) with
    | some d, some cs => bif (get s.boxes d).isSome then none else some (true, (s.setBox d ⟨t, cs⟩).put o.dst (.c (.ptr d 0)))
    | _, _ => none
  | .build t ps => match get E.types t with
    | some ti => (match ti.ty with
      | some u => bif isAggTy u then (fillFields s E ti.flds ps.toList (zcells u)).map fun cs => (true, s.put o.dst (.cp (.agg cs))) else none
      | none => none)
    | none => none
  | .buildSlice t n ps => match o.dst, E.ty t with
    | some d, some (.sl e u) => (match fillCells u.size s E e ps.toList (zmany u n) with
      | some cs => (match bif Nat.ble (n * u.size) 16777216 && Nat.ble n 16777216 then readMany s u n cs else none with
        | some xs =>
          bif !u.deep then (bif (s.reg (siteLab d)).isSome then none else some (true, (s.setReg (siteLab d) ⟨e, u, xs, 0⟩).put o.dst (.c (.own (siteLab d)))))
          else bif H.still.contains o.pos then some (true, (stillAll (hangs cs) s).put o.dst (.c (.view e u xs)))
          else (match gives cs with
            | some gv => bif nodup gv && !(s.reg (siteLab d)).isSome then some (true, ((dropAll gv s).setReg (siteLab d) ⟨e, u, xs, 0⟩).put o.dst (.c (.own (siteLab d)))) else none
            | none => some (true, (stillAll (hangs cs) s).put o.dst (.c (.view e u xs))))
        | none => none)
      | none => none)
    | _, _ => none
  | .load t a => match E.ty t, cell? (s.opnd E 0 a) with
    | some u, some p => (match s.at_ E H o.pos u.size p with
      | some (s', cs) => bif cs.length == u.size then (compOf u cs).map fun c => (true, s'.put o.dst (.cp c)) else none
      | none => none)
    | _, _ => none
  | .store t a x => match E.ty t, cell? (s.opnd E 0 a), cells? (s.opnd E t x) with
    | some u, some p, some new => bif new.length == u.size && o.dst.isNone then (match p with
      | .ptr b off => (match get s.boxes b with
        | some bx => bif Nat.ble (off + u.size) bx.cells.length then some (true, s.setBox b { bx with cells := splice bx.cells off u.size new }) else none
        | none => none)
      | .eptr r i off => (match s.reg r with
        | some g =>
          bif !(Nat.ble (off + u.size) g.t.size) then none else
          bif !g.t.deep then (match s.read g.t (splice (ocells r i g.t 0 (lget g.xs i)) off u.size new) with
            | some (y, []) => some (true, (s.map (noInn r)).setReg r { g with xs := lset g.xs i y })
            | _ => none)
          else (match gives new, s.read g.t (splice (ocells r i g.t 0 (lget g.xs i)) off u.size new) with
            | some gv, some (y, []) => bif nodup gv && !(gv.contains r) then some (true, ((dropAll gv s).map (noInn r)).setReg r { g with xs := lset g.xs i y }) else none
            | _, _ => none)
        | none => none)
      | _ => none) else none
    | _, _, _ => none
  | .nilCheck x => match cell? (s.opnd E o.type x) with
    | some (.ptr b off) => s.ok o.dst (.ptr b off)
    | some (.eptr r i off) => s.ok o.dst (.eptr r i off)
    | some (.vptr t x off) => s.ok o.dst (.vptr t x off)
    | some (.fn f cs) => s.ok o.dst (.fn f cs)
    | _ => none
  | .binOp op t x y ty => match s.opnd E t x, s.opnd E ty y with
    | some (.cp (.one (.int k a))), some (.cp (.one (.int k' b))) =>
      bif decide (k = k') || decide (op = .shl) || decide (op = .shr) then some ((intOp op k a b).1, s.put o.dst (.c (intOp op k a b).2)) else none
    | some (.cp (.one (.bool a))), some (.cp (.one (.bool b))) => (match op, E.ty t with
      | .eql, some .bool => s.ok o.dst (.bool (beq_ a b))
      | .neq, some .bool => s.ok o.dst (.bool (not_ (beq_ a b)))
      | _, _ => none)
    | some (.cp (.one (.str a))), some (.cp (.one (.str b))) => (match op with
      | .eql => s.ok o.dst (.bool (seq_ a b))
      | .neq => s.ok o.dst (.bool (not_ (seq_ a b)))
      | _ => none)
    | some (.cp (.agg a)), some (.cp (.agg b)) => (match get E.types t with
      | some ti => bif ti.eq then (match ti.ty with
        | some u => (match s.read u a, s.read u b with
          | some (x, []), some (y, []) => (match op, eqT u x y with
            | .eql, some q => s.ok o.dst (.bool q)
            | .neq, some q => s.ok o.dst (.bool (not_ q))
            | _, _ => none)
          | _, _ => none)
        | none => none) else none
      | none => none)
    | _, _ => none
  | .unOp op t x => match op, cell? (s.opnd E t x) with
    | .neg, some (.int k n) => s.ok o.dst (.int k (wr k (isub 0 n)))
    | .xor, some (.int k n) => s.ok o.dst (.int k (ibit .xor k (if k.signed then -1 else k.max) n))
    | .not, some (.bool b) => s.ok o.dst (.bool (not_ b))
    | _, _ => none
  | .convert a b x => match E.ty b, E.ty a, cell? (s.opnd E a x) with
    | some (.int k), some _, some (.int _ n) => s.ok o.dst (.int k (wr k n))
    | _, _, _ => none
  | .makeSlice t l c => match o.dst, E.ty t, cell? (s.opnd E 0 l) with
    | some d, some (.sl e u), some (.int _ n) => (match get E.types e with
      | some ti => bif sameOp l c && !(s.reg (siteLab d)).isSome then
          some (and_ (ile 0 n) (ile n (rooms ti.bytes : Nat)), (s.setReg (siteLab d) ⟨e, u, lrep n u.dflt, 0⟩).put o.dst (.c (.own (siteLab d)))) else none
      | none => none)
    | _, _, _ => none
  | .slice t x lo hi none => sliceOp E s o.dst t x lo hi
  | .fieldAddr st x f => match get E.types st, cell? (s.opnd E 0 x) with
    | some ti, some p => (match ti.flds[f]? with
      | some (fo, _) => (match p with
        | .ptr b off => s.ok o.dst (.ptr b (off + fo))
        | .eptr r i off => s.ok o.dst (.eptr r i (off + fo))
        | .vptr t x off => s.ok o.dst (.vptr t x (off + fo))
        | _ => none)
      | none => none)
    | _, _ => none
  | .field st x f => match get E.types st, s.opnd E st x with
    | some ti, some (.cp (.agg cs)) => (match ti.flds[f]? with
      | some (fo, tf) => (match E.ty tf with
        | some u => (compOf u ((cs.drop fo).take u.size)).map fun c => (true, s.put o.dst (.cp c))
        | none => none)
      | none => none)
    | _, _ => none
  | .indexAddr t x i => match E.ty t, cell? (s.opnd E t x), cell? (s.opnd E 0 i) with
    | some (.sl _ u), some c, some (.int _ n) => (match c with
      | .own r => (match s.reg r with
        | some g => bif g.t.size == u.size then some (and_ (ile 0 n) (ilt n (llen g.xs)), s.put o.dst (.c (.eptr r n 0))) else none
        | none => none)
      | .sub r z lo m => (match s.reg r with
        | some g => bif g.t.size == u.size then some (and_ (ile 0 n) (ilt n m), s.put o.dst (.c (.eptr r (iadd lo n) 0))) else none
        | none => none)
      | .view e u' xs => bif u'.size == u.size then some (and_ (ile 0 n) (ilt n (llen xs)), s.put o.dst (.c (.vptr u' (lget xs n) 0))) else none
      | .nil e u => some (false, s)
      | _ => none)
    | _, _, _ => none
  | .index t x i => match E.ty t, s.opnd E t x, cell? (s.opnd E 0 i) with
    | some .str, some (.cp (.one (.str b))), some (.int _ n) => some (and_ (ile 0 n) (ilt n (slen b)), s.put o.dst (.c (.int .u8 (sat b n))))
    | _, _, _ => none
  | .extract x i => match s.opnd E 0 x with
    | some (.tup l) => (l[i]?).map fun c => (true, s.put o.dst (.cp c))
    | _ => none
  | .makeFunc (.func f) first caps => bif first.size == 0 then (capsOf E s caps.toList).map fun l => (true, s.put o.dst (.c (.fn f l))) else none
  | .call { callee := .builtin b, args := as, argTypes := ts } => match b with
    | .len => match as[0]?, ts[0]? with
      | some x, some t => (match E.ty t, cell? (s.opnd E t x) with
        | some .str, some (.str b) => s.ok o.dst (.int .i64 (slen b))
        | some (.sl _ _), some c => (match s.slice c with | some ⟨_, _, xs⟩ => s.ok o.dst (.int .i64 (llen xs)) | none => (match c with | .gone n => s.ok o.dst (.int .i64 n) | _ => none))
        | _, _ => none)
      | _, _ => none
    | .append => match as.toList, ts.toList with
      | [x, y], [t, t'] => (match cell? (s.opnd E t x), cell? (s.opnd E t y) with
        | some x, some y => bif t == t' then append E s o.dst t x y else none
        | _, _ => none)
      | _, _ => none
    | .min => match numsOf E s o.type as.toList with
      | some (n :: l) => s.ok o.dst (.int .i64 (l.foldl imin n))
      | _ => none
    | .max => match numsOf E s o.type as.toList with
      | some (n :: l) => s.ok o.dst (.int .i64 (l.foldl imax n))
      | _ => none
    | _ => none
  | _ => none

end Go.Proofs.Ytigkodlbjimikaa.Vc
