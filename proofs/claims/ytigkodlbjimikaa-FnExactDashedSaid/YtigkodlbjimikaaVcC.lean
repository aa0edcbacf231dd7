/- Calls and runs of the reading. -/
import Derived.Test.YtigkodlbjimikaaVcB
namespace Go.Proofs.Ytigkodlbjimikaa.Vc
open Go Go.RowKit
set_option linter.unusedVariables false

/-! ### what a function takes and answers -/
/-- One cell: a plain one, a region of its own, a slice that stays. -/
inductive CSh where
  | val (t : Ty)
  | own (e : TypeId) (t : Ty)
  | view (e : TypeId) (t : Ty)
@[reducible] def CSh.ty : CSh → Ty
  | .val t => t
  | .own e t => .sl e t
  | .view e t => .sl e t
@[reducible] def rowTy : List CSh → Ty
  | [] => .unit
  | c :: l => .pair c.ty (rowTy l)
inductive Par where
  /-- a value, its slices lent -/
  | val (t : Ty)
  /-- a slice that is handed over; back: it comes back with what it then holds -/
  | own (e : TypeId) (t : Ty) (back : Bool)
  /-- a variable's address: what it holds, and what it holds behind the call -/
  | box (tid : TypeId) (sh out : List CSh)
  /-- a struct, its own slices handed over -/
  | agg (sh : List CSh)
  /-- a function -/
  | fn (f : Nat) (caps : List Nat)
@[reducible] def Par.ty : Par → Ty
  | .val t => t
  | .own e t _ => .sl e t
  | .box _ sh _ => rowTy sh
  | .agg sh => rowTy sh
  | .fn _ _ => .unit
@[reducible] def parsTy : List Par → Ty
  | [] => .unit
  | p :: l => .pair p.ty (parsTy l)
/-- What comes back of a parameter. -/
@[reducible] def Par.outTy : Par → Ty
  | .own e t true => .sl e t
  | .box _ _ out => rowTy out
  | _ => .unit
@[reducible] def outsTy : List Par → Ty
  | [] => .unit
  | p :: l => .pair p.outTy (outsTy l)
inductive RSh where
  | one (c : CSh)
  | agg (l : List CSh)
@[reducible] def RSh.ty : RSh → Ty
  | .one c => c.ty
  | .agg l => rowTy l
@[reducible] def ressTy : List RSh → Ty
  | [] => .unit
  | p :: l => .pair p.ty (ressTy l)
structure Sig where
  f : FuncId
  pars : List Par
  res : List RSh
@[reducible] def Sig.arg (g : Sig) : Type := (parsTy g.pars).den
@[reducible] def Sig.ans (g : Sig) : Type := (ressTy g.res).den × (outsTy g.pars).den

/-! ### entering -/
def rowCells (s : St) (b : Nat) : (l : List CSh) → Nat → (rowTy l).den → St × List Cell
  | [], _, _ => (s, [])
  | .val t :: l, o, x => let r := rowCells s b l (o + 1) x.2; (r.1, vcells t x.1 ++ r.2)
  | .view e t :: l, o, x => let r := rowCells s b l (o + 1) x.2; (r.1, .view e t x.1 :: r.2)
  | .own e t :: l, o, x => let r := rowCells s b l (o + 1) x.2; (r.1.setReg (boxLab b o) ⟨e, t, x.1, 0⟩, .own (boxLab b o) :: r.2)
def enter (s : St) : (l : List Par) → Nat → (parsTy l).den → St
  | [], _, _ => s
  | .val t :: l, i, x => match compOf t (vcells t x.1) with
    | some c => enter (s.put (some i) (.cp c)) l (i + 1) x.2
    | none => enter s l (i + 1) x.2
  | .own e t _ :: l, i, x => enter ((s.setReg (homeLab i) ⟨e, t, x.1, i + 1⟩).put (some i) (.c (.own (homeLab i)))) l (i + 1) x.2
  | .box tid sh _ :: l, i, x => let r := rowCells s i sh 0 x.1; enter ((r.1.setBox i ⟨tid, r.2⟩).put (some i) (.c (.ptr i 0))) l (i + 1) x.2
  | .agg sh :: l, i, x => let r := rowCells s i sh 0 x.1; enter (r.1.put (some i) (.cp (.agg r.2))) l (i + 1) x.2
  | .fn f caps :: l, i, x => enter (s.put (some i) (.c (.fn f caps))) l (i + 1) x.2

/-! ### leaving -/
/-- Cells by their shapes: what they tell, and the regions that go out with them (owned) and those that are but looked at. -/
def outCells (s : St) : (l : List CSh) → List Cell → Option ((rowTy l).den × List Nat × List Nat)
  | [], [] => some ((), [], [])
  | .val t :: l, c :: cs => match bif t.deep then none else s.read t [c], outCells s l cs with
    | some (x, []), some (y, o, v) => some ((x, y), o, v)
    | _, _ => none
  | .own e t :: l, c :: cs => match s.slice c, outCells s l cs with
    | some ⟨e', t', xs⟩, some (y, o, v) => bif e == e' then (match cast (.sl e t') (.sl e t) xs, c with
      | some x, .own r => some ((x, y), r :: o, v)
      | some x, .sub r true _ _ => some ((x, y), r :: o, v)
      | some x, .nil _ _ => some ((x, y), o, v)
      | _, _ => none) else none
    | _, _ => none
  | .view e t :: l, c :: cs => match s.slice c, outCells s l cs with
    | some ⟨e', t', xs⟩, some (y, o, v) => bif e == e' then (match cast (.sl e t') (.sl e t) xs with
      | some x => some ((x, y), o, hangs [c] ++ v)
      | none => none) else none
    | _, _ => none
  | _, _ => none
def outComp (s : St) : (r : RSh) → Comp → Option (r.ty.den × List Nat × List Nat)
  | .one c, .one x => (outCells s [c] [x]).map fun r => (r.1.1, r.2)
  | .agg l, .agg cs => outCells s l cs
  | _, _ => none
def outRes (s : St) : (l : List RSh) → List Comp → Option ((ressTy l).den × List Nat × List Nat)
  | [], [] => some ((), [], [])
  | r :: l, c :: cs => match outComp s r c, outRes s l cs with
    | some (x, o, v), some (y, o', v') => some ((x, y), o ++ o', v ++ v')
    | _, _ => none
  | _, _ => none
def outPars (s : St) : (l : List Par) → Nat → Option ((outsTy l).den × List Nat × List Nat)
  | [], _ => some ((), [], [])
  | .own e t true :: l, i => match s.reg (homeLab i), outPars s l (i + 1) with
    | some g, some (y, o, v) => bif g.orig == i + 1 && g.e == e then (match cast (.sl e g.t) (.sl e t) g.xs with
      | some x => some ((x, y), homeLab i :: o, v)
      | none => none) else none
    | _, _ => none
  | .box tid _ out :: l, i => match get s.boxes i, outPars s l (i + 1) with
    | some b, some (y, o, v) => bif b.tid == tid then (match outCells s out b.cells with
      | some (x, o', v') => some ((x, y), o' ++ o, v' ++ v)
      | none => none) else none
    | _, _ => none
  | .own _ _ false :: l, i => (outPars s l (i + 1)).map fun r => (((), r.1), r.2)
  | .val _ :: l, i => (outPars s l (i + 1)).map fun r => (((), r.1), r.2)
  | .agg _ :: l, i => (outPars s l (i + 1)).map fun r => (((), r.1), r.2)
  | .fn _ _ :: l, i => (outPars s l (i + 1)).map fun r => (((), r.1), r.2)
def resComp (E : Env) (s : St) : ResultVar → Option Comp
  | .tmp t => match get s.tmps t with | some (.cp c) => some c | _ => none
  | .cell a t => match get s.tmps a, E.ty t with
    | some (.cp (.one (.ptr b 0))), some u => (get s.boxes b).bind fun x => bif x.cells.length == u.size then compOf u x.cells else none
    | _, _ => none
def resComps (E : Env) (s : St) : List ResultVar → Option (List Comp)
  | [] => some []
  | r :: l => match resComp E s r, resComps E s l with | some c, some cs => some (c :: cs) | _, _ => none
def noneOf (a b : List Nat) : Bool := a.all fun x => !(b.contains x)
def leave (E : Env) (g : Sig) (fn : Func) (s : St) : Option g.ans :=
  match resComps E s fn.results.toList with
  | some cs => (match outRes s g.res cs, outPars s g.pars 0 with
    | some (x, o, v), some (y, o', v') => bif nodup (o ++ o') && noneOf (o ++ o') (v ++ v') then some (x, y) else none
    | _, _ => none)
  | none => none

/-! ### calling -/
/-- What the call takes: the values, the regions that are handed over, those that are lent. -/
def inCells (s : St) : (l : List CSh) → List Cell → Option ((rowTy l).den × List Nat × List Nat)
  | [], [] => some ((), [], [])
  | .val t :: l, c :: cs => match bif t.deep then none else s.read t [c], inCells s l cs with
    | some (x, []), some (y, o, v) => some ((x, y), o, v)
    | _, _ => none
  | .own e t :: l, c :: cs => match s.slice c, inCells s l cs with
    | some ⟨e', t', xs⟩, some (y, o, v) => bif e == e' then (match cast (.sl e t') (.sl e t) xs, c with
      | some x, .own r => some ((x, y), r :: o, v)
      | some x, .nil _ _ => some ((x, y), o, v)
      | _, _ => none) else none
    | _, _ => none
  | .view e t :: l, c :: cs => match s.slice c, inCells s l cs with
    | some ⟨e', t', xs⟩, some (y, o, v) => bif e == e' then (match cast (.sl e t') (.sl e t) xs with
      | some x => some ((x, y), o, hangs [c] ++ v)
      | none => none) else none
    | _, _ => none
  | _, _ => none
def isAggC : Comp → Bool
  | .agg _ => true
  | .one _ => false
/-- The arguments, by the parameters. The third list: own regions that come back. -/
def inPars (s : St) : (l : List Par) → List AVal → Option ((parsTy l).den × List Nat × List Nat × List Nat)
  | [], [] => some ((), [], [], [])
  | .val t :: l, .cp c :: as => match bif isAggTy t == isAggC c then s.read t c.cells else none, inPars s l as with
    | some (x, []), some (y, o, v, b) => some ((x, y), o, hangs c.cells ++ v, b)
    | _, _ => none
  | .own e t back :: l, .cp (.one (.own r)) :: as => match s.reg r, inPars s l as with
    | some g, some (y, o, v, b) => bif g.e == e then (match cast (.sl e g.t) (.sl e t) g.xs with
      | some x => some ((x, y), r :: o, v, bif back then r :: b else b)
      | none => none) else none
    | _, _ => none
  | .own e t true :: l, .cp (.one (.inn r i off e' t')) :: as => match s.slice (.inn r i off e' t'), inPars s l as with
    | some ⟨_, u, xs⟩, some (y, o, v, b) => bif e == e' then (match cast (.sl e u) (.sl e t) xs with
      | some x => some ((x, y), r :: o, v, r :: b)
      | none => none) else none
    | _, _ => none
  | .box tid sh _ :: l, .cp (.one (.ptr b 0)) :: as => match get s.boxes b, inPars s l as with
    | some bx, some (y, o, v, bk) => bif bx.tid == tid then (match inCells s sh bx.cells with
      | some (x, o', v') => some ((x, y), o' ++ o, v' ++ v, bk)
      | none => none) else none
    | _, _ => none
  | .agg sh :: l, .cp (.agg cs) :: as => match inCells s sh cs, inPars s l as with
    | some (x, o', v'), some (y, o, v, b) => some ((x, y), o' ++ o, v' ++ v, b)
    | _, _ => none
  | .fn f caps :: l, .cp (.one (.fn f' caps')) :: as => bif f == f' && caps == caps' then (inPars s l as).map fun r => (((), r.1), r.2) else none
  | _, _ => none
def boxesOf : List AVal → List Nat
  | [] => []
  | .cp (.one (.ptr b 0)) :: l => b :: boxesOf l
  | _ :: l => boxesOf l
def rowView : List CSh → Bool
  | [] => false
  | .view _ _ :: _ => true
  | _ :: l => rowView l
def RSh.hasView : RSh → Bool
  | .one c => rowView [c]
  | .agg l => rowView l
def parHasView : Par → Bool
  | .box _ _ out => rowView out
  | _ => false
def Sig.hasView (g : Sig) : Bool := g.res.any RSh.hasView || g.pars.any parHasView
/-- Cells that come out of a call: new regions by the call's place. -/
def newCells (d : Nat) (s : St) : (l : List CSh) → Nat → (rowTy l).den → St × List Cell × Nat
  | [], j, _ => (s, [], j)
  | .val t :: l, j, x => let r := newCells d s l j x.2; (r.1, vcells t x.1 ++ r.2.1, r.2.2)
  | .view e t :: l, j, x => let r := newCells d s l j x.2; (r.1, .view e t x.1 :: r.2.1, r.2.2)
  | .own e t :: l, j, x => let r := newCells d (s.setReg (callLab d j) ⟨e, t, x.1, 0⟩) l (j + 1) x.2; (r.1, .own (callLab d j) :: r.2.1, r.2.2)
def newComps (d : Nat) (s : St) : (l : List RSh) → Nat → (ressTy l).den → St × List Comp × Nat
  | [], j, _ => (s, [], j)
  | .one c :: l, j, x => let r := newCells d s [c] j (x.1, ()); let q := newComps d r.1 l r.2.2 x.2; (q.1, (match r.2.1 with | [c] => .one c | cs => .agg cs) :: q.2.1, q.2.2)
  | .agg cs :: l, j, x => let r := newCells d s cs j x.1; let q := newComps d r.1 l r.2.2 x.2; (q.1, .agg r.2.1 :: q.2.1, q.2.2)
def newPars (d : Nat) (s : St) : (l : List Par) → List AVal → Nat → (outsTy l).den → St
  | .box tid _ out :: l, .cp (.one (.ptr b 0)) :: as, j, x => let r := newCells d s out j x.1; newPars d (r.1.setBox b ⟨tid, r.2.1⟩) l as r.2.2 x.2
  | .own e t true :: l, .cp (.one (.own r)) :: as, j, x => newPars d (s.setReg r ⟨e, t, x.1, match s.reg r with | some g => g.orig | none => 0⟩) l as j x.2
  | .own e t true :: l, .cp (.one (.inn r i off _ _)) :: as, j, x => newPars d (match s.reg r with
    | some g => (match innPut e t x.1 g.t off (lget g.xs i) with | some y => s.setReg r { g with xs := lset g.xs i y } | none => { s with regs := del r s.regs })
    | none => s) l as j x.2
  | .own _ _ false :: l, _ :: as, j, x => newPars d s l as j x.2
  | .val _ :: l, _ :: as, j, x => newPars d s l as j x.2
  | .agg _ :: l, _ :: as, j, x => newPars d s l as j x.2
  | .fn _ _ :: l, _ :: as, j, x => newPars d s l as j x.2
  | _, _, _, _ => s
def avalOf : List Comp → AVal
  | [c] => .cp c
  | l => .tup l
/-- The state when the call begins: what is handed over is gone, what is looked at stays if something that looks comes back. -/
def ready (g : Sig) (s : St) (own lent back : List Nat) : St :=
  let s1 := bif g.hasView then stillAll lent s else s
  let s2 := dropAll (own.filter fun x => !(back.contains x)) s1
  back.foldl (fun s r => s.map (noInn r)) s2
def labsFree (d : Nat) (s : St) : Bool := s.regs.all fun p => Nat.blt p.1 (callLab d 0) || Nat.ble (callLab d 1000) p.1
def dstOr (d : Option Tmp) : Nat := match d with | some d => d | none => 0
/-- The state behind a call. -/
def after (g : Sig) (d : Option Tmp) (s : St) (as : List AVal) (r : g.ans) : St :=
  let q := newComps (dstOr d) s g.res 0 r.1
  (newPars (dstOr d) q.1 g.pars as q.2.2 r.2).put d (avalOf q.2.1)
def opnds (E : Env) (s : St) : List Operand → List TypeId → Option (List AVal)
  | [], _ => some []
  | x :: l, ts => match s.opnd E (ts.headD 0) x, opnds E s l ts.tail with | some v, some vs => some (v :: vs) | _, _ => none
def fits : List Par → List AVal → Bool
  | [], [] => true
  | .fn f caps :: l, .cp (.one (.fn f' caps')) :: as => f == f' && caps == caps' && fits l as
  | .fn _ _ :: _, _ :: _ => false
  | _ :: l, _ :: as => fits l as
  | _, _ => false
def find (S : List Sig) (f : FuncId) (as : List AVal) : Nat → Option (Nat × Sig)
  | i => match S with
    | [] => none
    | g :: l => bif g.f == f && fits g.pars as then some (i, g) else find l f as (i + 1)
/-- What is called. -/
def callee (E : Env) (s : St) (c : Go.Call) : Option (FuncId × List AVal) :=
  match c.callee with
  | .value x => match cell? (s.opnd E 0 x), opnds E s c.args.toList c.argTypes.toList with
    | some (.fn f caps), some as => some (f, as ++ caps.map fun b => .c (.ptr b 0))
    | _, _ => none
  | _ => none

/-! ### loops begin anew: what is not read any more is forgotten, regions are told by where they lie -/
def keep {α : Type} (m : Nat) : List (Nat × α) → List (Nat × α)
  | [] => []
  | (k, v) :: l => bif (m >>> k) % 2 == 1 then (k, v) :: keep m l else keep m l
def ptrs : List Cell → List Nat
  | [] => []
  | .ptr b _ :: l => b :: ptrs l
  | .fn _ caps :: l => caps ++ ptrs l
  | _ :: l => ptrs l
def AVal.cells : AVal → List Cell
  | .cp c => c.cells
  | .tup l => l.flatMap Comp.cells
  | _ => []
def reach (boxes : List (Nat × Box)) : Nat → List Nat → List Nat → List Nat
  | 0, _, acc => acc
  | _, [], acc => acc
  | n + 1, b :: l, acc => bif acc.contains b then reach boxes n l acc else reach boxes n ((match get boxes b with | some x => ptrs x.cells | none => []) ++ l) (b :: acc)
def keepL {α : Type} (l : List Nat) : List (Nat × α) → List (Nat × α)
  | [] => []
  | (k, v) :: r => bif l.contains k then (k, v) :: keepL l r else keepL l r
/-- New names: (old, new), by the first place of a region's own cell. -/
def nameCells (f : Nat → Nat) : Nat → List Cell → List (Nat × Nat) → List (Nat × Nat)
  | _, [], m => m
  | o, .own r :: l, m => nameCells f (o + 1) l (bif (get m r).isSome then m else (r, f o) :: m)
  | o, _ :: l, m => nameCells f (o + 1) l m
def nameTmps : List (Nat × AVal) → List (Nat × Nat) → List (Nat × Nat)
  | [], m => m
  | (t, v) :: l, m => nameTmps l (nameCells (fun o => bif o == 0 then homeLab t else 200000000 + t * 1000 + o) 0 v.cells m)
def nameBoxes : List (Nat × Box) → List (Nat × Nat) → List (Nat × Nat)
  | [], m => m
  | (b, x) :: l, m => nameBoxes l (nameCells (boxLab b) 0 x.cells m)
def Cell.rename (m : List (Nat × Nat)) : Cell → Cell
  | .own r => match get m r with | some q => .own q | none => .bad
  | .sub r z lo n => match get m r with | some q => .sub q z lo n | none => .bad
  | .inn r i o e t => match get m r with | some q => .inn q i o e t | none => .bad
  | .eptr r i o => match get m r with | some q => .eptr q i o | none => .bad
  | c => c
def renameRegs (m : List (Nat × Nat)) : List (Nat × Reg) → List (Nat × Reg)
  | [] => []
  | (r, g) :: l => match get m r with | some q => ins q g (renameRegs m l) | none => renameRegs m l
/-- A nil slice is a region with nothing in it. -/
def nilTmps : List (Nat × AVal) → List (Nat × Reg) → List (Nat × AVal) × List (Nat × Reg)
  | [], r => ([], r)
  | (t, .cp (.one (.nil e u))) :: l, r => let q := nilTmps l (ins (300000000 + t) ⟨e, u, [], 0⟩ r); ((t, .c (.own (300000000 + t))) :: q.1, q.2)
  | x :: l, r => let q := nilTmps l r; (x :: q.1, q.2)
def nilCells (b : Nat) : Nat → List Cell → List (Nat × Reg) → List Cell × List (Nat × Reg)
  | _, [], r => ([], r)
  | o, .nil e u :: l, r => let q := nilCells b (o + 1) l (ins (400000000 + b * 1000 + o) ⟨e, u, [], 0⟩ r); (.own (400000000 + b * 1000 + o) :: q.1, q.2)
  | o, c :: l, r => let q := nilCells b (o + 1) l r; (c :: q.1, q.2)
def nilBoxes : List (Nat × Box) → List (Nat × Reg) → List (Nat × Box) × List (Nat × Reg)
  | [], r => ([], r)
  | (b, x) :: l, r => let p := nilCells b 0 x.cells r; let q := nilBoxes l p.2; ((b, { x with cells := p.1 }) :: q.1, q.2)
def noDup2 : List (Nat × Nat) → Bool
  | [] => true
  | (_, q) :: l => !(l.any fun x => x.2 == q) && noDup2 l
/-- Only these variables are left. -/
def capB (ks : List Nat) : Cell → Cell
  | .ptr b o => bif ks.contains b then .ptr b o else .bad
  | .fn f caps => bif caps.all fun b => ks.contains b then .fn f caps else .bad
  | c => c
def St.cut (m : Nat) (ks : List Nat) (s : St) : St := ⟨mapv (AVal.map (capB ks)) (keep m s.tmps), mapv (fun x => { x with cells := x.cells.map (capB ks) }) (keepL ks s.boxes), s.regs⟩
def St.nils (s : St) : St :=
  let a := nilTmps s.tmps s.regs
  let b := nilBoxes s.boxes a.2
  ⟨a.1, b.1, b.2⟩
def St.rename (names : List (Nat × Nat)) (s : St) : St := { (s.map (Cell.rename names)) with regs := renameRegs names s.regs }
/-- hs: the variables that came in. -/
def anew (hs : List Nat) (m : Nat) (s : St) : Option St :=
  let ks := reach s.boxes 1000 (hs ++ (keep m s.tmps).flatMap fun x => ptrs x.2.cells) []
  let s2 := (s.cut m ks).nils
  let names := nameBoxes s2.boxes (nameTmps s2.tmps [])
  bif noDup2 names && (hs.all fun b => ks.contains b) && (s.regs.all fun p => Nat.blt p.1 300000000) then some (s2.rename names) else none
def boxPars : List Par → Nat → List Nat
  | [], _ => []
  | .box _ _ _ :: l, i => i :: boxPars l (i + 1)
  | _ :: l, i => boxPars l (i + 1)

/-! ### the run -/
def firstRegion : Code → Option Nat
  | .region id _ _ => some id
  | .seq a b => match firstRegion a with | some r => some r | none => firstRegion b
  | .cond _ a b => match firstRegion a with | some r => some r | none => firstRegion b
  | .block _ c => firstRegion c
  | .loop c => firstRegion c
  | .scope c => firstRegion c
  | _ => none
structure Prog where
  E : Env
  S : List Sig
  H : Hints
  /-- what is read from a loop's head on: function, first region of the loop's body, the slots as bits -/
  live : List (Nat × List (Nat × Nat))
def Prog.liveAt (V : Prog) (f : Nat) (c : Code) : Nat := match get V.live f, firstRegion c with
  | some l, some r => (match get l r with | some m => m | none => 0)
  | _, _ => 0
def noSig : Sig := ⟨0, [], []⟩
@[reducible] def Prog.sig (V : Prog) (i : Nat) : Sig := V.S.getD i noSig
abbrev LoopF (V : Prog) (i : Nat) := Code → List Item → St → Option (V.sig i).ans
abbrev CallF (V : Prog) := (i : Nat) → (V.sig i).arg → Option (V.sig i).ans
/-! ### regions whose order is drawn -/
/-- Slots alone are moved. -/
def isM (o : Oper) : Bool := o.dst.isSome && match o.op with
  | .move _ => true
  | .assign _ => true
  | .extract _ _ => true
  | _ => false
def isStore (o : Oper) : Bool := match o.op with
  | .store _ _ _ => true
  | _ => false
/-- What moves whole regions, and leaves every variable but for them. -/
def isWildB (E : Env) (o : Oper) : Bool := match o.op with
  | .buildSlice t _ _ => match E.ty t with
    | some (.sl _ u) => u.deep
    | _ => false
  | .call { callee := .builtin .append, args := _, argTypes := _ } => true
  | _ => false
def isWild (E : Env) (o : Oper) : Bool := isStore o || isWildB E o
/-- What may be of a variable's address alone. -/
def isLoad (o : Oper) : Bool := o.dst.isSome && match o.op with
  | .load _ _ => true
  | .nilCheck _ => true
  | .fieldAddr _ _ _ => true
  | _ => false
def isCall (o : Oper) : Bool := match o.op with
  | .call { callee := .builtin _, args := _, argTypes := _ } => false
  | .call _ => true
  | _ => false
def maskOf (acc : List Nat) : List Edge → Nat
  | [] => 0
  | e :: l => bif Region.binds .any e then (1 <<< e.on) ||| acc.getD e.on 0 ||| maskOf acc l else maskOf acc l
/-- What comes before each operation, as bits. -/
def masks : List Oper → List Nat → List Nat
  | [], acc => acc
  | o :: l, acc => masks l (acc ++ [maskOf acc o.after.toList])
def bef (ms : List Nat) (i j : Nat) : Bool := (ms.getD j 0 >>> i) % 2 == 1
def edgesOk : List Oper → Nat → Bool
  | [], _ => true
  | o :: l, j => (o.after.toList.all fun e => !(Region.binds .any e) || Nat.blt e.on j) && edgesOk l (j + 1)
/-- Two operations that either order may have. -/
def pairOk (E : Env) (ops : Array Oper) (x y : Oper) : Bool := x.apart ops y && !(isCall x && isCall y) && (!(isWild E x || isWild E y) || ((isM x || isM y || (isLoad x && isWildB E y) || (isLoad y && isWildB E x)) && x.guard.isNone && y.guard.isNone))
def pairsOk (E : Env) (ops : Array Oper) (ms : List Nat) : Bool := (List.range ops.size).all fun j => (List.range j).all fun i => bef ms i j || pairOk E ops (ops.getD i default) (ops.getD j default)
def alone (n : Nat) (ms : List Nat) (j : Nat) : Bool := (List.range n).all fun i => i == j || bef ms i j || bef ms j i
/-- May a region whose order is drawn be read in the order of the text? -/
def drawOk (E : Env) (ops : Array Oper) (ms : List Nat) : Bool := edgesOk ops.toList 0 && pairsOk E ops ms
def flatSig (g : Sig) : Bool := !(g.hasView) && g.pars.all fun p => match p with
  | .val _ => true
  | .fn _ _ => true
  | _ => false
/-- The operation tells something new, and changes nothing that is there. -/
def quiet (V : Prog) (s : St) (o : Oper) : Bool := match o.op with
  | .move _ => true
  | .assign _ => true
  | .pick _ _ _ => true
  | .alloc _ => true
  | .box _ _ => true
  | .build _ _ => true
  | .buildSlice t _ _ => match V.E.ty t with
    | some (.sl _ u) => !u.deep
    | _ => false
  | .load t x => match V.E.ty t, cell? (s.opnd V.E 0 x) with
    | some u, some (.eptr r i off) => (match s.reg r with
      | some g => !(g.t.deep && !(V.H.inner.contains o.pos) && !((hangs (((ocells r i g.t 0 (lget g.xs i)).drop off).take u.size)).isEmpty))
      | none => false)
    | some _, some _ => true
    | _, _ => false
  | .nilCheck _ => true
  | .binOp _ _ _ _ _ => true
  | .unOp _ _ _ => true
  | .convert _ _ _ => true
  | .makeSlice _ _ _ => true
  | .slice _ _ _ _ none => true
  | .fieldAddr _ _ _ => true
  | .field _ _ _ => true
  | .indexAddr _ _ _ => true
  | .index _ _ _ => true
  | .extract _ _ => true
  | .makeFunc _ _ _ => true
  | .call c => match c.callee with
    | .builtin .len => true
    | .builtin .min => true
    | .builtin .max => true
    | .builtin _ => false
    | _ => match callee V.E s c with
      | some (f, as) => (match find V.S f as 0 with
        | some (ci, _) => flatSig (V.sig ci)
        | none => false)
      | none => false
  | _ => false

/-- A variable is read. -/
def isPtr : Option Cell → Bool
  | some (.ptr _ _) => true
  | _ => false
def ptrLoad (V : Prog) (s : St) (o : Oper) : Bool := match o.op with
  | .load _ x => isPtr (cell? (s.opnd V.E 0 x))
  | .nilCheck x => isPtr (cell? (s.opnd V.E o.type x))
  | .fieldAddr _ x _ => isPtr (cell? (s.opnd V.E 0 x))
  | _ => false
/-- p: must it read a variable; does any order leave it where it is. -/
def tagOk (V : Prog) (s : St) (o : Oper) (p : Bool × Bool) : Bool := (quiet V s o && (!p.1 || ptrLoad V s o)) || p.2

/-- One operation, a call among them; what comes behind it. -/
def doOp (V : Prog) (rf : CallF V) {α : Type} (s : St) (o : Oper) (next : St → Option α) : Option α :=
  match o.op with
  | .call c => (match c.callee with
    | .builtin _ => (match astep V.E V.H s o with
      | some (q, s') => bif q then next s' else none
      | none => none)
    | _ => (match callee V.E s c with
      | some (f, as) => (match find V.S f as 0 with
        | some (ci, _) => (match inPars s (V.sig ci).pars as with
          | some (x, own, lent, back) => bif nodup (own ++ boxesOf as) && noneOf own lent && labsFree (dstOr o.dst) (ready (V.sig ci) s own lent back) then
              (rf ci x).bind fun r => next (after (V.sig ci) o.dst (ready (V.sig ci) s own lent back) as r)
            else none
          | none => none)
        | none => none)
      | none => none))
  | _ => (match astep V.E V.H s o with
    | some (q, s') => bif q then next s' else none
    | none => none)
def dstOk (n : Nat) (o : Oper) : Bool := match o.dst with | some d => Nat.blt d n && Nat.blt d 10000 | none => true
/-- lone: the operations that any order leaves where they are. -/
def runOps (V : Prog) (rf : CallF V) (nt : Nat) (ops : Array Oper) (draw : Bool) (lone : Nat → Bool × Bool) {α : Type} : List Nat → St → (St → Option α) → Option α
  | [], s, next => next s
  | j :: l, s, next => match ops[j]? with
    | none => none
    | some o => bif dstOk nt o then (match o.guard with
        | some (g, want) => (match (ops[g]?).bind (·.dst) with
          | some d => (match get s.tmps d with
            | some (.cp (.one (.bool q))) =>
              (bif (bif want then q else not_ q) then
                (bif !draw || tagOk V (s.put (some d) (.c (.bool want))) o (lone j) then doOp V rf (s.put (some d) (.c (.bool want))) o (fun s' => runOps V rf nt ops draw lone l s' next) else none)
              else runOps V rf nt ops draw lone l ((s.put (some d) (.c (.bool (!want)))).put o.dst .und) next)
            | some .und => runOps V rf nt ops draw lone l (s.put o.dst .und) next
            | _ => none)
          | none => none)
        | none => bif !draw || tagOk V s o (lone j) then doOp V rf s o (fun s' => runOps V rf nt ops draw lone l s' next) else none) else none
def needPtr (E : Env) (ops : Array Oper) (ms : List Nat) (j : Nat) : Bool := isLoad (ops.getD j default) && (List.range ops.size).any fun i => !(i == j || bef ms i j || bef ms j i) && isWildB E (ops.getD i default)
def loneOf (E : Env) (ops : Array Oper) (ms : List Nat) (j : Nat) : Bool × Bool := (needPtr E ops ms j, isWild E (ops.getD j default) || alone ops.size ms j)

def exec (V : Prog) (i : Nat) (fn : Func) (rl : LoopF V i) (rf : CallF V) : Nat → List Item → St → Option (V.sig i).ans
  | 0, _, _ => none
  | n + 1, todo, s => match todo with
    | [] => leave V.E (V.sig i) fn s
    | .code c :: K => (match c with
      | .skip => exec V i fn rl rf n K s
      | .region _ ops draw => bif !draw || drawOk V.E ops (masks ops.toList []) then runOps V rf fn.ntmps ops draw (loneOf V.E ops (masks ops.toList [])) (List.range ops.size) s (fun s' => exec V i fn rl rf n K s') else none
      | .seq a b => exec V i fn rl rf n (.code a :: .code b :: K) s
      | .cond c a b => (match cell? (s.opnd V.E 0 c) with
        | some (.bool q) => bif q then exec V i fn rl rf n (.code a :: K) s else exec V i fn rl rf n (.code b :: K) s
        | _ => none)
      | .block id b => exec V i fn rl rf n (.code b :: .inBlock id :: K) s
      | .loop b => (match anew (boxPars (V.sig i).pars 0) (V.liveAt (V.sig i).f b) s with | some s' => rl b K s' | none => none)
      | .exit id => (match exitTo id K with | some K' => exec V i fn rl rf n K' s | none => none)
      | .ret => leave V.E (V.sig i) fn s
      | _ => none)
    | .inBlock _ :: K => exec V i fn rl rf n K s
    | .inLoop b :: K => (match anew (boxPars (V.sig i).pars 0) (V.liveAt (V.sig i).f b) s with | some s' => rl b K s' | none => none)
    | _ => none
def fuel : Nat := 1000000
abbrev Runs (V : Prog) := ((i : Nat) → LoopF V i) × CallF V
def runs0 (V : Prog) : Runs V := (fun _ _ _ _ => none, fun _ _ => none)
def runs1 (V : Prog) (r : Runs V) : Runs V :=
  (fun i b K s => match get V.E.funcs (V.sig i).f with
    | some fn => exec V i fn (r.1 i) r.2 fuel (.code b :: .inLoop b :: K) s
    | none => none,
   fun i x => match get V.E.funcs (V.sig i).f with
    | some fn => (match fn.body with
      | some c => exec V i fn (r.1 i) r.2 fuel [.code c] (enter ⟨[], [], []⟩ (V.sig i).pars 0 x)
      | none => none)
    | none => none)
def runs (V : Prog) : Nat → Runs V
  | 0 => runs0 V
  | k + 1 => runs1 V (runs V k)
def runL (V : Prog) (k : Nat) (i : Nat) : LoopF V i := (runs V k).1 i
def runF (V : Prog) (k : Nat) : CallF V := (runs V k).2

/-- Where a loop stands: its body, and what comes behind it. -/
def findLoop (r : Nat) : Code → List Item → Option (Code × List Item)
  | .seq a b, K => match findLoop r a (.code b :: K) with | some x => some x | none => findLoop r b K
  | .cond _ a b, K => match findLoop r a K with | some x => some x | none => findLoop r b K
  | .block id c, K => findLoop r c (.inBlock id :: K)
  | .loop c, K => match firstRegion c with
    | some q => bif q == r then some (c, K) else findLoop r c (.inLoop c :: K)
    | none => findLoop r c (.inLoop c :: K)
  | _, _ => none
def loopOf (V : Prog) (i r : Nat) : Code × List Item := match get V.E.funcs (V.sig i).f with
  | some fn => (match fn.body with
    | some c => (match findLoop r c [] with | some x => x | none => (.skip, []))
    | none => (.skip, []))
  | none => (.skip, [])

end Go.Proofs.Ytigkodlbjimikaa.Vc
