/- One operation of numbers and slots, by the machine and by the reading. -/
import Derived.Test.YtigkodlbjimikaaVcH
import Derived.Laws.StructEq
import Derived.Laws.BitsAll
namespace Go.Proofs.Ytigkodlbjimikaa.Vc
open Go Go.RowKit
set_option linter.unusedVariables false
set_option linter.unusedSimpArgs false

/-! ### the tables are the program's -/
/-- The zero value's cells, by a type; what is left. -/
def zmatch : Ty → List Value → Option (List Value)
  | .int k, .int k' n :: l => bif decide (k = k') && decide (n = 0) then some l else none
  | .bool, .bool b :: l => bif b then none else some l
  | .str, .string s :: l => bif s.size == 0 then some l else none
  | .sl _ _, .slice none 0 0 :: l => some l
  | .unit, l => some l
  | .opq, .pointer none :: l => some l
  | .opq, .nilFunc :: l => some l
  | .pair a b, l => match zmatch a l with | some l' => zmatch b l' | none => none
  | _, _ => none
def plainOk (E : Env) : Ty → TypeDesc → Bool
  | .int k, .int k' => decide (k = k')
  | .bool, .bool => true
  | .str, .string => true
  | .sl e u, .slice e' => e == e' && (match E.ty e with | some u' => decide (u = u') | none => false)
  | .opq, .pointer _ => true
  | .opq, .func .. => true
  | _, _ => false
def undOk (P : Program) (E : Env) (t : TypeId) (ti : TI) (u : Ty) : Option TypeDesc → Bool
  | some (.struct fs) => isAggTy u && decide ((fs.toList.map fun f => (f.offset, f.type)) = ti.flds) &&
      fs.toList.all (fun f => match E.ty f.type, P.info? f.type with | some uf, some i => i.size == uf.size && decide (0 < uf.size) && Nat.ble (f.offset + uf.size) u.size | _, _ => false)
  | some d => ti.flds.isEmpty && plainOk E u d
  | none => false
/-- A struct's fields are plain cells, one behind the other. -/
def eqF (P : Program) (i : Nat) (f : Field) (t : Ty) : Bool := decide (f.name ≠ "_") && f.offset == i && (match t, P.underlying f.type with
  | .int k, some (.int k') => decide (k = k')
  | .bool, some .bool => true
  | .str, some .string => true
  | _, _ => false)
def eqFs (P : Program) : Nat → List Field → Ty → Bool
  | i, f :: fs, .pair t u => eqF P i f t && eqFs P (i + 1) fs u
  | i, [f], t => eqF P i f t
  | _, [], .unit => true
  | _, _, _ => false
def eqOk (P : Program) (t : TypeId) (u : Ty) : Bool := match P.underlying t with
  | some (.struct fs) => !(P.eqGuardType P.depth t) && !(P.stoodInHeld t) && eqFs P 0 fs.toList u
  | _ => false
def tyRow (P : Program) (E : Env) (t : TypeId) (ti : TI) : Bool :=
  (!ti.eq || (match ti.ty with | some u => eqOk P t u | none => false)) && match ti.ty with
  | none => ti.flds.isEmpty
  | some u => match P.info? t with
    | some i => (match i.zero with
      | some z => i.size == u.size && i.bytes == ti.bytes && decide (z.cells.size = u.size) && (match zmatch u z.cells.toList with | some [] => true | _ => false) && undOk P E t ti u (P.underlying t)
      | none => false)
    | none => false
structure EnvOk (P : Program) (E : Env) : Prop where
  types : ∀ t ti, get E.types t = some ti → tyRow P E t ti = true
  funcs : ∀ f fn, get E.funcs f = some fn → P.funcs[f]? = some fn ∧ (fn.name == "runtime.NumGoroutine") = false
theorem get_mem {α : Type} {n : Nat} {x : α} : ∀ {l : List (Nat × α)}, get l n = some x → (n, x) ∈ l
  | (k, v) :: l, h => by
    simp only [get] at h
    cases hk : (k == n) with
    | true => rw [hk] at h; obtain rfl := Option.some.inj h; obtain rfl : k = n := by simpa using hk
              exact List.mem_cons_self
    | false => rw [hk] at h; exact List.mem_cons_of_mem _ (get_mem h)

section
variable {P : Program} {E : Env} {C : Ctx} {G : Gh} {s : St} {a : Act} {w : World}
theorem constCells_ok {R : Nat → Option Reg} : ∀ (u : Ty) (vs : List Value) (cs : List Cell) (rest : List Value), constCells u vs = some (cs, rest) → ∃ pre, vs = pre ++ rest ∧ Cells G R w cs pre
  | .int k, vs, cs, rest, h => by
    rcases vs with _ | ⟨v, l⟩
    · simp [constCells] at h
    cases v <;> simp only [constCells] at h <;> try cases h
    rename_i k' n
    by_cases e : k = k'
    · subst e
      simp at h
      obtain ⟨rfl, rfl⟩ := h
      exact ⟨[.int k n], rfl, _, _, rfl, rfl, rfl⟩
    · simp [e] at h
  | .bool, vs, cs, rest, h => by
    rcases vs with _ | ⟨v, l⟩
    · simp [constCells] at h
    cases v <;> simp only [constCells] at h <;> try cases h
    exact ⟨[_], rfl, _, _, rfl, rfl, rfl⟩
  | .str, vs, cs, rest, h => by
    rcases vs with _ | ⟨v, l⟩
    · simp [constCells] at h
    cases v <;> simp only [constCells] at h <;> try cases h
    exact ⟨[_], rfl, _, _, rfl, rfl, rfl⟩
  | .sl e t, vs, cs, rest, h => by
    rcases vs with _ | ⟨v, l⟩
    · simp [constCells] at h
    cases v with
    | slice p n c =>
      cases p with
      | some p => simp [constCells] at h
      | none =>
        rcases n with _ | n
        · rcases c with _ | c
          · simp [constCells] at h
            obtain ⟨rfl, rfl⟩ := h
            exact ⟨[_], rfl, _, _, rfl, rfl, rfl⟩
          · simp [constCells] at h
        · simp [constCells] at h
    | _ => simp [constCells] at h
  | .unit, vs, cs, rest, h => by
    simp [constCells] at h
    obtain ⟨rfl, rfl⟩ := h
    exact ⟨[], rfl, rfl⟩
  | .opq, vs, cs, rest, h => by
    rcases vs with _ | ⟨v, l⟩
    · simp [constCells] at h
    cases v <;> simp [constCells] at h
  | .pair t u, vs, cs, rest, h => by
    simp only [constCells] at h
    cases h1 : constCells t vs with
    | none => rw [h1] at h; cases h
    | some r1 =>
      obtain ⟨x, l'⟩ := r1
      rw [h1] at h
      simp only [] at h
      cases h2 : constCells u l' with
      | none => rw [h2] at h; cases h
      | some r2 =>
        obtain ⟨y, l''⟩ := r2
        rw [h2] at h
        simp only [Option.some.injEq, Prod.mk.injEq] at h
        obtain ⟨rfl, rfl⟩ := h
        obtain ⟨p1, rfl, c1⟩ := constCells_ok t _ _ _ h1
        obtain ⟨p2, rfl, c2⟩ := constCells_ok u _ _ _ h2
        exact ⟨p1 ++ p2, by rw [List.append_assoc], c1.append c2⟩
/-- The zero value. -/
theorem zmatch_ok {R : Nat → Option Reg} : ∀ (u : Ty) (vs rest : List Value), zmatch u vs = some rest → ∃ pre, vs = pre ++ rest ∧ Cells G R w (zcells u) pre ∧ DRep w u u.dflt pre []
  | .int k, vs, rest, h => by
    rcases vs with _ | ⟨v, l⟩
    · simp [zmatch] at h
    cases v <;> simp only [zmatch] at h <;> try cases h
    rename_i k' n
    by_cases e : k = k' ∧ n = 0
    · obtain ⟨rfl, rfl⟩ := e
      simp at h
      subst h
      exact ⟨[.int k 0], rfl, ⟨_, _, rfl, rfl, rfl⟩, rfl, rfl⟩
    · rw [show (decide (k = k') && decide (n = 0)) = false by simpa using fun h1 h2 => e ⟨h1, h2⟩] at h; cases h
  | .bool, vs, rest, h => by
    rcases vs with _ | ⟨v, l⟩
    · simp [zmatch] at h
    cases v <;> simp only [zmatch] at h <;> try cases h
    rename_i b
    cases b
    · simp at h; subst h; exact ⟨[.bool false], rfl, ⟨_, _, rfl, rfl, rfl⟩, rfl, rfl⟩
    · cases h
  | .str, vs, rest, h => by
    rcases vs with _ | ⟨v, l⟩
    · simp [zmatch] at h
    cases v <;> simp only [zmatch] at h <;> try cases h
    rename_i b
    cases hb : (b.size == 0) with
    | false => rw [hb] at h; cases h
    | true =>
      rw [hb] at h
      have hb : b.size = 0 := beq_iff_eq.1 hb
      simp at h
      subst h
      have e : b = ByteArray.empty := by
        obtain ⟨⟨l⟩⟩ := b
        have : l = [] := List.eq_nil_of_length_eq_zero hb
        subst this; rfl
      subst e
      exact ⟨[.string ByteArray.empty], rfl, ⟨_, _, rfl, rfl, rfl⟩, rfl, rfl⟩
  | .sl e t, vs, rest, h => by
    rcases vs with _ | ⟨v, l⟩
    · simp [zmatch] at h
    cases v with
    | slice p n c =>
      cases p with
      | some p => simp [zmatch] at h
      | none =>
        rcases n with _ | n
        · rcases c with _ | c
          · simp [zmatch] at h
            subst h
            exact ⟨[_], rfl, ⟨_, _, rfl, rfl, rfl⟩, _, [], [], rfl, World.ownsRow_nil w 0 e t.size, rfl, rfl, rfl⟩
          · simp [zmatch] at h
        · simp [zmatch] at h
    | _ => simp [zmatch] at h
  | .unit, vs, rest, h => by
    simp [zmatch] at h
    subst h
    exact ⟨[], rfl, rfl, rfl, rfl⟩
  | .opq, vs, rest, h => by
    rcases vs with _ | ⟨v, l⟩
    · simp [zmatch] at h
    cases v with
    | pointer p =>
      cases p with
      | some p => simp [zmatch] at h
      | none => simp [zmatch] at h; subst h; exact ⟨[_], rfl, ⟨_, _, rfl, rfl, rfl⟩, ⟨_, rfl, rfl⟩, rfl⟩
    | nilFunc => simp [zmatch] at h; subst h; exact ⟨[_], rfl, ⟨_, _, rfl, rfl, rfl⟩, ⟨_, rfl, rfl⟩, rfl⟩
    | _ => simp [zmatch] at h
  | .pair t u, vs, rest, h => by
    simp only [zmatch] at h
    cases h1 : zmatch t vs with
    | none => rw [h1] at h; cases h
    | some l' =>
      rw [h1] at h
      obtain ⟨p1, rfl, c1, d1⟩ := zmatch_ok (R := R) t _ _ h1
      obtain ⟨p2, rfl, c2, d2⟩ := zmatch_ok (R := R) u _ _ h
      exact ⟨p1 ++ p2, by rw [List.append_assoc], c1.append c2, p1, p2, [], [], rfl, rfl, d1, d2⟩

/-! ### operands -/
theorem opnd_ok (h : Inv C G s a w) {t : TypeId} {x : Operand} {v : AVal} (hx : s.opnd E t x = some v) : ARep G s.reg w v (a.eval x) := by
  cases x with
  | tmp n =>
    simp only [St.opnd] at hx
    cases hg : get s.tmps n with
    | none => rw [hg] at hx; cases hx
    | some y =>
      rw [hg] at hx
      have := h.tmp n y hg
      cases y with
      | cp c => obtain rfl := Option.some.inj hx; exact this
      | tup l => obtain rfl := Option.some.inj hx; exact this
      | bad => cases hx
      | und => cases hx
  | const u =>
    show ARep G s.reg w v u
    simp only [St.opnd] at hx
    cases u with
    | int k n => obtain rfl := Option.some.inj hx; exact rfl
    | bool b => obtain rfl := Option.some.inj hx; exact rfl
    | string b => obtain rfl := Option.some.inj hx; exact rfl
    | slice p n c =>
      cases p with
      | some p => simp [constVal] at hx
      | none =>
        rcases n with _ | n
        · rcases c with _ | c
          · simp only [constVal] at hx
            cases hT : E.ty t with
            | none => rw [hT] at hx; cases hx
            | some u =>
              rw [hT] at hx
              cases u with
              | sl e u => obtain rfl := Option.some.inj hx; exact rfl
              | _ => cases hx
          · simp [constVal] at hx
        · simp [constVal] at hx
    | agg cs =>
      simp only [constVal] at hx
      cases hT : E.ty t with
      | none => rw [hT] at hx; cases hx
      | some u =>
        rw [hT] at hx
        simp only [] at hx
        cases hc : constCells u cs.toList with
        | none => rw [hc] at hx; cases hx
        | some r =>
          obtain ⟨l, rest⟩ := r
          rw [hc] at hx
          cases rest with
          | cons _ _ => cases hx
          | nil =>
            obtain rfl := Option.some.inj hx
            obtain ⟨pre, e, hp⟩ := constCells_ok (G := G) (w := w) (R := s.reg) u _ _ _ hc
            exact ⟨cs, rfl, by rw [e, List.append_nil]; exact hp⟩
    | func f first caps =>
      cases f with
      | func f =>
        simp only [constVal] at hx
        cases hb : (first.size == 0 && caps.size == 0) with
        | false => rw [hb] at hx; cases hx
        | true =>
          rw [hb] at hx
          simp only [Bool.and_eq_true, beq_iff_eq] at hb
          obtain rfl : first = #[] := Array.eq_empty_of_size_eq_zero hb.1
          obtain rfl : caps = #[] := Array.eq_empty_of_size_eq_zero hb.2
          obtain rfl := Option.some.inj hx
          exact ⟨fun b hb => (by cases hb), rfl⟩
      | _ => simp [constVal] at hx
    | _ => simp [constVal] at hx
  | global g => cases hx
  | func f => obtain rfl := Option.some.inj hx; exact ⟨fun b hb => (by cases hb), rfl⟩
theorem cell_ok (h : Inv C G s a w) {t : TypeId} {x : Operand} {c : Cell} (hx : cell? (s.opnd E t x) = some c) : CRep G s.reg w c (a.eval x) := by
  cases hv : s.opnd E t x with
  | none => rw [hv] at hx; cases hx
  | some v =>
    rw [hv] at hx
    cases v with
    | cp k =>
      cases k with
      | one c' => obtain rfl := Option.some.inj hx; exact opnd_ok h hv
      | agg cs => cases hx
    | _ => cases hx
theorem cells_ok (h : Inv C G s a w) {t : TypeId} {x : Operand} {cs : List Cell} (hx : cells? (s.opnd E t x) = some cs) : Cells G s.reg w cs (a.eval x).cells.toList ∧ ∀ v ∈ (a.eval x).cells.toList, v.oneCell' = true := by
  have one : ∀ {cs : List Cell} {vs : List Value}, Cells G s.reg w cs vs → ∀ v ∈ vs, v.oneCell' = true := by
    intro cs
    induction cs with
    | nil => intro vs h v hv; rw [h] at hv; cases hv
    | cons c cs ih =>
      intro vs hc v hv
      obtain ⟨u, l, rfl, h1, h2⟩ := hc
      rcases List.mem_cons.1 hv with rfl | hv
      · exact h.toCore.oneInn h1
      · exact ih h2 v hv
  have key : Cells G s.reg w cs (a.eval x).cells.toList := by
    cases hv : s.opnd E t x with
    | none => rw [hv] at hx; cases hx
    | some v =>
      have ho := opnd_ok h hv
      rw [hv] at hx
      cases v with
      | cp k =>
        obtain rfl : k.cells = cs := Option.some.inj hx
        cases k with
        | one c' =>
          have h1 := h.toCore.oneInn ho
          have e : (a.eval x).cells = #[a.eval x] := by
            generalize a.eval x = y at h1
            cases y <;> first | rfl | cases h1
          rw [e]
          exact ⟨_, _, rfl, ho, rfl⟩
        | agg cs => obtain ⟨arr, e, hc⟩ := ho; rw [e]; exact hc
      | _ => cases hx
  exact ⟨key, one key⟩

/-! ### operations -/
/-- The machine does the operation, and the state behind it is told. -/
def OpOk (P : Program) (C : Ctx) (s' : St) (a : Act) (o : Oper) (w : World) : Prop :=
  ∃ v w' G', ((execOp a.eval o).run P w = .ok (.value v) w' ∨ ((execOp a.eval o).run P w = .ok .skip w' ∧ v = undef)) ∧ Inv C G' s' (a.put o.dst v) w'
theorem Inv.putO (h : Inv C G s a w) {d : Option Tmp} (hd : ∀ t, d = some t → t < C.nt) {x : AVal} {v : Value} (hv : ARep G s.reg w x v) : Inv C G (s.put d x) (a.put d v) w := by
  cases d with
  | none => exact h
  | some t => exact h.put (hd t rfl) hv
theorem OpOk.put (h : Inv C G s a w) {o : Oper} (hd : ∀ t, o.dst = some t → t < C.nt) {x : AVal} {v : Value} (hv : ARep G s.reg w x v) (hr : (execOp a.eval o).run P w = .ok (.value v) w) : OpOk P C (s.put o.dst x) a o w :=
  ⟨v, w, G, .inl hr, h.putO hd hv⟩
theorem op_move (h : Inv C G s a w) {o : Oper} (hd : ∀ t, o.dst = some t → t < C.nt) {H : Hints} {x : Operand} (ho : o.op = .move x ∨ o.op = .assign x) {q : Bool} {s' : St} (hs : astep E H s o = some (q, s')) : OpOk P C s' a o w := by
  have e : astep E H s o = (s.opnd E o.type x).map fun v => (true, s.put o.dst v) := by unfold astep; rcases ho with ho | ho <;> simp [ho]
  rw [e] at hs
  cases hv : s.opnd E o.type x with
  | none => rw [hv] at hs; cases hs
  | some v =>
    rw [hv] at hs
    simp only [Option.map_some, Option.some.injEq, Prod.mk.injEq] at hs
    obtain ⟨_, rfl⟩ := hs
    refine OpOk.put h hd (opnd_ok h hv) ?_
    unfold execOp
    rcases ho with ho | ho <;> simp [ho]
theorem op_pick (h : Inv C G s a w) {o : Oper} (hd : ∀ t, o.dst = some t → t < C.nt) {H : Hints} {c x y : Operand} (ho : o.op = .pick c x y) {q : Bool} {s' : St} (hs : astep E H s o = some (q, s')) : OpOk P C s' a o w := by
  have run : ∀ b, a.eval c = .bool b → (execOp a.eval o).run P w = .ok (.value (if b then a.eval x else a.eval y)) w := fun b hb => by
    unfold execOp; simp [ho, hb, asBool]
  unfold astep at hs
  simp only [ho] at hs
  cases hc : cell? (s.opnd E 0 c) with
  | none => rw [hc] at hs; cases hs
  | some cc =>
    have hcr := cell_ok h hc
    rw [hc] at hs
    cases cc with
    | bool b =>
      have hb : a.eval c = .bool b := hcr
      simp only [] at hs
      have gen : (bif b then s.opnd E o.type x else s.opnd E o.type y).map (fun v => (true, s.put o.dst v)) = some (q, s') → OpOk P C s' a o w := by
        intro hs
        cases b with
        | true =>
          simp only [cond_true] at hs
          cases hv : s.opnd E o.type x with
          | none => rw [hv] at hs; cases hs
          | some v =>
            rw [hv] at hs
            simp only [Option.map_some, Option.some.injEq, Prod.mk.injEq] at hs
            obtain ⟨_, rfl⟩ := hs
            exact OpOk.put h hd (opnd_ok h hv) (run true hb)
        | false =>
          simp only [cond_false] at hs
          cases hv : s.opnd E o.type y with
          | none => rw [hv] at hs; cases hs
          | some v =>
            rw [hv] at hs
            simp only [Option.map_some, Option.some.injEq, Prod.mk.injEq] at hs
            obtain ⟨_, rfl⟩ := hs
            exact OpOk.put h hd (opnd_ok h hv) (run false hb)
      split at hs
      · rename_i x1 x2 u v hx hy
        simp only [St.ok, Option.some.injEq, Prod.mk.injEq] at hs
        obtain ⟨_, rfl⟩ := hs
        have hu : a.eval x = .bool u := cell_ok h hx
        have hv : a.eval y = .bool v := cell_ok h hy
        refine OpOk.put h hd ?_ (run b hb)
        show (if b then a.eval x else a.eval y) = _
        rw [hu, hv]; cases b <;> rfl
      · rename_i x1 x2 k u k' v hx hy
        have hu : a.eval x = .int k u := cell_ok h hx
        have hv : a.eval y = .int k' v := cell_ok h hy
        by_cases e : k = k'
        · subst e
          simp only [decide_true, cond_true, St.ok, Option.some.injEq, Prod.mk.injEq] at hs
          obtain ⟨_, rfl⟩ := hs
          refine OpOk.put h hd ?_ (run b hb)
          show (if b then a.eval x else a.eval y) = _
          rw [hu, hv]; cases b <;> rfl
        · simp [e] at hs
      · exact gen hs
    | _ => cases hs
theorem wr_eq (k : IntKind) (n : Int) : wr k n = k.wrap n := by
  cases k <;> first | rfl | (simp only [wr]; rw [IntKind.wrap_i64]; unfold wrap64; rfl)
/-- Two whole numbers. -/
theorem run_binInt {o : Oper} {op : BinOp} {t ty : TypeId} {x y : Operand} (ho : o.op = .binOp op t x y ty) {k k' : IntKind} {m n : Int} (hx : a.eval x = .int k m) (hy : a.eval y = .int k' n) (hk : k = k' ∨ op = .shl ∨ op = .shr) (hq : (intOp op k m n).1 = true) :
    ∃ v, (execOp a.eval o).run P w = .ok (.value v) w ∧ CRep G s.reg w (intOp op k m n).2 v := by
  unfold execOp
  simp only [ho, hx, hy]
  have sh : ∀ k', n < 0 → (intOp .shl k m n).1 = true → False := fun _ h1 h2 => by simp [intOp, ile] at h2; omega
  rcases hk with rfl | rfl | rfl
  · cases op <;> simp [eqGuard, binOp, Op.intArith, Op.intDiv, Op.intCmp, Op.shift, CRep, intOp, wr_eq, iadd, isub, imul, iquo, irem, ibit, ishl, ishr, ieq, ilt, ile, not_, shift] at hq ⊢
    case quo => simp [hq]
    case rem => simp [hq]
    case and => simp [Op.intBits, bits]
    case or => simp [Op.intBits, bits]
    case xor => simp [Op.intBits, bits]
    case andNot => simp [Op.intBits, bits]
    case shl => simp [show ¬ n < 0 by omega]
    case shr => simp [show ¬ n < 0 by omega]
    case neq => rfl
  · simp [eqGuard, binOp, Op.shift, CRep, intOp, wr_eq, ishl, ile, shift] at hq ⊢
    simp [show ¬ n < 0 by omega]
  · simp [eqGuard, binOp, Op.shift, CRep, intOp, wr_eq, ishr, ile, shift] at hq ⊢
    simp [show ¬ n < 0 by omega]
end

end Go.Proofs.Ytigkodlbjimikaa.Vc
