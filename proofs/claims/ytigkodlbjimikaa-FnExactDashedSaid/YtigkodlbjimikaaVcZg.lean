/- Regions whose order is drawn: an operation that tells something new tells the same where more is told. -/
import Derived.Test.YtigkodlbjimikaaVcZf
namespace Go.Proofs.Ytigkodlbjimikaa.Vc
open Go Go.RowKit
set_option linter.unusedVariables false
set_option linter.unusedSimpArgs false

/-- What is told anew is the operation's own, and was not there. -/
structure Own (s : St) (o : Oper) (D : Delta) : Prop where
  tmps : ∀ x ∈ D.tmps, o.dst = some x.1
  boxes : ∀ x ∈ D.boxes, o.dst = some x.1 ∧ get s.boxes x.1 = none
  regs : ∀ x ∈ D.regs, ((isCall o = false ∧ ∃ d, o.dst = some d ∧ x.1 = siteLab d) ∨ (isCall o = true ∧ ∃ j, j < 1000 ∧ x.1 = callLab (dstOr o.dst) j)) ∧ s.reg x.1 = none
/-- Both tell the same. -/
def Par2 (s s1 : St) (o : Oper) (X Y : Out) : Prop := ∃ res : Option (Bool × Delta), X = res.map (fun p => (p.1, p.2.app s)) ∧ Y = res.map (fun p => (p.1, p.2.app s1)) ∧ ∀ p, res = some p → Own s o p.2
section
variable {s s1 : St} {o : Oper} {E : Env} {H : Hints} {T : Tmp → Prop}
theorem dl_own (s : St) (o : Oper) (v : AVal) : Own s o ⟨dl o.dst v, [], []⟩ := by
  refine ⟨fun x hx => ?_, fun x hx => (by cases hx), fun x hx => (by cases hx)⟩
  cases hd : o.dst with
  | none => rw [hd] at hx; cases hx
  | some d => rw [hd] at hx; obtain rfl := List.mem_singleton.1 hx; rfl
theorem Par2.put {q : Bool} {v : AVal} : Par2 s s1 o (some (q, s.put o.dst v)) (some (q, s1.put o.dst v)) :=
  ⟨some (q, ⟨dl o.dst v, [], []⟩), by simp [app_put], by simp [app_put], fun p hp => by obtain rfl := Option.some.inj hp; exact dl_own s o v⟩
theorem Par2.nil : Par2 s s1 o none none := ⟨none, rfl, rfl, fun p hp => by cases hp⟩
theorem Par2.map {x : Option AVal} : Par2 s s1 o (x.map fun v => (true, s.put o.dst v)) (x.map fun v => (true, s1.put o.dst v)) := by
  cases x with
  | none => exact .nil
  | some v => exact .put
theorem Par2.mapC {x : Option Comp} : Par2 s s1 o (x.map fun v => (true, s.put o.dst (.cp v))) (x.map fun v => (true, s1.put o.dst (.cp v))) := by
  cases x with
  | none => exact .nil
  | some v => exact .put
theorem Par2.mapF {α : Type} {x : Option α} {f : α → AVal} : Par2 s s1 o (x.map fun v => (true, s.put o.dst (f v))) (x.map fun v => (true, s1.put o.dst (f v))) := by
  cases x with
  | none => exact .nil
  | some v => exact .put
theorem Par2.cond {c : Bool} {X Y : Out} (h : Par2 s s1 o X Y) : Par2 s s1 o (bif c then X else none) (bif c then Y else none) := by
  cases c with
  | true => exact h
  | false => exact .nil
theorem Par2.same {q : Bool} : Par2 s s1 o (some (q, s)) (some (q, s1)) :=
  ⟨some (q, ⟨[], [], []⟩), rfl, rfl, fun p hp => by obtain rfl := Option.some.inj hp; exact ⟨fun x hx => (by cases hx), fun x hx => (by cases hx), fun x hx => (by cases hx)⟩⟩
theorem Par2.box {d : Tmp} (hd : o.dst = some d) (hn : get s.boxes d = none) {q : Bool} {x : Box} {v : AVal} : Par2 s s1 o (some (q, (s.setBox d x).put (some d) v)) (some (q, (s1.setBox d x).put (some d) v)) :=
  ⟨some (q, ⟨[(d, v)], [(d, x)], []⟩), rfl, rfl, fun p hp => by
    obtain rfl := Option.some.inj hp
    exact ⟨fun y hy => (by obtain rfl := List.mem_singleton.1 hy; exact hd), fun y hy => (by obtain rfl := List.mem_singleton.1 hy; exact ⟨hd, hn⟩), fun y hy => (by cases hy)⟩⟩
theorem Par2.reg {d : Tmp} (hd : o.dst = some d) (hc : isCall o = false) (hn : s.reg (siteLab d) = none) {q : Bool} {g : Reg} {v : AVal} : Par2 s s1 o (some (q, (s.setReg (siteLab d) g).put (some d) v)) (some (q, (s1.setReg (siteLab d) g).put (some d) v)) :=
  ⟨some (q, ⟨[(d, v)], [], [(siteLab d, g)]⟩), rfl, rfl, fun p hp => by
    obtain rfl := Option.some.inj hp
    exact ⟨fun y hy => (by obtain rfl := List.mem_singleton.1 hy; exact hd), fun y hy => (by cases hy), fun y hy => (by obtain rfl := List.mem_singleton.1 hy; exact ⟨.inl ⟨hc, d, hd, rfl⟩, hn⟩)⟩⟩
theorem par_binOp (hle : Le s s1 T) (hc : Closed s) {op : BinOp} {t ty : TypeId} {x y : Operand} (ho : o.op = .binOp op t x y ty) (hT : ∀ x ∈ o.op.operands, ∀ u, x = .tmp u → T u) : Par2 s s1 o (astep E H s o) (astep E H s1 o) := by
  rw [ho] at hT
  have ex := fun t => hle.opnd (E := E) (t := t) (hT x (by simp [Op.operands]))
  have ey := fun t => hle.opnd (E := E) (t := t) (hT y (by simp [Op.operands]))
  unfold astep
  simp only [ho, ex, ey]
  split
  · exact .cond .put
  · split
    · exact .put
    · exact .put
    · exact .nil
  · split
    · exact .put
    · exact .put
    · exact .nil
  · rename_i l1 l2 h1 h2
    have k1 := fun u => hle.read (t := u) (hc.opnd h1)
    have k2 := fun u => hle.read (t := u) (hc.opnd h2)
    simp only [AVal.cells, Comp.cells] at k1 k2
    simp only [k1, k2]
    split
    · refine .cond ?_
      split
      · split
        · split
          · exact .put
          · exact .put
          · exact .nil
        · exact .nil
      · exact .nil
    · exact .nil
  · exact .nil
theorem par_one (hle : Le s s1 T) (hc : Closed s) {c x y : Operand} (ho : (o.op = .move x ∨ o.op = .assign x) ∨ o.op = .pick c x y) (hT : ∀ x ∈ o.op.operands, ∀ u, x = .tmp u → T u) : Par2 s s1 o (astep E H s o) (astep E H s1 o) := by
  rcases ho with (ho | ho) | ho
  · rw [ho] at hT
    have ex := fun t => hle.opnd (E := E) (t := t) (hT x (by simp [Op.operands]))
    unfold astep
    simp only [ho, ex]
    exact .map
  · rw [ho] at hT
    have ex := fun t => hle.opnd (E := E) (t := t) (hT x (by simp [Op.operands]))
    unfold astep
    simp only [ho, ex]
    exact .map
  · rw [ho] at hT
    have ec := fun t => hle.opnd (E := E) (t := t) (hT c (by simp [Op.operands]))
    have ex := fun t => hle.opnd (E := E) (t := t) (hT x (by simp [Op.operands]))
    have ey := fun t => hle.opnd (E := E) (t := t) (hT y (by simp [Op.operands]))
    unfold astep
    simp only [ho, ec, ex, ey]
    split
    · split
      · exact .put
      · exact .cond .put
      · exact .map
    · exact .nil
theorem par_new (hle : Le s s1 T) (hc : Closed s) (hb : ∀ d, o.dst = some d → get s1.boxes d = get s.boxes d) {t : TypeId} {x : Operand} (ho : o.op = .alloc t ∨ o.op = .box t x) (hT : ∀ x ∈ o.op.operands, ∀ u, x = .tmp u → T u) : Par2 s s1 o (astep E H s o) (astep E H s1 o) := by
  rcases ho with ho | ho
  · unfold astep
    simp only [ho]
    cases hd : o.dst with
    | none => exact .nil
    | some d =>
      split
      · rename_i d' u e _
        obtain rfl : d = d' := Option.some.inj e
        rw [hb d hd]
        cases hg : get s.boxes d with
        | some y => exact .nil
        | none => exact .box hd hg
      · exact .nil
  · rw [ho] at hT
    have ex := fun t => hle.opnd (E := E) (t := t) (hT x (by simp [Op.operands]))
    unfold astep
    simp only [ho, ex]
    cases hd : o.dst with
    | none => exact .nil
    | some d =>
      split
      · rename_i d' u e _
        obtain rfl : d = d' := Option.some.inj e
        rw [hb d hd]
        cases hg : get s.boxes d with
        | some y => exact .nil
        | none => exact .box hd hg
      · exact .nil
theorem par_build (hle : Le s s1 T) (hc : Closed s) {t : TypeId} {ps : Array (Nat × Operand)} (ho : o.op = .build t ps) (hT : ∀ x ∈ o.op.operands, ∀ u, x = .tmp u → T u) : Par2 s s1 o (astep E H s o) (astep E H s1 o) := by
  rw [ho] at hT
  have ef := fun fl cs => hle.fillFields (E := E) (fl := fl) (ps := ps.toList) (cs := cs) (fun p hp u hu => hT p.2 (by simp only [Op.operands]; exact List.mem_toArray.2 (List.mem_map.2 ⟨p, hp, rfl⟩)) u hu)
  unfold astep
  simp only [ho, ef]
  split
  · split
    · exact .cond .mapF
    · exact .nil
  · exact .nil
theorem par_buildSlice (hle : Le s s1 T) (hc : Closed s) (hr : ∀ d, o.dst = some d → s1.reg (siteLab d) = s.reg (siteLab d)) {t : TypeId} {n : Nat} {ps : Array (Nat × Operand)} (ho : o.op = .buildSlice t n ps) (hq : ∀ e u, E.ty t = some (.sl e u) → u.deep = false) (hT : ∀ x ∈ o.op.operands, ∀ u, x = .tmp u → T u) : Par2 s s1 o (astep E H s o) (astep E H s1 o) := by
  have hcall : isCall o = false := by unfold isCall; rw [ho]
  rw [ho] at hT
  have ef := fun size te cs => hle.fillCells (E := E) (size := size) (te := te) (ps := ps.toList) (cs := cs) (fun p hp u hu => hT p.2 (by simp only [Op.operands]; exact List.mem_toArray.2 (List.mem_map.2 ⟨p, hp, rfl⟩)) u hu)
  unfold astep
  simp only [ho, ef]
  cases hd : o.dst with
  | none => exact .nil
  | some d =>
    split
    · rename_i d' e u ed hu
      obtain rfl : d = d' := Option.some.inj ed
      split
      · rename_i cs hcs
        have hm := hle.readMany (t := u) (n := n) (l := cs) (fillCells_ok hc (zmanyC u n) hcs)
        rw [hm]
        split
        · have hrd := hr d hd
          rw [hq e u hu]
          simp only [Bool.not_false, cond_true]
          rw [hrd]
          cases hg : s.reg (siteLab d) with
          | some y => exact .nil
          | none => exact .reg hd hcall hg
        · exact .nil
      · exact .nil
    · exact .nil
theorem par_makeSlice (hle : Le s s1 T) (hc : Closed s) (hr : ∀ d, o.dst = some d → s1.reg (siteLab d) = s.reg (siteLab d)) {t : TypeId} {l c : Operand} (ho : o.op = .makeSlice t l c) (hT : ∀ x ∈ o.op.operands, ∀ u, x = .tmp u → T u) : Par2 s s1 o (astep E H s o) (astep E H s1 o) := by
  have hcall : isCall o = false := by unfold isCall; rw [ho]
  rw [ho] at hT
  have el := fun t => hle.opnd (E := E) (t := t) (hT l (by simp [Op.operands]))
  unfold astep
  simp only [ho, el]
  cases hd : o.dst with
  | none => exact .nil
  | some d =>
    split
    · rename_i d' e u k n ed hu hn
      obtain rfl : d = d' := Option.some.inj ed
      split
      · rw [hr d hd]
        cases hg : s.reg (siteLab d) with
        | some y => simp only [Option.isSome_some, Bool.not_true, Bool.and_false, cond_false]; exact .nil
        | none => exact .cond (.reg hd hcall hg)
      · exact .nil
    · exact .nil
theorem par_load (hle : Le s s1 T) (hc : Closed s) {t : TypeId} {x : Operand} (ho : o.op = .load t x) (hq : ∀ u r i off g, E.ty t = some u → cell? (s.opnd E 0 x) = some (.eptr r i off) → s.reg r = some g → (g.t.deep && !(H.inner.contains o.pos) && !((hangs (((ocells r i g.t 0 (lget g.xs i)).drop off).take u.size)).isEmpty)) = false) (hT : ∀ x ∈ o.op.operands, ∀ u, x = .tmp u → T u) : Par2 s s1 o (astep E H s o) (astep E H s1 o) := by
  rw [ho] at hT
  have ex := fun t => hle.opnd (E := E) (t := t) (hT x (by simp [Op.operands]))
  unfold astep
  simp only [ho, ex]
  split
  · rename_i u p hu hp
    have hok := hc.cell hp
    cases p with
    | ptr b off =>
      simp only [St.at_, hle.boxE (hok.2.1 b off rfl)]
      cases get s.boxes b with
      | none => exact .nil
      | some y => exact .cond .mapF
    | vptr t' y off => exact .cond .mapF
    | eptr r i off =>
      have hrr := hok.1 r rfl
      simp only [St.at_, hle.regE hrr]
      obtain ⟨g, hg⟩ := Option.isSome_iff_exists.1 hrr
      rw [hg]
      simp only [hq u r i off g hu hp hg, cond_false]
      exact .cond .mapF
    | _ => exact .nil
  · exact .nil
theorem par_local (hle : Le s s1 T) (hc : Closed s) {t t' : TypeId} {x y : Operand} {op : UnOp} {f : Nat} (ho : o.op = .nilCheck x ∨ o.op = .unOp op t x ∨ o.op = .convert t t' x ∨ o.op = .fieldAddr t x f ∨ o.op = .field t x f ∨ o.op = .index t x y ∨ o.op = .extract x f) (hT : ∀ x ∈ o.op.operands, ∀ u, x = .tmp u → T u) : Par2 s s1 o (astep E H s o) (astep E H s1 o) := by
  rcases ho with ho | ho | ho | ho | ho | ho | ho
  · rw [ho] at hT
    have ex := fun t => hle.opnd (E := E) (t := t) (hT x (by simp [Op.operands]))
    unfold astep
    simp only [ho, ex]
    split <;> first | exact .put | exact .nil
  · rw [ho] at hT
    have ex := fun t => hle.opnd (E := E) (t := t) (hT x (by simp [Op.operands]))
    unfold astep
    simp only [ho, ex]
    split <;> first | exact .put | exact .nil
  · rw [ho] at hT
    have ex := fun t => hle.opnd (E := E) (t := t) (hT x (by simp [Op.operands]))
    unfold astep
    simp only [ho, ex]
    split <;> first | exact .put | exact .nil
  · rw [ho] at hT
    have ex := fun t => hle.opnd (E := E) (t := t) (hT x (by simp [Op.operands]))
    unfold astep
    simp only [ho, ex]
    split
    · split
      · split <;> first | exact .put | exact .nil
      · exact .nil
    · exact .nil
  · rw [ho] at hT
    have ex := fun t => hle.opnd (E := E) (t := t) (hT x (by simp [Op.operands]))
    unfold astep
    simp only [ho, ex]
    split
    · split
      · split
        · exact .mapF
        · exact .nil
      · exact .nil
    · exact .nil
  · rw [ho] at hT
    have ex := fun t => hle.opnd (E := E) (t := t) (hT x (by simp [Op.operands]))
    have ey := fun t => hle.opnd (E := E) (t := t) (hT y (by simp [Op.operands]))
    unfold astep
    simp only [ho, ex, ey]
    split <;> first | exact .put | exact .nil
  · rw [ho] at hT
    have ex := fun t => hle.opnd (E := E) (t := t) (hT x (by simp [Op.operands]))
    unfold astep
    simp only [ho, ex]
    split
    · exact .mapF
    · exact .nil
theorem par_indexAddr (hle : Le s s1 T) (hc : Closed s) {t : TypeId} {x i : Operand} (ho : o.op = .indexAddr t x i) (hT : ∀ x ∈ o.op.operands, ∀ u, x = .tmp u → T u) : Par2 s s1 o (astep E H s o) (astep E H s1 o) := by
  rw [ho] at hT
  have ex := fun t => hle.opnd (E := E) (t := t) (hT x (by simp [Op.operands]))
  have ei := fun t => hle.opnd (E := E) (t := t) (hT i (by simp [Op.operands]))
  unfold astep
  simp only [ho, ex, ei]
  split
  · rename_i e u c k n hu hcell hn
    have hok := hc.cell hcell
    cases c with
    | own r =>
      simp only [hle.regE (hok.1 r rfl)]
      split
      · exact .cond .put
      · exact .nil
    | sub r z lo m =>
      simp only [hle.regE (hok.1 r rfl)]
      split
      · exact .cond .put
      · exact .nil
    | view e' u' xs => exact .cond .put
    | nil e' u' => exact .same
    | _ => exact .nil
  · exact .nil
theorem par_slice (hle : Le s s1 T) (hc : Closed s) {t : TypeId} {x : Operand} {lo hi : Option Operand} (ho : o.op = .slice t x lo hi none) (hT : ∀ x ∈ o.op.operands, ∀ u, x = .tmp u → T u) : Par2 s s1 o (astep E H s o) (astep E H s1 o) := by
  rw [ho] at hT
  have ex := fun t => hle.opnd (E := E) (t := t) (hT x (by simp [Op.operands]))
  have el := fun d => hle.optInt (E := E) (x := lo) (d := d) (fun y hy => hT y (by subst hy; simp [Op.operands]))
  have eh := fun d => hle.optInt (E := E) (x := hi) (d := d) (fun y hy => hT y (by subst hy; simp [Op.operands]))
  unfold astep
  simp only [ho, sliceOp, ex, el, eh]
  split
  · split
    · exact .put
    · exact .nil
  · rename_i c hu hx
    have hs := hle.slice (hc.opnd hx c (by simp [AVal.cells, Comp.cells]))
    rw [hs]
    split
    · refine .cond ?_
      split
      · split <;> first | exact .put | exact .nil
      · exact .nil
    · exact .nil
  · exact .nil
theorem par_makeFunc (hle : Le s s1 T) (hc : Closed s) {f : Fn} {first caps : Array Operand} (ho : o.op = .makeFunc f first caps) (hT : ∀ x ∈ o.op.operands, ∀ u, x = .tmp u → T u) : Par2 s s1 o (astep E H s o) (astep E H s1 o) := by
  rw [ho] at hT
  have ec := hle.capsOf (E := E) (l := caps.toList) (fun x hx => hT x (by simp only [Op.operands]; exact Array.mem_append.2 (.inr (Array.mem_toList_iff.1 hx))))
  unfold astep
  simp only [ho]
  cases f with
  | func f => simp only [ec]; exact .cond .mapF
  | _ => exact .nil
theorem par_builtin (hle : Le s s1 T) (hc : Closed s) {b : Builtin} {as : Array Operand} {ts : Array TypeId} (hb : b = .len ∨ b = .min ∨ b = .max) (ho : o.op = .call { callee := .builtin b, args := as, argTypes := ts }) (hT : ∀ x ∈ o.op.operands, ∀ u, x = .tmp u → T u) : Par2 s s1 o (astep E H s o) (astep E H s1 o) := by
  rw [ho] at hT
  have hm : ∀ x ∈ as.toList, ∀ u, x = .tmp u → T u := fun x hx => hT x (by simp only [Op.operands, Call.operands]; first | exact Array.mem_toList_iff.1 hx | (simp; exact Array.mem_toList_iff.1 hx))
  have en := hle.numsOf (E := E) (t := o.type) (l := as.toList) hm
  rcases hb with rfl | rfl | rfl
  · unfold astep
    simp only [ho]
    split
    · rename_i x t hx ht
      have ex := fun t => hle.opnd (E := E) (t := t) (hm x (Array.mem_toList_iff.2 (Array.mem_of_getElem? hx)))
      rw [ex]
      split
      · exact .put
      · rename_i c hu hcell
        rw [hle.slice (hc.cell hcell)]
        split
        · exact .put
        · split <;> first | exact .put | exact .nil
      · exact .nil
    · exact .nil
  · unfold astep
    simp only [ho, en]
    split <;> first | exact .put | exact .nil
  · unfold astep
    simp only [ho, en]
    split <;> first | exact .put | exact .nil
end

end Go.Proofs.Ytigkodlbjimikaa.Vc
