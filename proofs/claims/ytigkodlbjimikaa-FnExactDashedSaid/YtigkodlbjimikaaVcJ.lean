/- Operations by the machine and by the reading: types, fields, places, literals. -/
import Derived.Test.YtigkodlbjimikaaVcI
namespace Go.Proofs.Ytigkodlbjimikaa.Vc
open Go Go.RowKit
set_option linter.unusedVariables false
set_option linter.unusedSimpArgs false

section
variable {P : Program} {E : Env} {C : Ctx} {G : Gh} {s : St} {a : Act} {w : World}

/-! ### types -/
structure TyFact (P : Program) (E : Env) (t : TypeId) (ti : TI) (u : Ty) : Prop where
  info : ∃ i z, P.info? t = some i ∧ i.zero = some z ∧ i.size = u.size ∧ i.bytes = ti.bytes ∧ z.cells.size = u.size ∧ zmatch u z.cells.toList = some []
  und : undOk P E t ti u (P.underlying t) = true
theorem EnvOk.fact (hE : EnvOk P E) {t : TypeId} {ti : TI} (h : get E.types t = some ti) {u : Ty} (hu : ti.ty = some u) : TyFact P E t ti u := by
  have hr := hE.types t ti h
  unfold tyRow at hr
  rw [hu] at hr
  replace hr := (Bool.and_eq_true _ _ ▸ hr : _ ∧ _).2
  simp only [] at hr
  cases hi : P.info? t with
  | none => rw [hi] at hr; cases hr
  | some i =>
    rw [hi] at hr
    simp only [] at hr
    cases hz : i.zero with
    | none => rw [hz] at hr; cases hr
    | some z =>
      rw [hz] at hr
      simp only [Bool.and_eq_true, beq_iff_eq, decide_eq_true_eq] at hr
      obtain ⟨⟨⟨⟨h1, h2⟩, h3⟩, h4⟩, h5⟩ := hr
      refine ⟨⟨i, z, hi, hz, h1, h2, h3, ?_⟩, h5⟩
      cases hm : zmatch u z.cells.toList with
      | none => rw [hm] at h4; cases h4
      | some l =>
        cases l with
        | nil => rfl
        | cons _ _ => rw [hm] at h4; cases h4
theorem EnvOk.ty (hE : EnvOk P E) {t : TypeId} {u : Ty} (h : E.ty t = some u) : ∃ ti, get E.types t = some ti ∧ ti.ty = some u ∧ TyFact P E t ti u := by
  unfold Env.ty at h
  cases hg : get E.types t with
  | none => rw [hg] at h; cases h
  | some ti => rw [hg] at h; exact ⟨ti, rfl, h, hE.fact hg h⟩
def aggDesc : TypeDesc → Bool
  | .struct _ => true
  | .array _ _ => true
  | _ => false
theorem TyFact.desc {t : TypeId} {ti : TI} {u : Ty} (h : TyFact P E t ti u) : ∃ d, P.underlying t = some d ∧ aggDesc d = isAggTy u := by
  have hu := h.und
  cases hd : P.underlying t with
  | none => rw [hd] at hu; cases hu
  | some d =>
    refine ⟨d, rfl, ?_⟩
    rw [hd] at hu
    cases d with
    | struct fs => simp only [undOk, Bool.and_eq_true] at hu; rw [hu.1.1]; rfl
    | _ => simp only [undOk, Bool.and_eq_true] at hu; replace hu := hu.2; cases u <;> simp_all [plainOk, isAggTy, aggDesc]
theorem TyFact.slice {t : TypeId} {ti : TI} {e : TypeId} {u : Ty} (h : TyFact P E t ti (.sl e u)) : P.underlying t = some (.slice e) ∧ E.ty e = some u := by
  have hu := h.und
  cases hd : P.underlying t with
  | none => rw [hd] at hu; cases hu
  | some d =>
    rw [hd] at hu
    cases d with
    | struct fs => simp [undOk, isAggTy] at hu
    | slice e' =>
      simp only [undOk, plainOk, Bool.and_eq_true, beq_iff_eq] at hu
      obtain ⟨_, rfl, hu⟩ := hu
      cases hE : E.ty e with
      | none => rw [hE] at hu; cases hu
      | some u' => rw [hE] at hu; simp at hu; subst hu; exact ⟨rfl, rfl⟩
    | _ => simp [undOk, plainOk] at hu
theorem TyFact.int {t : TypeId} {ti : TI} {k : IntKind} (h : TyFact P E t ti (.int k)) : P.underlying t = some (.int k) := by
  have hu := h.und
  cases hd : P.underlying t with
  | none => rw [hd] at hu; cases hu
  | some d =>
    rw [hd] at hu
    cases d with
    | struct fs => simp [undOk, isAggTy] at hu
    | int k' => simp [undOk, plainOk] at hu; rw [hu.2]
    | _ => simp [undOk, plainOk] at hu
theorem TyFact.str {t : TypeId} {ti : TI} (h : TyFact P E t ti .str) : P.underlying t = some .string := by
  have hu := h.und
  cases hd : P.underlying t with
  | none => rw [hd] at hu; cases hu
  | some d =>
    rw [hd] at hu
    cases d with
    | struct fs => simp [undOk, isAggTy] at hu
    | string => rfl
    | _ => simp [undOk, plainOk] at hu
theorem run_isAgg {t : TypeId} {d : TypeDesc} (h : P.underlying t = some d) : (isAgg t).run P w = .ok (aggDesc d) w := by
  unfold isAgg
  rw [Sem.run_bind, run_underlying h, Result.andThen_ok]
  cases d <;> rfl
theorem run_size {t : TypeId} {i : TypeInfo} (h : P.info? t = some i) : (sizeOf t).run P w = .ok i.size w := by
  simp [sizeOf, typeInfo, h]
/-- A struct's field. -/
theorem TyFact.field {t : TypeId} {ti : TI} {u : Ty} (h : TyFact P E t ti u) {f fo : Nat} {tf : TypeId} (hf : ti.flds[f]? = some (fo, tf)) :
    ∃ fs fd uf i, P.underlying t = some (.struct fs) ∧ fs[f]? = some fd ∧ fd.offset = fo ∧ fd.type = tf ∧ E.ty tf = some uf ∧ P.info? tf = some i ∧ i.size = uf.size ∧ 0 < uf.size ∧ fo + uf.size ≤ u.size := by
  have hu := h.und
  cases hd : P.underlying t with
  | none => rw [hd] at hu; cases hu
  | some d =>
    rw [hd] at hu
    cases d with
    | struct fs =>
      simp only [undOk, Bool.and_eq_true, decide_eq_true_eq] at hu
      obtain ⟨⟨_, h2⟩, h3⟩ := hu
      rw [← h2] at hf
      rw [List.getElem?_map] at hf
      cases hfd : fs.toList[f]? with
      | none => rw [hfd] at hf; cases hf
      | some fd =>
        rw [hfd] at hf
        simp only [Option.map_some, Option.some.injEq, Prod.mk.injEq] at hf
        obtain ⟨rfl, rfl⟩ := hf
        have hm := List.all_eq_true.1 h3 fd (List.mem_of_getElem? hfd)
        cases hE : E.ty fd.type with
        | none => rw [hE] at hm; cases hm
        | some uf =>
          cases hi : P.info? fd.type with
          | none => rw [hE, hi] at hm; cases hm
          | some i =>
            rw [hE, hi] at hm
            simp only [Bool.and_eq_true, beq_iff_eq, decide_eq_true_eq, Nat.ble_eq] at hm
            exact ⟨fs, fd, uf, i, rfl, by rw [← Array.getElem?_toList]; exact hfd, rfl, rfl, rfl, rfl, hm.1.1, hm.1.2, hm.2⟩
    | _ => simp [undOk] at hu; rw [hu.1] at hf; cases hf
/-- What is put together of cells, is there as a value. -/
theorem compOf_ok {R : Nat → Option Reg} {u : Ty} {cs : List Cell} {c : Comp} (h : compOf u cs = some c) {arr : Array Value} (hc : Cells G R w cs arr.toList) : ∃ v, KRep G R w c v ∧ (isAggTy u = true → v = .agg arr) ∧ (isAggTy u = false → arr.toList = [v]) := by
  unfold compOf at h
  cases hu : isAggTy u with
  | true => rw [hu] at h; obtain rfl := Option.some.inj h; exact ⟨.agg arr, ⟨arr, rfl, hc⟩, (fun _ => rfl), (fun e => by cases e)⟩
  | false =>
    rw [hu] at h
    simp only [cond_false] at h
    split at h
    · obtain rfl := Option.some.inj h
      obtain ⟨v, l, e, h1, h2⟩ := hc
      rw [h2] at e
      exact ⟨v, h1, (fun e => by cases e), fun _ => e⟩
    · cases h
/-- A part of a struct. -/
theorem run_part {t : TypeId} {u : Ty} {ti : TI} (hf : TyFact P E t ti u) {cs : Array Value} {off : Nat} {c : Comp} {cells : List Cell} (hc : Cells G s.reg w cells cs.toList) (h : compOf u ((cells.drop off).take u.size) = some c) :
    ∃ v, (part t cs off).run P w = .ok v w ∧ KRep G s.reg w c v := by
  obtain ⟨d, hd, hagg⟩ := hf.desc
  obtain ⟨i, z, hi, _, hsz, _⟩ := hf.info
  have hsub := (hc.drop off).take u.size
  have e : (cs.extract off (off + u.size)).toList = (cs.toList.drop off).take u.size := by
    rw [Array.toList_extract, List.extract_eq_take_drop]; simp
  rw [← e] at hsub
  obtain ⟨v, hk, h1, h2⟩ := compOf_ok h hsub
  refine ⟨v, ?_, hk⟩
  unfold part
  rw [Sem.run_bind, run_isAgg hd, Result.andThen_ok, hagg]
  cases hu : isAggTy u with
  | true =>
    rw [if_pos rfl, Sem.run_bind, run_size hi, Result.andThen_ok, hsz, h1 hu]; rfl
  | false =>
    rw [if_neg (by simp)]
    have h3 := h2 hu
    rw [e] at h3
    have : cs[off]? = some v := by
      rw [← Array.getElem?_toList]
      have : ((cs.toList.drop off).take u.size)[0]? = some v := by rw [h3]; rfl
      rw [List.getElem?_take] at this
      split at this
      · rwa [List.getElem?_drop, Nat.add_zero] at this
      · cases this
    rw [this]; rfl
theorem op_field (hE : EnvOk P E) (h : Inv C G s a w) {o : Oper} (hd : ∀ t, o.dst = some t → t < C.nt) {H : Hints} {st : TypeId} {x : Operand} {f : Nat} (ho : o.op = .field st x f) {q : Bool} {s' : St} (hs : astep E H s o = some (q, s')) : OpOk P C s' a o w := by
  unfold astep at hs
  simp only [ho] at hs
  split at hs
  · rename_i ti cs hti hx
    have hx' := opnd_ok h hx
    obtain ⟨arr, hv, hc⟩ := hx'
    split at hs
    · rename_i fo tf hfl
      split at hs
      · rename_i u hu
        cases hcomp : compOf u ((cs.drop fo).take u.size) with
        | none => rw [hcomp] at hs; cases hs
        | some c =>
          rw [hcomp] at hs
          simp only [Option.map_some, Option.some.injEq, Prod.mk.injEq] at hs
          obtain ⟨_, rfl⟩ := hs
          obtain ⟨tif, _, _, hfact⟩ := hE.ty hu
          obtain ⟨v, hr, hk⟩ := run_part hfact hc hcomp
          cases hty : ti.ty with
          | none =>
            have hr := hE.types _ _ hti
            unfold tyRow at hr
            rw [hty] at hr
            simp at hr
            rw [hr.2] at hfl; cases hfl
          | some us =>
            obtain ⟨fs, fd, uf, i, h1, h2, h3, h4, _⟩ := (hE.fact hti hty).field hfl
            refine OpOk.put h hd (x := .cp c) hk ?_
            unfold execOp
            simp only [ho, hv]
            simp [Instr.field, run_underlying h1, h2, asAgg, h3, h4, hr]
      · cases hs
    · cases hs
  · cases hs
theorem add_none (g o n : Nat) : (⟨g, o, none⟩ : Addr).add n = ⟨g, o + n, none⟩ := by unfold Addr.add; split <;> simp_all
theorem EnvOk.flds (hE : EnvOk P E) {t : TypeId} {ti : TI} (hti : get E.types t = some ti) {f fo : Nat} {tf : TypeId} (hf : ti.flds[f]? = some (fo, tf)) : ∃ us, ti.ty = some us := by
  cases hty : ti.ty with
  | none =>
    have hr := hE.types _ _ hti
    unfold tyRow at hr
    rw [hty] at hr
    simp at hr
    rw [hr.2] at hf; cases hf
  | some us => exact ⟨us, rfl⟩
theorem ok_some {d : Option Tmp} {c : Cell} {q : Bool} {s' : St} (h : s.ok d c = some (q, s')) : q = true ∧ s' = s.put d (.c c) := by
  simp only [St.ok, Option.some.injEq, Prod.mk.injEq] at h
  exact ⟨h.1.symm, h.2.symm⟩
theorem op_fieldAddr (hE : EnvOk P E) (h : Inv C G s a w) {o : Oper} (hd : ∀ t, o.dst = some t → t < C.nt) {H : Hints} {st : TypeId} {x : Operand} {f : Nat} (ho : o.op = .fieldAddr st x f) {q : Bool} {s' : St} (hs : astep E H s o = some (q, s')) : OpOk P C s' a o w := by
  unfold astep at hs
  simp only [ho] at hs
  split at hs
  · rename_i ti p hti hx
    have hx' := cell_ok h hx
    split at hs
    · rename_i fo tf hfl
      obtain ⟨us, hty⟩ := hE.flds hti hfl
      obtain ⟨fs, fd, uf, i, h1, h2, h3, h4, _, hi, hsz, hpos, _⟩ := (hE.fact hti hty).field hfl
      have run : ∀ ad : Addr, a.eval x = .pointer (some ad) → (execOp a.eval o).run P w = .ok (.value (.pointer (some (ad.add fo)))) w := by
        intro ad hv
        unfold execOp
        simp only [ho, hv]
        simp [Instr.fieldAt, run_underlying h1, h2, Instr.sureAddr, fieldPlace, sizeOf, typeInfo, h4, hi, hsz, show ¬ uf.size = 0 by omega, h3]
      split at hs
      · rename_i b off
        obtain ⟨rfl, rfl⟩ := ok_some hs
        refine OpOk.put h hd ?_ (run _ hx'.2)
        exact ⟨hx'.1, by rw [add_none]⟩
      · rename_i r i' off
        obtain ⟨rfl, rfl⟩ := ok_some hs
        obtain ⟨g, gb, n, c, k1, k2, k3, k4, k5⟩ := hx'
        refine OpOk.put h hd ?_ (run _ k5)
        exact ⟨g, gb, n, c, k1, k2, k3, k4, by rw [add_none, Nat.add_assoc]⟩
      · rename_i t y off
        obtain ⟨rfl, rfl⟩ := ok_some hs
        obtain ⟨ad, cs, k1, k2, k3, k4⟩ := hx'
        refine OpOk.put h hd ?_ (run _ k1)
        exact ⟨ad, cs, by rw [add_add], k2, k3, k4⟩
      · cases hs
    · cases hs
  · cases hs
theorem op_nilCheck (h : Inv C G s a w) {o : Oper} (hd : ∀ t, o.dst = some t → t < C.nt) {H : Hints} {x : Operand} (ho : o.op = .nilCheck x) {q : Bool} {s' : St} (hs : astep E H s o = some (q, s')) : OpOk P C s' a o w := by
  unfold astep at hs
  simp only [ho] at hs
  split at hs
  · rename_i b off hx
    obtain ⟨rfl, rfl⟩ := ok_some hs
    have hx' := cell_ok h hx
    refine OpOk.put h hd (v := a.eval x) hx' ?_
    unfold execOp; simp [ho, hx'.2]
  · rename_i r i off hx
    obtain ⟨rfl, rfl⟩ := ok_some hs
    have hx' := cell_ok h hx
    refine OpOk.put h hd (v := a.eval x) hx' ?_
    obtain ⟨g, gb, n, c, k1, k2, k3, k4, k5⟩ := hx'
    unfold execOp; simp [ho, k5]
  · rename_i t y off hx
    obtain ⟨rfl, rfl⟩ := ok_some hs
    have hx' := cell_ok h hx
    refine OpOk.put h hd (v := a.eval x) hx' ?_
    obtain ⟨ad, cs, k1, k2, k3, k4⟩ := hx'
    unfold execOp; simp [ho, k1]
  · rename_i f cs hx
    obtain ⟨rfl, rfl⟩ := ok_some hs
    have hx' := cell_ok h hx
    refine OpOk.put h hd (v := a.eval x) hx' ?_
    unfold execOp; simp [ho, hx'.2, fnVal]
  · cases hs
theorem Comps.at_ {R : Nat → Option Reg} : ∀ {cs : List Comp} {vs : List Value} {i : Nat} {c : Comp}, Comps G R w cs vs → cs[i]? = some c → ∃ v, vs[i]? = some v ∧ KRep G R w c v
  | _ :: _, _, 0, _, h, hi => by obtain ⟨v, l, rfl, h1, _⟩ := h; simp at hi; subst hi; exact ⟨v, rfl, h1⟩
  | _ :: _, _, i + 1, _, h, hi => by obtain ⟨v, l, rfl, _, h2⟩ := h; exact h2.at_ (i := i) (by simpa using hi)
theorem op_extract (h : Inv C G s a w) {o : Oper} (hd : ∀ t, o.dst = some t → t < C.nt) {H : Hints} {x : Operand} {i : Nat} (ho : o.op = .extract x i) {q : Bool} {s' : St} (hs : astep E H s o = some (q, s')) : OpOk P C s' a o w := by
  unfold astep at hs
  simp only [ho] at hs
  split at hs
  · rename_i l hx
    cases hc : l[i]? with
    | none => rw [hc] at hs; cases hs
    | some c =>
      rw [hc] at hs
      simp only [Option.map_some, Option.some.injEq, Prod.mk.injEq] at hs
      obtain ⟨_, rfl⟩ := hs
      obtain ⟨vs, hv, hcs⟩ := opnd_ok h hx
      obtain ⟨v, hi, hk⟩ := hcs.at_ hc
      refine OpOk.put h hd (x := .cp c) hk ?_
      rw [Array.getElem?_toList] at hi
      unfold execOp; simp [ho, hv, Instr.extract, hi]
  · cases hs
theorem caps_ok (h : Inv C G s a w) : ∀ {xs : List Operand} {l : List Nat}, capsOf E s xs = some l → (∀ b ∈ l, G.pb b) ∧ xs.map a.eval = l.map fun b => Value.pointer (some ⟨G.blk b, 0, none⟩)
  | [], l, hl => by obtain rfl := Option.some.inj hl; exact ⟨fun b hb => (by cases hb), rfl⟩
  | x :: xs, l, hl => by
    unfold capsOf at hl
    split at hl
    · rename_i b r hx hr
      obtain rfl := Option.some.inj hl
      have hx' := cell_ok h hx
      obtain ⟨h1, h2⟩ := caps_ok h hr
      refine ⟨fun c hc => ?_, by rw [List.map_cons, List.map_cons, h2, hx'.2]⟩
      rcases List.mem_cons.1 hc with rfl | hc
      · exact hx'.1
      · exact h1 c hc
    · cases hl
theorem op_makeFunc (h : Inv C G s a w) {o : Oper} (hd : ∀ t, o.dst = some t → t < C.nt) {H : Hints} {f : FuncId} {first caps : Array Operand} (ho : o.op = .makeFunc (.func f) first caps) {q : Bool} {s' : St} (hs : astep E H s o = some (q, s')) : OpOk P C s' a o w := by
  unfold astep at hs
  simp only [ho] at hs
  cases hf : (first.size == 0) with
  | false => rw [hf] at hs; cases hs
  | true =>
    rw [hf] at hs
    obtain rfl : first = #[] := Array.eq_empty_of_size_eq_zero (beq_iff_eq.1 hf)
    simp only [cond_true] at hs
    cases hc : capsOf E s caps.toList with
    | none => rw [hc] at hs; cases hs
    | some l =>
      rw [hc] at hs
      simp only [Option.map_some, Option.some.injEq, Prod.mk.injEq] at hs
      obtain ⟨_, rfl⟩ := hs
      obtain ⟨h1, h2⟩ := caps_ok h hc
      refine OpOk.put h hd (x := .c (.fn f l)) (v := fnVal G f l) ⟨h1, rfl⟩ ?_
      have e : caps.map a.eval = (l.map fun b => Value.pointer (some ⟨G.blk b, 0, none⟩)).toArray := by
        apply Array.ext'; rw [Array.toList_map, h2]
      unfold execOp; simp [ho, Instr.makeFunc, fnVal, e]
theorem op_convert (hE : EnvOk P E) (h : Inv C G s a w) {o : Oper} (hd : ∀ t, o.dst = some t → t < C.nt) {H : Hints} {t1 t2 : TypeId} {x : Operand} (ho : o.op = .convert t1 t2 x) {q : Bool} {s' : St} (hs : astep E H s o = some (q, s')) : OpOk P C s' a o w := by
  unfold astep at hs
  simp only [ho] at hs
  split at hs
  · rename_i k u k' n hk hu hx
    obtain ⟨rfl, rfl⟩ := ok_some hs
    have hv : a.eval x = .int k' n := cell_ok h hx
    obtain ⟨ti, _, _, hf⟩ := hE.ty hk
    obtain ⟨ti', _, _, hf'⟩ := hE.ty hu
    obtain ⟨d, hd', _⟩ := hf'.desc
    refine OpOk.put h hd (x := .c (.int k (wr k n))) (v := .int k (wr k n)) rfl ?_
    unfold execOp
    simp only [ho, hv]
    simp [convert, run_underlying hd', run_underlying hf.int, Conv.intToInt, wr_eq]
  · cases hs
theorem op_unOp (h : Inv C G s a w) {o : Oper} (hd : ∀ t, o.dst = some t → t < C.nt) {H : Hints} {op : UnOp} {t : TypeId} {x : Operand} (ho : o.op = .unOp op t x) {q : Bool} {s' : St} (hs : astep E H s o = some (q, s')) : OpOk P C s' a o w := by
  unfold astep at hs
  simp only [ho] at hs
  split at hs
  · rename_i k n hx
    obtain ⟨rfl, rfl⟩ := ok_some hs
    have hv : a.eval x = .int k n := cell_ok h hx
    refine OpOk.put h hd (v := .int k (wr k (isub 0 n))) rfl ?_
    unfold execOp; simp [ho, hv, Op.unary, Op.intArith, wr_eq, isub]
  · rename_i k n hx
    obtain ⟨rfl, rfl⟩ := ok_some hs
    have hv : a.eval x = .int k n := cell_ok h hx
    refine OpOk.put h hd (v := .int k (ibit .xor k (if k.signed then -1 else k.max) n)) rfl ?_
    unfold execOp; simp [ho, hv, Op.unary, Op.intBits, bits, ibit]
  · rename_i b hx
    obtain ⟨rfl, rfl⟩ := ok_some hs
    have hv : a.eval x = .bool b := cell_ok h hx
    refine OpOk.put h hd (v := .bool (not_ b)) rfl ?_
    unfold execOp; simp [ho, hv, Op.unary, not_]
  · cases hs
end

end Go.Proofs.Ytigkodlbjimikaa.Vc
