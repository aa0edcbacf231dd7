/- Operations by the machine and by the reading: cuts, new variables, structs written down, least and greatest, slices made. -/
import Derived.Test.YtigkodlbjimikaaVcL
namespace Go.Proofs.Ytigkodlbjimikaa.Vc
open Go Go.RowKit
set_option linter.unusedVariables false
set_option linter.unusedSimpArgs false

section
variable {P : Program} {E : Env} {C : Ctx} {G : Gh} {s : St} {a : Act} {w : World}

/-! ### cuts -/
def BndOk (a : Act) (x : Option Operand) (d l : Int) : Prop := (x = none ∧ l = d) ∨ ∃ y k, x = some y ∧ a.eval y = .int k l
theorem optInt_ok (h : Inv C G s a w) {x : Option Operand} {d l : Int} (hx : optInt E s x d = some l) : BndOk a x d l := by
  cases x with
  | none => exact .inl ⟨rfl, (Option.some.inj hx).symm⟩
  | some y =>
    refine .inr ⟨y, ?_⟩
    simp only [optInt] at hx
    cases hv : s.opnd E 0 y with
    | none => rw [hv] at hx; cases hx
    | some v =>
      rw [hv] at hx
      unfold intOf_ at hx
      split at hx
      · rename_i k n e
        obtain rfl := Option.some.inj hx
        obtain rfl := Option.some.inj e
        exact ⟨k, rfl, opnd_ok h hv⟩
      · cases hx
theorem run_bounds {q : Bool} {n c : Nat} {lo hi : Option Operand} {l h : Int} (hl : BndOk a lo 0 l) (hh : BndOk a hi n h) (h0 : 0 ≤ l) (h1 : l ≤ h) (h2 : h ≤ (n : Int)) (hc : n ≤ c) :
    (Instr.sliceBounds q n c (lo.map a.eval) (hi.map a.eval) none).run P w = .ok (l.toNat, h.toNat, c) w := by
  have eh : (h.toNat : Int) = h := Int.toNat_of_nonneg (by omega)
  rcases hl with ⟨rfl, rfl⟩ | ⟨x, k, rfl, hx⟩ <;> rcases hh with ⟨rfl, rfl⟩ | ⟨y, k', rfl, hy⟩
  · simp [Instr.sliceBounds]
  · simp [Instr.sliceBounds, run_sliceBound, hy, (by omega : 0 ≤ h), (by omega : h ≤ (c : Int))]
  · simp [Instr.sliceBounds, run_sliceBound, hx, h0, h1]
  · simp [Instr.sliceBounds, run_sliceBound, hx, hy, h0, h1, eh, (by omega : 0 ≤ h), (by omega : h ≤ (c : Int))]
theorem bounds_of {l h n : Int} (hb : bounds_ l h n = true) : 0 ≤ l ∧ l ≤ h ∧ h ≤ n := by
  unfold bounds_ at hb
  obtain ⟨b1, b2⟩ := and_of hb
  obtain ⟨b2, b3⟩ := and_of b2
  exact ⟨ile_of b1, ile_of b2, ile_of b3⟩
theorem op_slice (hE : EnvOk P E) (h : Inv C G s a w) {o : Oper} (hd : ∀ t, o.dst = some t → t < C.nt) {H : Hints} {t : TypeId} {x : Operand} {lo hi : Option Operand} (ho : o.op = .slice t x lo hi none) {q : Bool} {s' : St} (hs : astep E H s o = some (q, s')) (hq : q = true) : OpOk P C s' a o w := by
  unfold astep at hs
  simp only [ho] at hs
  unfold sliceOp at hs
  split at hs
  · rename_i b hu hx
    have hx' : a.eval x = .string b := opnd_ok h hx
    obtain ⟨ti, _, _, hf⟩ := hE.ty hu
    split at hs
    · rename_i l hh hl hh'
      simp only [Option.some.injEq, Prod.mk.injEq] at hs
      obtain ⟨h1, rfl⟩ := hs
      obtain ⟨b1, b2, b3⟩ := bounds_of (h1.trans hq)
      refine OpOk.put h hd (v := .string (scut b l hh)) rfl ?_
      unfold execOp
      simp only [ho, hx']
      have hb := run_bounds (P := P) (w := w) (q := false) (c := b.size) (optInt_ok h hl) (optInt_ok h hh') b1 b2 b3 (Nat.le_refl _)
      simp only [Option.map_none] at *
      simp [Instr.sliceAt, Instr.slice, run_underlying hf.str, hb, scut]
    · cases hs
  · rename_i e0 wt c hu hx
    have hx' : CRep G s.reg w c (a.eval x) := opnd_ok h hx
    obtain ⟨ti, _, _, hf⟩ := hE.ty hu
    obtain ⟨hund, hue⟩ := hf.slice
    obtain ⟨tie, _, _, hfe⟩ := hE.ty hue
    obtain ⟨inf, z, hinf, _, hsz, _⟩ := hfe.info
    split at hs
    · rename_i e u xs hsl
      cases hsize : (u.size == wt.size) with
      | false => rw [hsize] at hs; cases hs
      | true =>
        rw [hsize] at hs
        have hs2 : u.size = wt.size := beq_iff_eq.1 hsize
        simp only [cond_true] at hs
        split at hs
        · rename_i l hh hl hh'
          obtain ⟨A, cap, hv, hcap⟩ := slice_len h.toCore hx' hsl
          have run : bounds_ l hh (llen xs) = true → (execOp a.eval o).run P w = .ok (.value (.slice (if cap = l.toNat then A else A.map (·.add (l.toNat * u.size))) (isub hh l).toNat (cap - l.toNat))) w := by
            intro hb
            obtain ⟨b1, b2, b3⟩ := bounds_of hb
            have b3' : hh ≤ (xs.length : Int) := b3
            unfold execOp
            simp only [ho, hv]
            have hb := run_bounds (P := P) (w := w) (q := true) (c := cap) (optInt_ok h hl) (optInt_ok h hh') b1 b2 b3' hcap
            simp only [Option.map_none] at *
            have e1 : hh.toNat - l.toNat = (isub hh l).toNat := by unfold isub; omega
            simp [Instr.sliceAt, Instr.slice, run_underlying hund, hb, sizeOf, typeInfo, hinf, hsz, hs2, e1]
          split at hs
          · simp only [Option.some.injEq, Prod.mk.injEq] at hs
            obtain ⟨h1, rfl⟩ := hs
            simp only [St.slice, Option.some.injEq] at hsl
            cases hsl
            have hb := h1.trans hq
            obtain ⟨b1, b2, b3⟩ := bounds_of hb
            have b3 : hh ≤ 0 := b3
            have hv' : a.eval x = .slice none 0 0 := hx'
            rw [hv'] at hv
            obtain ⟨rfl, _, rfl⟩ : none = A ∧ 0 = 0 ∧ 0 = cap := by simpa using hv
            obtain rfl : l = 0 := by omega
            obtain rfl : hh = 0 := by omega
            exact OpOk.put h hd rfl (run hb)
          · rename_i r
            simp only [Option.some.injEq, Prod.mk.injEq] at hs
            obtain ⟨h1, rfl⟩ := hs
            have hb := h1.trans hq
            obtain ⟨b1, b2, b3⟩ := bounds_of hb
            have b3' : hh ≤ (xs.length : Int) := b3
            obtain ⟨g, hg, hroot⟩ := hx'
            simp only [St.slice, hg, Option.map_some, Option.some.injEq] at hsl
            cases hsl
            refine OpOk.put h hd ?_ (run hb)
            refine ⟨g, A, _, cap, hg, hroot.symm.trans hv, b1, by unfold isub; omega, by unfold isub; omega, fun hz => ?_, rfl⟩
            rcases optInt_ok h hl with ⟨_, rfl⟩ | ⟨y, k, rfl, _⟩
            · rfl
            · cases hz
          · rename_i e' u' xs' _
            simp only [Option.some.injEq, Prod.mk.injEq] at hs
            obtain ⟨h1, rfl⟩ := hs
            simp only [St.slice, Option.some.injEq] at hsl
            cases hsl
            have hb := h1.trans hq
            obtain ⟨b1, b2, b3⟩ := bounds_of hb
            have b3' : hh ≤ (xs.length : Int) := b3
            refine OpOk.put h hd ?_ (run hb)
            have hx'' : VRep G.I w (.sl e u) xs [a.eval x] := hx'
            rw [hv] at hx''
            exact hx''.cut b1 (by unfold isub; omega) (by unfold isub; omega)
          · cases hs
        · cases hs
    · cases hs
  · cases hs

/-! ### least and greatest -/
theorem numsOf_ok (h : Inv C G s a w) {t : TypeId} : ∀ {l : List Operand} {ns : List Int}, numsOf E s t l = some ns → l.map a.eval = ns.map (Value.int .i64)
  | [], ns, hn => by obtain rfl := Option.some.inj hn; rfl
  | x :: l, ns, hn => by
    unfold numsOf at hn
    split at hn
    · rename_i n r hx hr
      obtain rfl := Option.some.inj hn
      have : a.eval x = .int .i64 n := cell_ok h hx
      simp [this, numsOf_ok h hr]
    · cases hn
theorem run_mins : ∀ (l : List Int) (n : Int), ((l.map (Value.int .i64)).foldlM Builtin.min2 (.int .i64 n)).run P w = .ok (.int .i64 (l.foldl imin n)) w
  | [], n => by simp
  | m :: l, n => by
    simp only [List.map_cons, List.foldlM_cons, List.foldl_cons, Sem.run_bind, Builtin.min2, Sem.run_pure, Result.andThen_ok]
    exact run_mins l _
theorem run_maxs : ∀ (l : List Int) (n : Int), ((l.map (Value.int .i64)).foldlM Builtin.max2 (.int .i64 n)).run P w = .ok (.int .i64 (l.foldl imax n)) w
  | [], n => by simp
  | m :: l, n => by
    simp only [List.map_cons, List.foldlM_cons, List.foldl_cons, Sem.run_bind, Builtin.max2, Sem.run_pure, Result.andThen_ok]
    exact run_maxs l _
theorem op_minmax (h : Inv C G s a w) {o : Oper} (hd : ∀ t, o.dst = some t → t < C.nt) {H : Hints} {xs : Array Operand} {ts : Array TypeId} {b : Go.Builtin} (hb : b = .min ∨ b = .max) (ho : o.op = .call { callee := .builtin b, args := xs, argTypes := ts }) {q : Bool} {s' : St} (hs : astep E H s o = some (q, s')) : OpOk P C s' a o w := by
  unfold astep at hs
  rcases hb with rfl | rfl
  · simp only [ho] at hs
    split at hs
    · rename_i n l hn
      obtain ⟨rfl, rfl⟩ := ok_some hs
      have hv := numsOf_ok h hn
      refine OpOk.put h hd (v := .int .i64 (l.foldl imin n)) rfl ?_
      unfold execOp
      simp only [ho]
      simp [resolve, invoke, builtin, Builtin.min_, hv, run_mins]
    · cases hs
  · simp only [ho] at hs
    split at hs
    · rename_i n l hn
      obtain ⟨rfl, rfl⟩ := ok_some hs
      have hv := numsOf_ok h hn
      refine OpOk.put h hd (v := .int .i64 (l.foldl imax n)) rfl ?_
      unfold execOp
      simp only [ho]
      simp [resolve, invoke, builtin, Builtin.max_, hv, run_maxs]
    · cases hs
end

end Go.Proofs.Ytigkodlbjimikaa.Vc
