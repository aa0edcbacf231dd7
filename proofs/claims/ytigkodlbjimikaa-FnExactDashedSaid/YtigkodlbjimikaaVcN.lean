/- Operations by the machine and by the reading: variables, structs written down. -/
import Derived.Test.YtigkodlbjimikaaVcM
import Derived.Great.BuildSlice
namespace Go.Proofs.Ytigkodlbjimikaa.Vc
open Go Go.RowKit
set_option linter.unusedVariables false
set_option linter.unusedSimpArgs false

/-! ### cells put at a place -/
theorem fold_splice (off : Nat) (l : List Value) (arr : Array Value) (h : off + l.length ≤ arr.size) :
    ((l.zipIdx 0).foldl (fun cs (x : Value × Nat) => cs.setIfInBounds (off + x.2) x.1) arr).toList = arr.toList.take off ++ l ++ arr.toList.drop (off + l.length) := by
  obtain ⟨h1, h2⟩ := Great.foldl_set off l 0 arr
  have hlen : ∀ k, (arr.toList.take off ++ l ++ arr.toList.drop (off + l.length))[k]? = if off + 0 ≤ k ∧ k < off + 0 + l.length ∧ k < arr.size then l[k - (off + 0)]? else arr[k]? := by
    intro k
    have e1 : (arr.toList.take off).length = off := by rw [List.length_take, Array.length_toList]; omega
    by_cases k1 : k < off
    · rw [if_neg (by omega), List.append_assoc, List.getElem?_append_left (by omega), List.getElem?_take, if_pos k1, Array.getElem?_toList]
    · by_cases k2 : k < off + l.length
      · rw [if_pos (by omega), List.append_assoc, List.getElem?_append_right (by omega), e1, List.getElem?_append_left (by omega)]; rfl
      · rw [if_neg (by omega), List.getElem?_append_right (by rw [List.length_append]; omega), List.length_append, e1, List.getElem?_drop, Array.getElem?_toList]
        congr 1; omega
  apply List.ext_getElem?
  intro k
  rw [hlen, Array.getElem?_toList, h2]
section
variable {P : Program} {E : Env} {C : Ctx} {G : Gh} {s : St} {a : Act} {w : World}
theorem Cells.splice {R : Nat → Option Reg} {cs new : List Cell} {vs nv : List Value} {off n : Nat} (h : Cells G R w cs vs) (hn : Cells G R w new nv) : Cells G R w (splice cs off n new) (vs.take off ++ nv ++ vs.drop (off + n)) :=
  ((h.take off).append hn).append (h.drop (off + n))
theorem put_cells {R : Nat → Option Reg} {cs new cs' : List Cell} {off size : Nat} (hp : putCells cs off size new = some cs') {arr nv : Array Value} (h : Cells G R w cs arr.toList) (hn : Cells G R w new nv.toList) :
    nv.size = size ∧ off + nv.size ≤ arr.size ∧ Cells G R w cs' (nv.zipIdx.foldl (fun cs (x : Value × Nat) => cs.setIfInBounds (off + x.2) x.1) arr).toList ∧ (nv.zipIdx.foldl (fun cs (x : Value × Nat) => cs.setIfInBounds (off + x.2) x.1) arr).size = arr.size := by
  unfold putCells at hp
  cases hb : (new.length == size && Nat.ble (off + size) cs.length) with
  | false => rw [hb] at hp; cases hp
  | true =>
    rw [hb] at hp
    obtain rfl := Option.some.inj hp
    simp only [Bool.and_eq_true, beq_iff_eq, Nat.ble_eq] at hb
    obtain ⟨h1, h2⟩ := hb
    have l1 := h.length
    have l2 := hn.length
    rw [Array.length_toList] at l1 l2
    have e : nv.zipIdx.foldl (fun cs (x : Value × Nat) => cs.setIfInBounds (off + x.2) x.1) arr = (nv.toList.zipIdx 0).foldl (fun cs (x : Value × Nat) => cs.setIfInBounds (off + x.2) x.1) arr := by
      rw [← Array.foldl_toList, Array.toList_zipIdx]
    refine ⟨by omega, by omega, ?_, ?_⟩
    · rw [e, fold_splice off nv.toList arr (by rw [Array.length_toList]; omega), Array.length_toList, show nv.size = size by omega]
      exact h.splice hn
    · rw [e]; exact (Great.foldl_set off nv.toList 0 arr).1
theorem Inv.fields (h : Inv C G s a w) {fl : List (Nat × TypeId)} {pl : Nat → Option (Nat × Nat)} (hpl : ∀ i off tf u, fl[i]? = some (off, tf) → E.ty tf = some u → pl i = some (off, u.size)) :
    ∀ (l : List (Nat × Operand)) (cs cs' : List Cell) (arr : Array Value), fillFields s E fl l cs = some cs' → Cells G s.reg w cs arr.toList → ∃ arr', Instr.fill pl arr (l.map fun x => (x.1, a.eval x.2)) = some arr' ∧ Cells G s.reg w cs' arr'.toList
  | [], cs, cs', arr, hf, hc => ⟨arr, rfl, by obtain rfl := Option.some.inj hf; exact hc⟩
  | (i, x) :: l, cs, cs', arr, hf, hc => by
    simp only [fillFields] at hf
    cases hfl : fl[i]? with
    | none => rw [hfl] at hf; cases hf
    | some p =>
      obtain ⟨off, tf⟩ := p
      rw [hfl] at hf
      simp only [] at hf
      split at hf
      · rename_i u c hu hx
        split at hf
        · rename_i cs1 hp
          obtain ⟨hn, _⟩ := cells_ok h (t := tf) (x := x) (cs := c.cells) (by rw [hx]; rfl)
          obtain ⟨p1, p2, p3, p4⟩ := put_cells hp hc hn
          obtain ⟨arr', h1, h2⟩ := h.fields hpl l _ _ _ hf p3
          refine ⟨arr', ?_, h2⟩
          simp only [List.map_cons, Instr.fill, hpl i off tf u hfl hu]
          rw [if_neg (by simp only [Bool.or_eq_true, decide_eq_true_eq, ne_eq, bne_iff_ne]; omega)]
          exact h1
        · cases hf
      · cases hf
theorem Inv.elems (h : Inv C G s a w) {size : Nat} {te : TypeId} :
    ∀ (l : List (Nat × Operand)) (cs cs' : List Cell) (arr : Array Value), fillCells size s E te l cs = some cs' → Cells G s.reg w cs arr.toList → ∃ arr', Instr.fill (fun i => some (i * size, size)) arr (l.map fun x => (x.1, a.eval x.2)) = some arr' ∧ Cells G s.reg w cs' arr'.toList ∧ arr'.size = arr.size
  | [], cs, cs', arr, hf, hc => ⟨arr, rfl, by obtain rfl := Option.some.inj hf; exact hc, rfl⟩
  | (i, x) :: l, cs, cs', arr, hf, hc => by
    simp only [fillCells] at hf
    split at hf
    · rename_i c hx
      split at hf
      · rename_i cs1 hp
        obtain ⟨hn, _⟩ := cells_ok h (t := te) (x := x) (cs := c.cells) (by rw [hx]; rfl)
        obtain ⟨p1, p2, p3, p4⟩ := put_cells hp hc hn
        obtain ⟨arr', h1, h2, h3⟩ := h.elems l _ _ _ hf p3
        refine ⟨arr', ?_, h2, h3.trans p4⟩
        simp only [List.map_cons, Instr.fill]
        rw [if_neg (by simp only [Bool.or_eq_true, decide_eq_true_eq, ne_eq, bne_iff_ne]; omega)]
        exact h1
      · cases hf
    · cases hf

/-! ### structs written down -/
theorem mapM_places {P : Program} : ∀ (fs : List Field), (∀ f ∈ fs, (P.info? f.type).isSome = true) → ∃ pl : List (Nat × Nat), fs.mapM (fun f => (P.info? f.type).map fun i => (f.offset, i.size)) = some pl ∧ ∀ k : Nat, pl[k]? = (fs[k]?).bind fun f => (P.info? f.type).map fun i => (f.offset, i.size)
  | [], _ => ⟨[], rfl, fun k => rfl⟩
  | f :: fs, hf => by
    obtain ⟨pl, h1, h2⟩ := mapM_places fs (fun f hf' => hf f (List.mem_cons_of_mem _ hf'))
    obtain ⟨i, hi⟩ := Option.isSome_iff_exists.1 (hf f List.mem_cons_self)
    refine ⟨(f.offset, i.size) :: pl, by simp [List.mapM_cons, hi, h1], fun k => ?_⟩
    cases k with
    | zero => simp [hi]
    | succ k => simpa using h2 k
theorem op_build (hE : EnvOk P E) (h : Inv C G s a w) {o : Oper} (hd : ∀ t, o.dst = some t → t < C.nt) {H : Hints} {t : TypeId} {ps : Array (Nat × Operand)} (ho : o.op = .build t ps) {q : Bool} {s' : St} (hs : astep E H s o = some (q, s')) : OpOk P C s' a o w := by
  unfold astep at hs
  simp only [ho] at hs
  split at hs
  · rename_i ti hti
    split at hs
    · rename_i u hu
      have hf := hE.fact hti hu
      cases hagg : isAggTy u with
      | false => rw [hagg] at hs; cases hs
      | true =>
      rw [hagg] at hs
      simp only [cond_true] at hs
      cases hc : fillFields s E ti.flds ps.toList (zcells u) with
      | none => rw [hc] at hs; cases hs
      | some cs =>
        rw [hc] at hs
        simp only [Option.map_some, Option.some.injEq, Prod.mk.injEq] at hs
        obtain ⟨_, rfl⟩ := hs
        obtain ⟨inf, z, hinf, hz, hsz, hby, hzs, hzm⟩ := hf.info
        obtain ⟨pre, e1, hzc, _⟩ := zmatch_ok (G := G) (w := w) (R := s.reg) u _ _ hzm
        rw [List.append_nil] at e1
        subst e1
        have hund := hf.und
        -- the struct's fields
        cases hd' : P.underlying t with
        | none => rw [hd'] at hund; cases hund
        | some d =>
          rw [hd'] at hund
          have key : ∀ {pl : Nat → Option (Nat × Nat)}, (∀ i off tf uf, ti.flds[i]? = some (off, tf) → E.ty tf = some uf → pl i = some (off, uf.size)) → ∃ arr', Instr.fill pl z.cells (ps.map fun (x : Nat × Operand) => (x.1, a.eval x.2)).toList = some arr' ∧ Cells G s.reg w cs arr'.toList := by
            intro pl hpl
            obtain ⟨arr', h1, h2⟩ := h.fields (E := E) hpl ps.toList _ _ z.cells hc hzc
            exact ⟨arr', by rw [Array.toList_map]; exact h1, h2⟩
          have fin : ∀ arr', P.built t (ps.map fun (x : Nat × Operand) => (x.1, a.eval x.2)).toList = some arr' → Cells G s.reg w cs arr'.toList → OpOk P C (s.put o.dst (.cp (.agg cs))) a o w := by
            intro arr' hb hcs
            refine OpOk.put h hd (v := .agg arr') ⟨arr', rfl, hcs⟩ ?_
            unfold execOp
            simp only [ho]
            rw [Sem.run_bind, run_build w t _ arr' hb, Result.andThen_ok]; rfl
          cases d with
          | struct fs =>
            simp only [undOk, Bool.and_eq_true, decide_eq_true_eq] at hund
            obtain ⟨⟨_, h2⟩, h3⟩ := hund
            have hall : ∀ f ∈ fs.toList, ∃ uf i, E.ty f.type = some uf ∧ P.info? f.type = some i ∧ i.size = uf.size := by
              intro f hf'
              have hm := List.all_eq_true.1 h3 f hf'
              cases hEt : E.ty f.type with
              | none => rw [hEt] at hm; cases hm
              | some uf =>
                cases hi : P.info? f.type with
                | none => rw [hEt, hi] at hm; cases hm
                | some i =>
                  rw [hEt, hi] at hm
                  simp only [Bool.and_eq_true, beq_iff_eq, decide_eq_true_eq, Nat.ble_eq] at hm
                  exact ⟨uf, i, rfl, rfl, hm.1.1⟩
            obtain ⟨pl, hp1, hp2⟩ := mapM_places (P := P) fs.toList (fun f hf' => by obtain ⟨_, i, _, hi, _⟩ := hall f hf'; rw [hi]; rfl)
            obtain ⟨arr', k1, k2⟩ := key (pl := fun i => pl.toArray[i]?) (by
              intro i off tf uf hfl hEf
              rw [← h2, List.getElem?_map] at hfl
              cases hfd : fs.toList[i]? with
              | none => rw [hfd] at hfl; cases hfl
              | some fd =>
                rw [hfd] at hfl
                simp only [Option.map_some, Option.some.injEq, Prod.mk.injEq] at hfl
                obtain ⟨rfl, rfl⟩ := hfl
                obtain ⟨uf', i', e1, e2, e3⟩ := hall fd (List.mem_of_getElem? hfd)
                rw [hEf] at e1
                obtain rfl := Option.some.inj e1
                simp [hp2, hfd, e2, e3])
            refine fin arr' ?_ k2
            unfold Program.built
            simp only [hinf, hd', hz, hp1]
            exact k1
          | array n e => simp [undOk, plainOk] at hund
          | _ =>
            obtain ⟨d', e1, e2⟩ := hf.desc
            rw [hd'] at e1
            obtain rfl := Option.some.inj e1
            rw [hagg] at e2; cases e2
    · cases hs
  · cases hs
end

end Go.Proofs.Ytigkodlbjimikaa.Vc
