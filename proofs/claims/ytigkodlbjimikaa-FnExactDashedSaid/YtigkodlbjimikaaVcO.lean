/- Operations by the machine and by the reading: new variables, new slices; cells that are read, with the memory they own. -/
import Derived.Test.YtigkodlbjimikaaVcN
namespace Go.Proofs.Ytigkodlbjimikaa.Vc
open Go Go.RowKit
set_option linter.unusedVariables false
set_option linter.unusedSimpArgs false

/-! ### many zero values -/
theorem made_succ (z : Array Value) (n : Nat) : (madeCells z ((n + 1) * z.size)).toList = (madeCells z (n * z.size)).toList ++ z.toList := by
  have e : (n + 1) * z.size = n * z.size + z.size := by rw [Nat.add_mul, Nat.one_mul]
  apply List.ext_getElem?
  intro k
  simp only [madeCells, Array.toList_map, Array.toList_range, List.getElem?_map]
  by_cases h1 : k < n * z.size
  · rw [List.getElem?_append_left (by simpa using h1), List.getElem?_map, List.getElem?_range (by omega), List.getElem?_range h1]
  · by_cases h2 : k < n * z.size + z.size
    · rw [List.getElem?_append_right (by simp; omega), List.getElem?_range (by omega)]
      simp only [List.length_map, List.length_range, Option.map_some]
      obtain ⟨j, rfl⟩ := Nat.exists_eq_add_of_le (Nat.le_of_not_lt h1)
      have hj : j < z.size := by omega
      rw [show n * z.size + j - n * z.size = j by omega, Nat.add_comm, Nat.add_mul_mod_self_right, Nat.mod_eq_of_lt hj, Array.getElem?_toList]
      simp [hj]
    · rw [List.getElem?_eq_none (l := List.range _) (by simp; omega), List.getElem?_eq_none (by simp; omega)]; rfl
theorem made_zero (z : Array Value) : (madeCells z 0).toList = [] := by simp [madeCells]
theorem made_rep (z : Array Value) : ∀ n : Nat, (madeCells z (n * z.size)).toList = (List.replicate n z.toList).flatten
  | 0 => by simp [made_zero]
  | n + 1 => by
    rw [made_succ, made_rep z n, List.replicate_succ', List.flatten_append]; simp
theorem Elems.rep {α : Type} {D : α → List Value → List Nat → Prop} {x : α} {cs : List Value} (h : D x cs []) : ∀ n : Nat, Elems D (List.replicate n x) (List.replicate n cs).flatten []
  | 0 => ⟨rfl, rfl⟩
  | n + 1 => ⟨cs, (List.replicate n cs).flatten, [], [], by simp [List.replicate_succ], rfl, h, Elems.rep h n⟩

section
variable {P : Program} {E : Env} {C : Ctx} {G : Gh} {s : St} {a : Act} {w : World}
theorem zmany_ok {R : Nat → Option Reg} {u : Ty} {cs : List Value} (h : Cells G R w (zcells u) cs) : ∀ n : Nat, Cells G R w (zmany u n) (List.replicate n cs).flatten
  | 0 => rfl
  | n + 1 => by
    rw [List.replicate_succ, List.flatten_cons]
    exact h.append (zmany_ok h n)

/-! ### variables -/
theorem op_alloc (hE : EnvOk P E) (h : Inv C G s a w) {o : Oper} (hd : ∀ t, o.dst = some t → t < C.nt) {H : Hints} {t : TypeId} (ho : o.op = .alloc t) {q : Bool} {s' : St} (hs : astep E H s o = some (q, s')) : OpOk P C s' a o w := by
  unfold astep at hs
  simp only [ho] at hs
  split at hs
  · rename_i d u hdst hu
    cases hb : (get s.boxes d).isSome with
    | true => rw [hb] at hs; cases hs
    | false =>
      rw [hb] at hs
      simp only [cond_false, Option.some.injEq, Prod.mk.injEq] at hs
      obtain ⟨_, rfl⟩ := hs
      have hn : get s.boxes d = none := by cases hg : get s.boxes d with | none => rfl | some x => rw [hg] at hb; cases hb
      obtain ⟨ti, _, _, hf⟩ := hE.ty hu
      obtain ⟨inf, z, hinf, hz, hsz, _, _, hzm⟩ := hf.info
      obtain ⟨pre, e1, hzc, _⟩ := zmatch_ok (G := G) (w := w) (R := s.reg) u _ _ hzm
      rw [List.append_nil] at e1
      subst e1
      have h2 := h.newBox hn (tid := t) hzc
      refine ⟨.pointer (some ⟨w.heap.size, 0, none⟩), _, _, .inl ?_, h2.putO hd (x := .c (.ptr d 0)) ⟨.inr rfl, ?_⟩⟩
      · unfold execOp
        simp only [ho]
        simp [Instr.alloc, zeroValue, typeInfo, hinf, hz, newVar, newRow]
      · show _ = Value.pointer (some ⟨(G.newBox d w.heap.size).blk d, 0, none⟩)
        rw [show (G.newBox d w.heap.size).blk d = w.heap.size from upd_same _ _ _]
  · cases hs
theorem op_box (h : Inv C G s a w) {o : Oper} (hd : ∀ t, o.dst = some t → t < C.nt) {H : Hints} {t : TypeId} {x : Operand} (ho : o.op = .box t x) {q : Bool} {s' : St} (hs : astep E H s o = some (q, s')) : OpOk P C s' a o w := by
  unfold astep at hs
  simp only [ho] at hs
  split at hs
  · rename_i d cs hdst hx
    cases hb : (get s.boxes d).isSome with
    | true => rw [hb] at hs; cases hs
    | false =>
      rw [hb] at hs
      simp only [cond_false, Option.some.injEq, Prod.mk.injEq] at hs
      obtain ⟨_, rfl⟩ := hs
      have hn : get s.boxes d = none := by cases hg : get s.boxes d with | none => rfl | some x => rw [hg] at hb; cases hb
      obtain ⟨hc, _⟩ := cells_ok h hx
      have h2 := h.newBox hn (tid := t) hc
      refine ⟨.pointer (some ⟨w.heap.size, 0, none⟩), _, _, .inl ?_, h2.putO hd (x := .c (.ptr d 0)) ⟨.inr rfl, ?_⟩⟩
      · unfold execOp
        simp only [ho]
        simp [Instr.box, newVar, newRow]
      · show _ = Value.pointer (some ⟨(G.newBox d w.heap.size).blk d, 0, none⟩)
        rw [show (G.newBox d w.heap.size).blk d = w.heap.size from upd_same _ _ _]
  · cases hs

/-! ### slices made -/
theorem rooms_le {b : Nat} {n : Int} (h0 : 0 ≤ n) (h : n ≤ (rooms b : Nat)) : b * n.toNat ≤ 140737488355328 ∧ n ≤ 140737488355328 := by
  unfold rooms at h
  have h1 : n.toNat ≤ 140737488355328 / b := by omega
  have h2 : 140737488355328 / b ≤ 140737488355328 := Nat.div_le_self _ _
  refine ⟨?_, by omega⟩
  calc b * n.toNat ≤ b * (140737488355328 / b) := Nat.mul_le_mul_left _ h1
    _ ≤ 140737488355328 := Nat.mul_div_le _ _
theorem sameOp_eq {x y : Operand} (h : sameOp x y = true) : x = y := by
  unfold sameOp at h
  split at h
  · rw [beq_iff_eq.1 h]
  · cases h
theorem op_makeSlice (hE : EnvOk P E) (h : Inv C G s a w) {o : Oper} (hd : ∀ t, o.dst = some t → t < C.nt) {H : Hints} {t : TypeId} {l c : Operand} (ho : o.op = .makeSlice t l c) {q : Bool} {s' : St} (hs : astep E H s o = some (q, s')) (hq : q = true) : OpOk P C s' a o w := by
  unfold astep at hs
  simp only [ho] at hs
  split at hs
  · rename_i d e u k n hdst hu hl
    split at hs
    · rename_i ti hti
      cases hb : (sameOp l c && !(s.reg (siteLab d)).isSome) with
      | false => rw [hb] at hs; cases hs
      | true =>
        rw [hb] at hs
        simp only [cond_true, Option.some.injEq, Prod.mk.injEq] at hs
        obtain ⟨hc, rfl⟩ := hs
        simp only [Bool.and_eq_true, Bool.not_eq_true'] at hb
        obtain ⟨hb1, hb2⟩ := hb
        obtain rfl := sameOp_eq hb1
        have hn : s.reg (siteLab d) = none := by cases hg : s.reg (siteLab d) with | none => rfl | some x => rw [hg] at hb2; cases hb2
        obtain ⟨c1, c2⟩ := and_of (hc.trans hq)
        have c1 := ile_of c1
        have c2 := ile_of c2
        obtain ⟨r1, r2⟩ := rooms_le c1 c2
        obtain ⟨ti0, _, _, hf⟩ := hE.ty hu
        obtain ⟨hund, hue⟩ := hf.slice
        obtain ⟨tie, htie, _, hfe⟩ := hE.ty hue
        obtain rfl : ti = tie := by rw [hti] at htie; exact Option.some.inj htie
        obtain ⟨inf, z, hinf, hz, hsz, hby, hzs, hzm⟩ := hfe.info
        have hv : a.eval l = .int k n := cell_ok h hl
        have en : ((n.toNat : Nat) : Int) = n := Int.toNat_of_nonneg c1
        have hby2 : (inf.bytes : Int) * n ≤ 281474976710656 := by
          have : ((ti.bytes * n.toNat : Nat) : Int) ≤ 281474976710656 := by omega
          rw [Int.natCast_mul, en] at this
          rw [hby]; exact this
        have hr := run_make (P := P) w t e inf z hund hinf hz k k n n c1 (Int.le_refl _) hby2 (by omega)
        -- the new region
        have hz2 : (z.cells.size = u.size) := hzs
        obtain ⟨pre, e1, _, hzd⟩ := zmatch_ok (G := G) (w := w.alloc (.cells (madeCells z.cells (n.toNat * inf.size)) e)) (R := s.reg) u _ _ hzm
        rw [List.append_nil] at e1
        subst e1
        have hm := Moved.alloc w (.cells (madeCells z.cells (n.toNat * inf.size)) e)
        have hnr := h.newReg (r := siteLab d) hn (g := ⟨e, u, lrep n u.dflt, 0⟩) (root := .slice (some ⟨w.heap.size, 0, none⟩) n.toNat n.toNat) (h.toCore.fresh _) hm (fun _ hk => by cases hk) (h.frame.alloc _) rfl (by
          refine ⟨_, _, [], rfl, ?_, ?_, Elems.rep hzd n.toNat⟩
          · have := World.ownsRow_lit (base := 0) (e := e) (size := u.size) w (madeCells z.cells (n.toNat * inf.size)) n.toNat (Nat.zero_le _) (by simp [maxLen]; omega) (by rw [size_madeCells, hsz])
            rw [hsz, ← hz2, made_rep] at this
            rw [hsz, ← hz2, show (lrep n u.dflt).length = n.toNat by simp [lrep]]
            exact this
          · simp [blockOf, Value.ownBlock])
        refine ⟨_, _, _, .inl ?_, hnr.putO hd (x := .c (.own (siteLab d))) ⟨_, by rw [setReg_reg, if_pos rfl], (upd_same _ _ _).symm⟩⟩
        unfold execOp
        simp only [ho, hv]
        rw [Sem.run_bind, hr, Result.andThen_ok]; rfl
    · cases hs
  · cases hs

/-! ### cells that are read -/
/-- What a slice's cell tells stays, if the memory it hangs on does. -/
theorem Core.slice_v (h : Core C G s w) {I' : Nat → Prop} (hI : ∀ k, G.I k → I' k) {c : Cell} {v : Value} (hc : CRep G s.reg w c v) {e : TypeId} {u : Ty} {xs : List u.den} (hs : s.slice c = some ⟨e, u, xs⟩) (hr : ∀ r, c.of = some r → ∀ k ∈ G.fp r, I' k) : VRep I' w (.sl e u) xs [v] := by
  cases c with
  | nil e' t =>
    simp only [St.slice, Option.some.injEq] at hs
    cases hs
    exact ⟨none, 0, by rw [show v = _ from hc]; rfl, Nat.le_refl _, fun i hi => absurd hi (Nat.not_lt_zero _)⟩
  | own r =>
    obtain ⟨g, hg, rfl⟩ := hc
    simp only [St.slice, hg, Option.map_some, Option.some.injEq] at hs
    cases hs
    exact (h.reg r g hg).1.still (hr r rfl)
  | sub r z lo n =>
    obtain ⟨g, A, len, c, hg, hroot, k1, k2, k3, k4, rfl⟩ := hc
    simp only [St.slice, hg, Option.map_some, Option.some.injEq] at hs
    cases hs
    have hv := (h.reg r g hg).1.still (hr r rfl)
    rw [hroot] at hv
    exact hv.cut k1 k2 k3
  | inn r i o e' t =>
    have hc' := hc
    obtain ⟨g, _, _, _, hg, _⟩ := hc'
    simp only [St.slice, hg, Option.bind_some] at hs
    cases hin : innAt e' t g.t o (lget g.xs i) with
    | none => rw [hin] at hs; cases hs
    | some l =>
      rw [hin] at hs
      simp only [Option.map_some, Option.some.injEq] at hs
      cases hs
      obtain ⟨f, hd, hsub⟩ := h.inn hc hg hin
      exact hd.still fun k hk => hr r rfl k (hsub k hk)
  | view e' t xs' =>
    simp only [St.slice, Option.some.injEq] at hs
    cases hs
    exact VRep.mono hI (fun _ _ => rfl) hc
  | _ => simp [St.slice] at hs
theorem hangs_head {c : Cell} {cs : List Cell} {r : Nat} (h : c.of = some r) : r ∈ hangs (c :: cs) := by simp [hangs, h]
theorem hangs_tail {c : Cell} {cs : List Cell} {r : Nat} (h : r ∈ hangs cs) : r ∈ hangs (c :: cs) := by
  unfold hangs
  split
  · exact List.mem_cons_of_mem _ h
  · exact h
theorem Core.read_v (h : Core C G s w) {I' : Nat → Prop} (hI : ∀ k, G.I k → I' k) : ∀ {t : Ty} {cs : List Cell} {vs : List Value} {x : t.den} {rest : List Cell}, s.read t cs = some (x, rest) → Cells G s.reg w cs vs → (∀ r ∈ hangs cs, ∀ k ∈ G.fp r, I' k) →
    ∃ v1 v2, vs = v1 ++ v2 ∧ VRep I' w t x v1 ∧ Cells G s.reg w rest v2 ∧ ∀ r ∈ hangs rest, r ∈ hangs cs
  | .int k, cs, vs, x, rest, hr, hc, hh => by
    rcases cs with _ | ⟨c, l⟩
    · simp [St.read] at hr
    cases c <;> simp only [St.read] at hr <;> try cases hr
    rename_i k' n
    by_cases e : k = k'
    · subst e
      simp at hr
      obtain ⟨rfl, rfl⟩ := hr
      obtain ⟨v, vl, rfl, h1, h2⟩ := hc
      exact ⟨[v], vl, rfl, by rw [show v = _ from h1]; rfl, h2, fun r hr => hangs_tail hr⟩
    · simp [e] at hr
  | .bool, cs, vs, x, rest, hr, hc, hh => by
    rcases cs with _ | ⟨c, l⟩
    · simp [St.read] at hr
    cases c <;> simp only [St.read] at hr <;> try cases hr
    obtain ⟨v, vl, rfl, h1, h2⟩ := hc
    exact ⟨[v], vl, rfl, by rw [show v = _ from h1]; rfl, h2, fun r hr => hangs_tail hr⟩
  | .str, cs, vs, x, rest, hr, hc, hh => by
    rcases cs with _ | ⟨c, l⟩
    · simp [St.read] at hr
    cases c <;> simp only [St.read] at hr <;> try cases hr
    obtain ⟨v, vl, rfl, h1, h2⟩ := hc
    exact ⟨[v], vl, rfl, by rw [show v = _ from h1]; rfl, h2, fun r hr => hangs_tail hr⟩
  | .sl e t, cs, vs, x, rest, hr, hc, hh => by
    rcases cs with _ | ⟨c, l⟩
    · simp [St.read] at hr
    simp only [St.read] at hr
    split at hr
    · rename_i e' t' xs hsl
      cases he : (e == e') with
      | false => rw [he] at hr; cases hr
      | true =>
        rw [he] at hr
        obtain rfl : e = e' := by simpa using he
        simp only [cond_true] at hr
        cases hcast : cast (.sl e t') (.sl e t) xs with
        | none => rw [hcast] at hr; cases hr
        | some y =>
          rw [hcast] at hr
          simp only [Option.map_some, Option.some.injEq, Prod.mk.injEq] at hr
          obtain ⟨rfl, rfl⟩ := hr
          obtain ⟨eq, rfl⟩ := cast_some hcast
          obtain rfl : t' = t := by injection eq
          obtain ⟨v, vl, rfl, h1, h2⟩ := hc
          exact ⟨[v], vl, rfl, h.slice_v hI h1 hsl (fun r hr => hh r (hangs_head hr)), h2, fun r hr => hangs_tail hr⟩
    · cases hr
  | .unit, cs, vs, x, rest, hr, hc, hh => by
    simp [St.read] at hr
    subst hr
    exact ⟨[], vs, rfl, rfl, hc, fun _ hr => hr⟩
  | .opq, cs, vs, x, rest, hr, hc, hh => by simp [St.read] at hr
  | .pair a b, cs, vs, x, rest, hr, hc, hh => by
    simp only [St.read] at hr
    split at hr
    · rename_i x1 l1 h1
      split at hr
      · rename_i x2 l2 h2
        simp only [Option.some.injEq, Prod.mk.injEq] at hr
        obtain ⟨rfl, rfl⟩ := hr
        obtain ⟨v1, v2, rfl, k1, k2, k3⟩ := h.read_v hI h1 hc hh
        obtain ⟨v3, v4, rfl, k4, k5, k6⟩ := h.read_v hI h2 k2 (fun r hr => hh r (k3 r hr))
        exact ⟨v1 ++ v3, v4, by rw [List.append_assoc], ⟨v1, v3, rfl, k1, k4⟩, k5, fun r hr => k3 r (k6 r hr)⟩
      · cases hr
    · cases hr
end

end Go.Proofs.Ytigkodlbjimikaa.Vc
