/- Operations by the machine and by the reading: places of elements, lengths, cuts, loads. -/
import Derived.Test.YtigkodlbjimikaaVcK
namespace Go.Proofs.Ytigkodlbjimikaa.Vc
open Go Go.RowKit
set_option linter.unusedVariables false
set_option linter.unusedSimpArgs false

section
variable {P : Program} {E : Env} {C : Ctx} {G : Gh} {s : St} {a : Act} {w : World}

/-! ### typed values as cells -/
theorem vcells_ok {R : Nat → Option Reg} : ∀ {t : Ty} {x : t.den} {vs : List Value}, VRep G.I w t x vs → Cells G R w (vcells t x) vs
  | .int _, _, _, h => ⟨_, _, h, rfl, rfl⟩
  | .bool, _, _, h => ⟨_, _, h, rfl, rfl⟩
  | .str, _, _, h => ⟨_, _, h, rfl, rfl⟩
  | .unit, _, _, h => h
  | .opq, _, _, h => by obtain ⟨v, rfl, h1⟩ := h; exact ⟨_, _, rfl, h1, rfl⟩
  | .sl e t, xs, vs, h => by
    obtain ⟨p, c, rfl, h1, h2⟩ := h
    exact ⟨_, _, rfl, ⟨p, c, rfl, h1, h2⟩, rfl⟩
  | .pair a b, x, vs, h => by obtain ⟨v1, v2, rfl, h1, h2⟩ := h; exact (vcells_ok h1).append (vcells_ok h2)
theorem ocells_ok {R : Nat → Option Reg} {r : Nat} {i : Int} {g : Reg} {gb n c : Nat} (hg : R r = some g) (hr : G.root r = .slice (some ⟨gb, 0, none⟩) n c) (h0 : 0 ≤ i) (h1 : i < (g.xs.length : Int)) :
    ∀ {t : Ty} {off : Nat} {x : t.den} {vs : List Value} {fp : List Nat}, DRep w t x vs fp → off + t.size ≤ g.t.size → (∀ j v, vs[j]? = some v → w.cell? ⟨gb, i.toNat * g.t.size + (off + j), none⟩ = some v) → Cells G R w (ocells r i t off x) vs
  | .int _, _, _, _, _, h, _, _ => ⟨_, _, h.1, rfl, rfl⟩
  | .bool, _, _, _, _, h, _, _ => ⟨_, _, h.1, rfl, rfl⟩
  | .str, _, _, _, _, h, _, _ => ⟨_, _, h.1, rfl, rfl⟩
  | .unit, _, _, _, _, h, _, _ => h.1
  | .opq, _, _, _, _, h, _, _ => by obtain ⟨⟨v, rfl, h1⟩, _⟩ := h; exact ⟨_, _, rfl, h1, rfl⟩
  | .sl e t, off, xs, vs, _, h, ho, hc => by
    obtain ⟨v, cells, fps, rfl, _⟩ := h
    refine ⟨_, _, rfl, ⟨g, gb, n, c, hg, hr, h0, h1, ?_, ?_⟩, rfl⟩
    · have := hc 0 v rfl; rwa [Nat.add_zero] at this
    · simp only [Ty.size] at ho; omega
  | .pair a b, off, x, vs, _, h, ho, hc => by
    obtain ⟨v1, v2, f1, f2, rfl, rfl, k1, k2⟩ := h
    have l1 := k1.length
    refine (ocells_ok hg hr h0 h1 k1 (by simp only [Ty.size] at ho; omega) fun j v hj => hc j v ?_).append (ocells_ok hg hr h0 h1 k2 (by simp only [Ty.size] at ho; omega) fun j v hj => ?_)
    · rw [List.getElem?_append_left (List.getElem?_eq_some_iff.1 hj).1]; exact hj
    · have := hc (a.size + j) v (by rw [List.getElem?_append_right (by omega), l1, Nat.add_sub_cancel_left]; exact hj)
      rwa [← Nat.add_assoc off] at this
/-- The cells of an element of a region. -/
theorem Core.ocells (h : Core C G s w) {r : Nat} {g : Reg} (hg : s.reg r = some g) {i : Int} (h0 : 0 ≤ i) (h1 : i < (g.xs.length : Int)) :
    ∃ gb c vs, G.root r = .slice (some ⟨gb, 0, none⟩) g.xs.length c ∧ (∀ j v, vs[j]? = some v → w.cell? ⟨gb, i.toNat * g.t.size + j, none⟩ = some v) ∧ Cells G s.reg w (Vc.ocells r i g.t 0 (lget g.xs i)) vs ∧ vs.length = g.t.size := by
  obtain ⟨gb, c, vs, f, hr, hc, hx, _, _⟩ := h.elem hg (i := i.toNat) (by omega)
  rw [← lget_at g.xs i h0 h1] at hx
  exact ⟨gb, c, vs, hr, hc, ocells_ok hg hr h0 h1 hx (by omega) (by simpa using hc), hx.length⟩

/-! ### loads -/
theorem run_loadVar {t : TypeId} {u : Ty} {ti : TI} (hf : TyFact P E t ti u) {R : Nat → Option Reg} {G' : Gh} {ad : Addr} {cs : List Cell} {vs : List Value} {c : Comp} (hc : Cells G' R w cs vs) (hl : vs.length = u.size) (hv : ∀ j v, vs[j]? = some v → w.cell? (ad.add j) = some v) (hk : compOf u cs = some c) :
    ∃ v, (loadVar t ad).run P w = .ok v w ∧ KRep G' R w c v := by
  obtain ⟨d, hd, hagg⟩ := hf.desc
  obtain ⟨i, z, hi, _, hsz, _⟩ := hf.info
  obtain ⟨v, h1, h2, h3⟩ := compOf_ok hk (arr := vs.toArray) (by simpa using hc)
  refine ⟨v, ?_, h1⟩
  unfold loadVar
  rw [Sem.run_bind, run_isAgg hd, Result.andThen_ok, hagg]
  cases hu : isAggTy u with
  | true =>
    have hld := run_loadCells_list (P := P) w ad vs hv
    rw [hl] at hld
    rw [if_pos rfl, Sem.run_bind, run_size hi, Result.andThen_ok, hsz, Sem.run_bind, hld, Result.andThen_ok, h2 hu]
    rfl
  | false =>
    have e := h3 hu
    simp only [] at e
    rw [if_neg (by simp), run_load]
    have := hv 0 v (by rw [e]; rfl)
    rw [show ad.add 0 = ad from rfl] at this
    rw [this]
theorem sub_at {ad : Addr} {off n : Nat} {vs : List Value} (h : ∀ j v, vs[j]? = some v → w.cell? (ad.add j) = some v) : ∀ j v, ((vs.drop off).take n)[j]? = some v → w.cell? ((ad.add off).add j) = some v := by
  intro j v hj
  rw [List.getElem?_take] at hj
  split at hj
  · rw [List.getElem?_drop] at hj
    rw [add_add]; exact h _ _ hj
  · cases hj
theorem op_load (hE : EnvOk P E) (h : Inv C G s a w) {o : Oper} (hd : ∀ t, o.dst = some t → t < C.nt) {H : Hints} {t : TypeId} {x : Operand} (ho : o.op = .load t x) {q : Bool} {s' : St} (hs : astep E H s o = some (q, s')) : OpOk P C s' a o w := by
  unfold astep at hs
  simp only [ho] at hs
  split at hs
  · rename_i u p hu hx
    have hx' := cell_ok h hx
    obtain ⟨ti, _, _, hf⟩ := hE.ty hu
    split at hs
    · rename_i s1 cs hat
      cases hl : (cs.length == u.size) with
      | false => rw [hl] at hs; cases hs
      | true =>
        rw [hl] at hs
        have hl' : cs.length = u.size := beq_iff_eq.1 hl
        simp only [cond_true] at hs
        cases hk : compOf u cs with
        | none => rw [hk] at hs; cases hs
        | some c =>
          rw [hk] at hs
          simp only [Option.map_some, Option.some.injEq, Prod.mk.injEq] at hs
          obtain ⟨_, rfl⟩ := hs
          -- what is there
          have fin : ∀ {G' : Gh} {ad : Addr} {vs : List Value}, a.eval x = .pointer (some ad) → Inv C G' s1 a w → Cells G' s1.reg w cs vs → (∀ j v, vs[j]? = some v → w.cell? (ad.add j) = some v) → OpOk P C (s1.put o.dst (.cp c)) a o w := by
            intro G' ad vs hev hi hc hv
            obtain ⟨v, hr, hkr⟩ := run_loadVar hf hc (by rw [hc.length]; exact hl') hv hk
            refine OpOk.put hi hd hkr ?_
            unfold execOp
            simp only [ho, hev]
            simp [Instr.loadAt, Instr.sureAddr, hr]
          cases p with
          | ptr b off =>
            simp only [St.at_] at hat
            cases hb : get s.boxes b with
            | none => rw [hb] at hat; cases hat
            | some bx =>
              rw [hb] at hat
              simp only [Option.map_some, Option.some.injEq, Prod.mk.injEq] at hat
              obtain ⟨rfl, rfl⟩ := hat
              obtain ⟨arr, h1, h2⟩ := h.box b bx hb
              refine fin (ad := ⟨G.blk b, off, none⟩) hx'.2 h ((h2.drop off).take u.size) ?_
              have := sub_at (w := w) (ad := ⟨G.blk b, 0, none⟩) (off := off) (n := u.size) (vs := arr.toList) (fun j v hj => by
                rw [add_none, Nat.zero_add, cell_of_row w (G.blk b) j arr bx.tid (0, 0) h1]; rwa [Array.getElem?_toList] at hj)
              rwa [add_none, Nat.zero_add] at this
          | vptr t' y off =>
            simp only [St.at_, Option.some.injEq, Prod.mk.injEq] at hat
            obtain ⟨rfl, rfl⟩ := hat
            obtain ⟨ad, vs, k1, k2, k3, k4⟩ := hx'
            exact fin k1 h (((vcells_ok k4).drop off).take u.size) (sub_at k3)
          | eptr r i off =>
            simp only [St.at_] at hat
            obtain ⟨g, gb, n, c0, k1, k2, k3, k4, k5⟩ := hx'
            rw [k1] at hat
            simp only [] at hat
            generalize (g.t.deep && !(H.inner.contains o.pos) && !((hangs (((Vc.ocells r i g.t 0 (lget g.xs i)).drop off).take u.size)).isEmpty)) = bq at hat
            cases bq with
            | false =>
              simp only [cond_false, Option.some.injEq, Prod.mk.injEq] at hat
              obtain ⟨rfl, rfl⟩ := hat
              obtain ⟨gb', c', vs, m1, m2, m3, _⟩ := h.toCore.ocells k1 k3 k4
              obtain ⟨rfl, _, _⟩ : gb = gb' ∧ n = g.xs.length ∧ c0 = c' := by rw [k2] at m1; simpa using m1
              refine fin k5 h ((m3.drop off).take u.size) ?_
              have := sub_at (w := w) (ad := ⟨gb, i.toNat * g.t.size, none⟩) (off := off) (n := u.size) (vs := vs) (fun j v hj => by rw [add_none]; exact m2 j v hj)
              rwa [add_none] at this
            | true =>
              simp only [cond_true, Option.some.injEq, Prod.mk.injEq] at hat
              obtain ⟨rfl, rfl⟩ := hat
              have hst := h.still (r := r) (by rw [k1]; rfl)
              have hv := h.toCore.still_cell r (c := .eptr r i off) (v := a.eval x) ⟨g, gb, n, c0, k1, k2, k3, k4, k5⟩
              simp only [Cell.still, Cell.of, beq_self_eq_true, cond_true, k1] at hv
              obtain ⟨ad, vs, m1, m2, m3, m4⟩ := hv
              exact fin m1 hst (((vcells_ok m4).drop off).take u.size) (sub_at m3)
          | _ => simp [St.at_] at hat
    · cases hs
  · cases hs

/-! ### places of elements -/
theorem run_place {t e : TypeId} {ti : TypeInfo} (ht : P.underlying t = some (.slice e)) (hi : P.info? e = some ti) {ad : Addr} {n c : Nat} {k : IntKind} {i : Int} (h0 : 0 ≤ i) (h1 : i < (n : Int)) :
    (Instr.indexAt t (.slice (some ad) n c) (.int k i)).run P w = .ok (.pointer (some (ad.add (i.toNat * ti.size)))) w := by
  unfold Instr.indexAt
  simp [asIntOf, run_underlying ht, sizeOf, typeInfo, hi, h0, h1]
theorem and_of {x y : Bool} (h : and_ x y = true) : x = true ∧ y = true := by unfold and_ at h; simpa using h
theorem ile_of {x y : Int} (h : ile x y = true) : x ≤ y := by unfold ile at h; simpa using h
theorem ilt_of {x y : Int} (h : ilt x y = true) : x < y := by unfold ilt at h; simpa using h
/-- The slice of a region, as the machine has it. -/
theorem Core.rootSl (h : Core C G s w) {r : Nat} {g : Reg} (hg : s.reg r = some g) : ∃ A c, G.root r = .slice A g.xs.length c ∧ g.xs.length ≤ c ∧ (0 < g.xs.length → ∃ gb, A = some ⟨gb, 0, none⟩) := by
  obtain ⟨v, cells, fps, e1, ho, e2, hel⟩ := (h.reg r g hg).1
  obtain rfl : G.root r = v := by simpa using e1
  obtain ⟨A, c, hs, hc, hA⟩ := own_le ho
  exact ⟨A, c, hs, hc, fun h0 => by obtain ⟨gb, rfl, _⟩ := hA h0; exact ⟨gb, rfl⟩⟩
theorem op_indexAddr (hE : EnvOk P E) (h : Inv C G s a w) {o : Oper} (hd : ∀ t, o.dst = some t → t < C.nt) {H : Hints} {t : TypeId} {x i : Operand} (ho : o.op = .indexAddr t x i) {q : Bool} {s' : St} (hs : astep E H s o = some (q, s')) (hq : q = true) : OpOk P C s' a o w := by
  unfold astep at hs
  simp only [ho] at hs
  split at hs
  · rename_i e u c k n hu hx hi
    have hx' := cell_ok h hx
    have hn : a.eval i = .int k n := cell_ok h hi
    obtain ⟨ti, _, _, hf⟩ := hE.ty hu
    obtain ⟨hund, hue⟩ := hf.slice
    obtain ⟨tie, _, _, hfe⟩ := hE.ty hue
    obtain ⟨inf, z, hinf, _, hsz, _⟩ := hfe.info
    have run : ∀ {ad : Addr} {m c' : Nat}, a.eval x = .slice (some ad) m c' → 0 ≤ n → n < (m : Int) → (execOp a.eval o).run P w = .ok (.value (.pointer (some (ad.add (n.toNat * u.size))))) w := by
      intro ad m c' hv h0 h1
      unfold execOp
      simp only [ho, hv, hn]
      simp [run_place hund hinf h0 h1, hsz]
    split at hs
    · rename_i r
      split at hs
      · rename_i g hg
        cases hsize : (g.t.size == u.size) with
        | false => rw [hsize] at hs; cases hs
        | true =>
          rw [hsize] at hs
          simp only [cond_true, Option.some.injEq, Prod.mk.injEq] at hs
          obtain ⟨h1, rfl⟩ := hs
          obtain ⟨b1, b2⟩ := and_of (h1.trans hq)
          have b1 := ile_of b1
          have b2 := ilt_of b2
          have hlen : n < (g.xs.length : Int) := b2
          obtain ⟨A, c', hr, hc', hA⟩ := h.toCore.rootSl hg
          obtain ⟨gb, rfl⟩ := hA (by omega)
          obtain ⟨g', hg', hv⟩ := hx'
          rw [hr] at hv
          have hs2 : g.t.size = u.size := beq_iff_eq.1 hsize
          refine OpOk.put h hd ?_ (run hv b1 hlen)
          exact ⟨g, gb, _, c', hg, hr, b1, hlen, by rw [add_none, hs2, Nat.zero_add, Nat.add_zero]⟩
      · cases hs
    · rename_i r z' lo m
      split at hs
      · rename_i g hg
        cases hsize : (g.t.size == u.size) with
        | false => rw [hsize] at hs; cases hs
        | true =>
          rw [hsize] at hs
          simp only [cond_true, Option.some.injEq, Prod.mk.injEq] at hs
          obtain ⟨h1, rfl⟩ := hs
          obtain ⟨b1, b2⟩ := and_of (h1.trans hq)
          have b1 := ile_of b1
          have b2 := ilt_of b2
          have hs2 : g.t.size = u.size := beq_iff_eq.1 hsize
          obtain ⟨g', A, len, c', hg', hr, k1, k2, k3, k4, hv⟩ := hx'
          obtain rfl : g' = g := by rw [hg] at hg'; exact (Option.some.inj hg').symm
          obtain ⟨A', c2, hr', hc', hA⟩ := h.toCore.rootSl hg
          obtain ⟨rfl, rfl, rfl⟩ : A = A' ∧ len = g'.xs.length ∧ c' = c2 := by rw [hr] at hr'; simpa using hr'
          obtain ⟨gb, rfl⟩ := hA (by omega)
          rw [if_neg (by omega)] at hv
          refine OpOk.put h hd ?_ (run hv b1 (by omega))
          have e1 : (iadd lo n).toNat = lo.toNat + n.toNat := by unfold iadd; omega
          exact ⟨g', gb, _, c', hg, hr, by unfold iadd; omega, by unfold iadd; omega, by simp only [add_none]; rw [e1, hs2, Nat.add_mul, Nat.zero_add, Nat.add_zero]⟩
      · cases hs
    · rename_i e' u' xs
      cases hsize : (u'.size == u.size) with
      | false => rw [hsize] at hs; cases hs
      | true =>
        rw [hsize] at hs
        simp only [cond_true, Option.some.injEq, Prod.mk.injEq] at hs
        obtain ⟨h1, rfl⟩ := hs
        obtain ⟨b1, b2⟩ := and_of (h1.trans hq)
        have b1 := ile_of b1
        have b2 : n < (xs.length : Int) := ilt_of b2
        have hs2 : u'.size = u.size := beq_iff_eq.1 hsize
        obtain ⟨p, c', hv, hc', hh⟩ := hx'
        obtain ⟨ad, rfl, hI, cs, hcs, hr⟩ := hh n.toNat (by omega)
        have hv' : a.eval x = .slice (some ad) xs.length c' := by simpa using hv
        refine OpOk.put h hd ?_ (run hv' b1 b2)
        refine ⟨ad.add (n.toNat * u.size), cs, rfl, by rw [add_block]; exact hI, fun j v hj => ?_, ?_⟩
        · rw [add_add, ← hs2]; exact hcs j v hj
        · rw [lget_at xs n b1 b2]; exact hr
    · simp only [Option.some.injEq, Prod.mk.injEq] at hs
      obtain ⟨h1, _⟩ := hs
      rw [← h1] at hq; cases hq
    · cases hs
  · cases hs
theorem op_index (hE : EnvOk P E) (h : Inv C G s a w) {o : Oper} (hd : ∀ t, o.dst = some t → t < C.nt) {H : Hints} {t : TypeId} {x i : Operand} (ho : o.op = .index t x i) {q : Bool} {s' : St} (hs : astep E H s o = some (q, s')) (hq : q = true) : OpOk P C s' a o w := by
  unfold astep at hs
  simp only [ho] at hs
  split at hs
  · rename_i b k n hu hx hi
    have hx' : a.eval x = .string b := opnd_ok h hx
    have hn : a.eval i = .int k n := cell_ok h hi
    obtain ⟨ti, _, _, hf⟩ := hE.ty hu
    simp only [Option.some.injEq, Prod.mk.injEq] at hs
    obtain ⟨h1, rfl⟩ := hs
    obtain ⟨b1, b2⟩ := and_of (h1.trans hq)
    have b1 := ile_of b1
    have b2 : n < (b.size : Int) := ilt_of b2
    have hlt : n.toNat < b.size := by omega
    refine OpOk.put h hd (v := .int .u8 (sat b n)) rfl ?_
    unfold execOp
    simp only [ho, hx', hn]
    have hg : b[n.toNat]? = some b[n.toNat] := by simp [hlt]
    simp [Instr.index, asIntOf, run_underlying hf.str, b1, hlt, sat, bt]
  · cases hs
/-- The slice at a place of a region's value. -/
theorem DRep.inn {e' : TypeId} {t' : Ty} : ∀ {t : Ty} {x : t.den} {vs : List Value} {fp : List Nat} {off : Nat} {l : List t'.den}, DRep w t x vs fp → innAt e' t' t off x = some l → ∃ v f, vs[off]? = some v ∧ DRep w (.sl e' t') l [v] f ∧ ∀ k ∈ f, k ∈ fp
  | .sl e t, x, vs, fp, off, l, h, hi => by
    unfold innAt at hi
    cases hb : (off == 0 && e == e') with
    | false => rw [hb] at hi; cases hi
    | true =>
      rw [hb] at hi
      simp only [Bool.and_eq_true, beq_iff_eq] at hb
      obtain ⟨rfl, rfl⟩ := hb
      obtain ⟨eq, rfl⟩ := cast_some hi
      obtain rfl : t = t' := by injection eq
      obtain ⟨v, cells, fps, rfl, h1, h2, h3⟩ := h
      exact ⟨v, fp, rfl, ⟨v, cells, fps, rfl, h1, h2, h3⟩, fun _ hk => hk⟩
  | .pair a b, x, vs, fp, off, l, h, hi => by
    obtain ⟨v1, v2, f1, f2, rfl, rfl, h1, h2⟩ := h
    unfold innAt at hi
    cases hb : Nat.blt off a.size with
    | true =>
      rw [hb] at hi
      obtain ⟨v, f, hv, hr, hf⟩ := h1.inn hi
      exact ⟨v, f, by rw [List.getElem?_append_left (List.getElem?_eq_some_iff.1 hv).1]; exact hv, hr, fun k hk => List.mem_append.2 (.inl (hf k hk))⟩
    | false =>
      rw [hb] at hi
      obtain ⟨v, f, hv, hr, hf⟩ := h2.inn hi
      have hlt : ¬ off < a.size := fun hlt => by rw [show Nat.blt off a.size = true from Nat.ble_eq_true_of_le hlt] at hb; cases hb
      exact ⟨v, f, by rw [List.getElem?_append_right (by rw [h1.length]; omega), h1.length]; exact hv, hr, fun k hk => List.mem_append.2 (.inr (hf k hk))⟩
  | .int _, _, _, _, _, _, _, hi => by unfold innAt at hi; cases hi
  | .bool, _, _, _, _, _, _, hi => by unfold innAt at hi; cases hi
  | .str, _, _, _, _, _, _, hi => by unfold innAt at hi; cases hi
  | .unit, _, _, _, _, _, _, hi => by unfold innAt at hi; cases hi
  | .opq, _, _, _, _, _, _, hi => by unfold innAt at hi; cases hi
theorem Core.inn (h : Core C G s w) {r : Nat} {i : Int} {off : Nat} {e : TypeId} {t : Ty} {v : Value} (hc : CRep G s.reg w (.inn r i off e t) v) {g : Reg} (hg : s.reg r = some g) {l : List t.den} (hl : innAt e t g.t off (lget g.xs i) = some l) :
    ∃ f, DRep w (.sl e t) l [v] f ∧ ∀ k ∈ f, k ∈ G.fp r := by
  obtain ⟨g', gb, n, c, hg', hr, h0, h1, hcell, ho⟩ := hc
  obtain rfl : g' = g := by rw [hg] at hg'; exact (Option.some.inj hg').symm
  obtain ⟨gb', c', cells, f, hr', hcells, hx, hf, _⟩ := h.elem hg (i := i.toNat) (by omega)
  obtain ⟨rfl, _, _⟩ : gb = gb' ∧ n = g'.xs.length ∧ c = c' := by rw [hr] at hr'; simpa using hr'
  rw [lget_at g'.xs i h0 h1] at hl
  obtain ⟨u, f', hu, hd, hsub⟩ := hx.inn hl
  rw [hcells off u hu] at hcell
  obtain rfl := Option.some.inj hcell
  exact ⟨f', hd, fun k hk => hf k (hsub k hk)⟩
theorem slice_len (h : Core C G s w) {c : Cell} {v : Value} (hc : CRep G s.reg w c v) {e : TypeId} {u : Ty} {xs : List u.den} (hs : s.slice c = some ⟨e, u, xs⟩) : ∃ A cap, v = .slice A xs.length cap ∧ xs.length ≤ cap := by
  cases c with
  | nil e' t => simp only [St.slice, Option.some.injEq] at hs; cases hs; exact ⟨none, 0, hc, Nat.le_refl _⟩
  | own r =>
    obtain ⟨g, hg, rfl⟩ := hc
    simp only [St.slice, hg, Option.map_some, Option.some.injEq] at hs
    cases hs
    obtain ⟨A, c, hr, hl, _⟩ := h.rootSl hg
    exact ⟨A, c, hr, hl⟩
  | sub r z lo n =>
    obtain ⟨g, A, len, c, hg, hr, k1, k2, k3, k4, rfl⟩ := hc
    simp only [St.slice, hg, Option.map_some, Option.some.injEq] at hs
    cases hs
    obtain ⟨A', c', hr', hl, _⟩ := h.rootSl hg
    obtain ⟨rfl, rfl, rfl⟩ : A = A' ∧ len = g.xs.length ∧ c = c' := by rw [hr] at hr'; simpa using hr'
    exact ⟨_, _, by rw [lcut_length _ k1 k2 k3], by rw [lcut_length _ k1 k2 k3]; omega⟩
  | inn r i o e' t =>
    have hc' := hc
    obtain ⟨g, _, _, _, hg, _⟩ := hc'
    simp only [St.slice, hg, Option.bind_some] at hs
    cases hin : innAt e' t g.t o (lget g.xs i) with
    | none => rw [hin] at hs; cases hs
    | some l =>
      rw [hin] at hs
      simp only [Option.map_some, Option.some.injEq] at hs
      cases hs
      obtain ⟨f, hd, _⟩ := h.inn hc hg hin
      obtain ⟨v', cells, fps, e1, ho, _⟩ := hd
      obtain rfl : v = v' := by simpa using e1
      obtain ⟨A, c, hsl, hl, _⟩ := own_le ho
      exact ⟨A, c, hsl, hl⟩
  | view e' t xs' =>
    simp only [St.slice, Option.some.injEq] at hs
    cases hs
    obtain ⟨p, c, e1, hl, _⟩ := hc
    exact ⟨p, c, by simpa using e1, hl⟩
  | _ => simp [St.slice] at hs
/-! ### builtins -/
theorem op_len (hE : EnvOk P E) (h : Inv C G s a w) {o : Oper} (hd : ∀ t, o.dst = some t → t < C.nt) {H : Hints} {xs : Array Operand} {ts : Array TypeId} (ho : o.op = .call { callee := .builtin .len, args := xs, argTypes := ts }) {q : Bool} {s' : St} (hs : astep E H s o = some (q, s')) : OpOk P C s' a o w := by
  unfold astep at hs
  simp only [ho] at hs
  split at hs
  · rename_i x t hx0 ht0
    have run : ∀ {n : Nat}, (Builtin.len_ ts o.type (xs.map a.eval)).run P w = .ok (goInt n) w → (execOp a.eval o).run P w = .ok (.value (.int .i64 n)) w := by
      intro n hr
      unfold execOp
      simp only [ho]
      simp [resolve, invoke, builtin, hr, goInt]
    have e0 : (xs.map a.eval)[0]? = some (a.eval x) := by rw [Array.getElem?_map, hx0]; rfl
    split at hs
    · rename_i b hu hx
      obtain ⟨rfl, rfl⟩ := ok_some hs
      obtain ⟨ti, _, _, hf⟩ := hE.ty hu
      have hx' : a.eval x = .string b := cell_ok h hx
      refine OpOk.put h hd (v := .int .i64 (slen b)) rfl (run ?_)
      unfold Builtin.len_
      simp [ht0, e0, hx', run_underlying hf.str]
    · rename_i e u c hu hx
      obtain ⟨ti, _, _, hf⟩ := hE.ty hu
      have hx' := cell_ok h hx
      split at hs
      · rename_i e' u' l hsl
        obtain ⟨rfl, rfl⟩ := ok_some hs
        obtain ⟨A, cap, hv, _⟩ := slice_len h.toCore hx' hsl
        refine OpOk.put h hd (v := .int .i64 (llen l)) rfl (run ?_)
        unfold Builtin.len_
        simp [ht0, e0, hv, run_underlying hf.slice.1]
      · split at hs
        · rename_i n
          obtain ⟨rfl, rfl⟩ := ok_some hs
          obtain ⟨p, l, cap, hv, rfl⟩ := hx'
          refine OpOk.put h hd (v := .int .i64 (l : Int)) rfl (run ?_)
          unfold Builtin.len_
          simp [ht0, e0, hv, run_underlying hf.slice.1]
        · cases hs
    · cases hs
  · cases hs
end

end Go.Proofs.Ytigkodlbjimikaa.Vc
