/- How states move: slots filled, regions gone, still, new; variables new. -/
import Derived.Test.YtigkodlbjimikaaVcE
namespace Go.Proofs.Ytigkodlbjimikaa.Vc
open Go Go.RowKit
set_option linter.unusedVariables false
set_option linter.unusedSimpArgs false

/-! ### a slot is filled -/
theorem Inv.put {C : Ctx} {G : Gh} {s : St} {a : Act} {w : World} (h : Inv C G s a w) {d : Tmp} (hd : d < C.nt) {x : AVal} {v : Value} (hv : ARep G s.reg w x v) : Inv C G (s.put (some d) x) (a.put (some d) v) w := by
  refine { toCore := ?_, defers := h.defers, size := ?_, tmp := ?_ }
  · exact ⟨h.box, h.reg, h.pb, h.bb, h.rr, h.rb, h.ib, h.ir, h.ob, h.or, h.ilt, h.frame, h.home, h.orig, h.i0, h.i1⟩
  · show (a.tmps.setIfInBounds d v).size = _
    rw [Array.size_setIfInBounds]; exact h.size
  · intro t y hy
    have hy' : get (ins d x s.tmps) t = some y := hy
    rw [get_ins] at hy'
    show ARep G s.reg w y ((a.tmps.setIfInBounds d v).getD t undef)
    by_cases e : t = d
    · subst e
      rw [if_pos rfl] at hy'
      obtain rfl := Option.some.inj hy'
      rw [Array.getD_eq_getD_getElem?, Array.getElem?_setIfInBounds, if_pos rfl, if_pos (by rw [h.size]; exact hd)]
      exact hv
    · rw [if_neg e] at hy'
      have := h.tmp t y hy'
      rwa [Array.getD_eq_getD_getElem?, Array.getElem?_setIfInBounds, if_neg (Ne.symm e), ← Array.getD_eq_getD_getElem?]
/-- The slots go along. -/
theorem Inv.step {C : Ctx} {G G' : Gh} {s s' : St} {a : Act} {w w' : World} (h : Inv C G s a w) (hc : Core C G' s' w') (f : Cell → Cell) (ht : s'.tmps = mapv (AVal.map f) s.tmps)
    (hf : ∀ c v, CRep G s.reg w c v → CRep G' s'.reg w' (f c) v) : Inv C G' s' a w' := by
  refine { toCore := hc, defers := h.defers, size := h.size, tmp := ?_ }
  intro t y hy
  rw [ht, get_mapv] at hy
  cases hg : get s.tmps t with
  | none => rw [hg] at hy; cases hy
  | some x =>
    rw [hg] at hy
    obtain rfl := Option.some.inj hy
    exact (h.tmp t x hg).map f hf
theorem mapv_id {l : List (Nat × AVal)} : mapv (AVal.map id) l = l := by
  induction l with
  | nil => rfl
  | cons x l ih => obtain ⟨k, v⟩ := x; simp [mapv, AVal.map_id, ih]
theorem Inv.step0 {C : Ctx} {G G' : Gh} {s s' : St} {a : Act} {w w' : World} (h : Inv C G s a w) (hc : Core C G' s' w') (ht : s'.tmps = s.tmps)
    (hf : ∀ c v, CRep G s.reg w c v → CRep G' s'.reg w' c v) : Inv C G' s' a w' :=
  h.step hc id (by rw [mapv_id]; exact ht) hf

/-! ### values of one cell -/
theorem Core.one {C : Ctx} {G : Gh} {s : St} {w : World} (h : Core C G s w) {c : Cell} {v : Value} (hc : CRep G s.reg w c v) (hi : ∀ r i off e t, c ≠ .inn r i off e t) : v.oneCell' = true := by
  cases c with
  | int k n => subst hc; rfl
  | bool b => subst hc; rfl
  | str b => subst hc; rfl
  | nil e t => subst hc; rfl
  | own r =>
    obtain ⟨g, hg, rfl⟩ := hc
    exact (h.reg r g hg).1.one _ (by simp)
  | sub r z lo n => obtain ⟨g, A, len, c, _, _, _, _, _, _, rfl⟩ := hc; rfl
  | inn r i off e t => exact absurd rfl (hi r i off e t)
  | view e t xs => exact hc.one _ (by simp)
  | ptr b off => rw [hc.2]; rfl
  | eptr r i off => obtain ⟨g, gb, n, c, _, _, _, _, rfl⟩ := hc; rfl
  | vptr t x off => obtain ⟨ad, cs, rfl, _⟩ := hc; rfl
  | fn f caps => rw [hc.2]; rfl
  | gone n => obtain ⟨p, l, c, rfl, _⟩ := hc; rfl
  | bad => exact hc
/-- The cells of a region's elements, in memory. -/
theorem Core.elem {C : Ctx} {G : Gh} {s : St} {w : World} (h : Core C G s w) {r : Nat} {g : Reg} (hg : s.reg r = some g) {i : Nat} (hi : i < g.xs.length) :
    ∃ gb c cells f, G.root r = .slice (some ⟨gb, 0, none⟩) g.xs.length c ∧ (∀ j v, cells[j]? = some v → w.cell? ⟨gb, i * g.t.size + j, none⟩ = some v) ∧ DRep w g.t g.xs[i] cells f ∧ (∀ k ∈ f, k ∈ G.fp r) ∧ gb ∈ G.fp r := by
  obtain ⟨v, cells, fps, e1, ho, e2, hel⟩ := (h.reg r g hg).1
  obtain rfl : G.root r = v := by simpa using e1
  obtain ⟨A, c, hs, hc, hA⟩ := own_le ho
  obtain ⟨gb, rfl, hb, hcell⟩ := hA (by omega)
  obtain ⟨c1, cc, c2, f1, f, f2, rfl, rfl, hl, _, hx, _⟩ := hel.at_ (size := g.t.size) (fun _ _ _ h => h.length) i hi
  refine ⟨gb, c, cc, f, hs, fun j v hj => ?_, hx, fun k hk => by rw [e2]; simp [hk], by rw [e2, hb]; simp⟩
  refine hcell _ _ ?_
  rw [List.getElem?_append_right (by omega), hl, Nat.add_sub_cancel_left, List.getElem?_append_left (List.getElem?_eq_some_iff.1 hj).1]
  exact hj
theorem Core.oneInn {C : Ctx} {G : Gh} {s : St} {w : World} (h : Core C G s w) {c : Cell} {v : Value} (hc : CRep G s.reg w c v) : v.oneCell' = true := by
  cases c with
  | inn r i off e t =>
    obtain ⟨g, gb, n, c, hg, hr, h0, h1, hcell, ho⟩ := hc
    obtain ⟨gb', c', cells, f, hr', hcells, hx, _, _⟩ := h.elem hg (i := i.toNat) (by omega)
    obtain ⟨rfl, _, _⟩ : gb = gb' ∧ n = g.xs.length ∧ c = c' := by rw [hr] at hr'; simpa using hr'
    have hlen := hx.length
    have hj : cells[off]? = some (cells[off]'(by omega)) := List.getElem?_eq_getElem (by omega)
    rw [hcells off _ hj] at hcell
    obtain rfl := Option.some.inj hcell
    exact hx.one _ (List.getElem_mem _)
  | _ => exact h.one hc (fun _ _ _ _ _ e => by cases e)

/-! ### a region is gone -/
theorem St.map_reg (f : Cell → Cell) (s : St) : (s.map f).reg = s.reg := rfl
theorem get_boxes_map (f : Cell → Cell) (s : St) (b : Nat) : get (s.map f).boxes b = (get s.boxes b).map fun x => { x with cells := x.cells.map f } := get_mapv _ _ _
theorem map_box {f : Cell → Cell} {s : St} {b : Nat} {x : Box} (h : get (s.map f).boxes b = some x) : ∃ y, get s.boxes b = some y ∧ x = { y with cells := y.cells.map f } := by
  rw [get_boxes_map] at h
  cases hy : get s.boxes b with
  | none => rw [hy] at h; cases h
  | some y => rw [hy] at h; exact ⟨y, rfl, (Option.some.inj h).symm⟩
theorem map_boxSome (f : Cell → Cell) (s : St) (b : Nat) : (get (s.map f).boxes b).isSome = (get s.boxes b).isSome := by rw [get_boxes_map, Option.isSome_map]
theorem drop_reg (r : Nat) (s : St) (q : Nat) : (s.drop r).reg q = if q = r then none else s.reg q := get_del r q s.regs
theorem drop_reg_some {r : Nat} {s : St} {q : Nat} {g : Reg} (h : (s.drop r).reg q = some g) : q ≠ r ∧ s.reg q = some g := by
  rw [drop_reg] at h
  by_cases e : q = r
  · rw [if_pos e] at h; cases h
  · rw [if_neg e] at h; exact ⟨e, h⟩
theorem Core.drop_cell {C : Ctx} {G : Gh} {s : St} {w : World} (h : Core C G s w) (r : Nat) {c : Cell} {v : Value} (hc : CRep G s.reg w c v) : CRep G (s.drop r).reg w (Cell.drop s r c) v := by
  have key : c.of ≠ some r → CRep G (s.drop r).reg w c v := fun hne =>
    CRep.move (fun _ hk => hk) (fun _ _ => rfl) (fun _ hb => ⟨hb, rfl⟩) (fun q hq => ⟨fun g hg => ⟨g, by rw [drop_reg, if_neg (fun e => hne (by rw [hq, e]))]; exact hg, rfl, rfl⟩, rfl, fun _ _ _ _ => rfl⟩) hc
  unfold Cell.drop
  cases hof : c.of with
  | none => exact key (by rw [hof]; exact fun e => by cases e)
  | some q =>
    by_cases e : q = r
    · subst e
      simp only [beq_self_eq_true, cond_true]
      cases c with
      | own r =>
        obtain rfl : r = q := Option.some.inj hof
        obtain ⟨g, hg, rfl⟩ := hc
        obtain ⟨v, cells, fps, e1, ho, e2, hel⟩ := (h.reg r g hg).1
        obtain rfl : G.root r = v := by simpa using e1
        obtain ⟨A, c, hs, _⟩ := own_le ho
        simp only [hg]
        exact ⟨A, _, c, hs, rfl⟩
      | _ => exact h.oneInn hc
    · have e2 : (q == r) = false := by simp [e]
      simp only [e2, cond_false]
      exact key (by rw [hof]; exact fun e' => e (Option.some.inj e'))
theorem Core.drop {C : Ctx} {G : Gh} {s : St} {w : World} (h : Core C G s w) (r : Nat) : Core C G (s.drop r) w := by
  have bx : ∀ {b x}, get (s.drop r).boxes b = some x → ∃ y, get s.boxes b = some y ∧ x = { y with cells := y.cells.map (Cell.drop s r) } := fun hb => map_box hb
  refine ⟨?_, ?_, ?_, ?_, ?_, ?_, ?_, ?_, ?_, ?_, h.ilt, h.frame, ?_, ?_, h.i0, h.i1⟩
  · intro b x hb
    obtain ⟨y, hy, rfl⟩ := bx hb
    obtain ⟨arr, h1, h2⟩ := h.box b y hy
    exact ⟨arr, h1, h2.map _ fun c v hc => h.drop_cell r hc⟩
  · intro q g hq; exact h.reg q g (drop_reg_some hq).2
  · intro b hb; rw [show get (s.drop r).boxes b = get (s.map (Cell.drop s r)).boxes b from rfl, map_boxSome]; exact h.pb b hb
  · intro b b' x x' hb hb'; obtain ⟨y, hy, _⟩ := bx hb; obtain ⟨y', hy', _⟩ := bx hb'; exact h.bb b b' y y' hy hy'
  · intro q q' g g' hq hq'; exact h.rr q q' g g' (drop_reg_some hq).2 (drop_reg_some hq').2
  · intro q g b x hq hb; obtain ⟨y, hy, _⟩ := bx hb; exact h.rb q g b y (drop_reg_some hq).2 hy
  · intro b x hb; obtain ⟨y, hy, _⟩ := bx hb; exact h.ib b y hy
  · intro q g k hq; exact h.ir q g k (drop_reg_some hq).2
  · intro b x hb; obtain ⟨y, hy, _⟩ := bx hb; exact h.ob b y hy
  · intro q g k hq; exact h.or q g k (drop_reg_some hq).2
  · intro b k hb; rw [show get (s.drop r).boxes b = get (s.map (Cell.drop s r)).boxes b from rfl, map_boxSome]; exact h.home b k hb
  · intro q g j hq; exact h.orig q g j (drop_reg_some hq).2
theorem Inv.drop {C : Ctx} {G : Gh} {s : St} {a : Act} {w : World} (h : Inv C G s a w) (r : Nat) : Inv C G (s.drop r) a w :=
  h.step (h.toCore.drop r) (Cell.drop s r) rfl fun c v hc => h.toCore.drop_cell r hc
theorem Inv.dropAll {C : Ctx} {G : Gh} {a : Act} {w : World} : ∀ (l : List Nat) {s : St}, Inv C G s a w → Inv C G (dropAll l s) a w
  | [], _, h => h
  | r :: l, s, h => by
    show Inv C G (Vc.dropAll l (s.drop r)) a w
    exact Inv.dropAll l (h.drop r)

end Go.Proofs.Ytigkodlbjimikaa.Vc
