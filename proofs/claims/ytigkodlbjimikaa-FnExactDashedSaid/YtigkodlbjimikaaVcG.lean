/- How states move: regions still, regions and variables new, stores. -/
import Derived.Test.YtigkodlbjimikaaVcF
namespace Go.Proofs.Ytigkodlbjimikaa.Vc
open Go Go.RowKit
set_option linter.unusedVariables false
set_option linter.unusedSimpArgs false

theorem cast_some {s t : Ty} {x : s.den} {y : t.den} (h : cast s t x = some y) : ∃ e : s = t, y = e ▸ x := by
  unfold cast at h
  by_cases e : s = t
  · rw [dif_pos e] at h; exact ⟨e, (Option.some.inj h).symm⟩
  · rw [dif_neg e] at h; cases h
theorem cast_self {t : Ty} (x : t.den) : cast t t x = some x := by unfold cast; rw [dif_pos rfl]
theorem lcut_length {α : Type} (xs : List α) {lo n : Int} (h0 : 0 ≤ lo) (h1 : 0 ≤ n) (h2 : lo + n ≤ (xs.length : Int)) : (lcut xs lo n).length = n.toNat := by
  unfold lcut; rw [List.length_take, List.length_drop]; omega
/-- A cut of what stays. -/
theorem VRep.cut {I : Nat → Prop} {w : World} {e : TypeId} {t : Ty} {xs : List t.den} {A : Option Addr} {len c : Nat} {lo n : Int} (h : VRep I w (.sl e t) xs [.slice A len c]) (h0 : 0 ≤ lo) (h1 : 0 ≤ n) (h2 : lo + n ≤ (xs.length : Int)) :
    VRep I w (.sl e t) (lcut xs lo n) [.slice (if c = lo.toNat then A else A.map (·.add (lo.toNat * t.size))) n.toNat (c - lo.toNat)] := by
  obtain ⟨p, c', e1, hc, hh⟩ := h
  obtain ⟨rfl, rfl, rfl⟩ : A = p ∧ len = xs.length ∧ c = c' := by simpa using e1
  have hl := lcut_length xs h0 h1 h2
  refine ⟨_, _, by rw [hl], by rw [hl]; omega, fun i hi => ?_⟩
  rw [hl] at hi
  obtain ⟨ad, hp, ha, cs, hcs, hr⟩ := hh (lo.toNat + i) (by omega)
  refine ⟨ad.add (lo.toNat * t.size), ?_, by rw [add_block]; exact ha, cs, fun j v hj => ?_, ?_⟩
  · rw [if_neg (by omega), hp]; rfl
  · rw [add_add, ← Nat.add_assoc, ← Nat.add_mul]; exact hcs j v hj
  · have : (lcut xs lo n)[i]'(by rw [hl]; exact hi) = xs[lo.toNat + i]'(by omega) := by
      simp only [lcut, List.getElem_take, List.getElem_drop]
    rw [this]; exact hr
/-- The slice at a place of a value that stays. -/
theorem VRep.inn {I : Nat → Prop} {w : World} {e' : TypeId} {t' : Ty} : ∀ {t : Ty} {x : t.den} {vs : List Value} {off : Nat} {l : List t'.den}, VRep I w t x vs → innAt e' t' t off x = some l → ∃ v, vs[off]? = some v ∧ VRep I w (.sl e' t') l [v]
  | .sl e t, x, vs, off, l, h, hi => by
    unfold innAt at hi
    cases hb : (off == 0 && e == e') with
    | false => rw [hb] at hi; cases hi
    | true =>
      rw [hb] at hi
      simp only [Bool.and_eq_true, beq_iff_eq] at hb
      obtain ⟨rfl, rfl⟩ := hb
      obtain ⟨eq, rfl⟩ := cast_some hi
      obtain rfl : t = t' := by injection eq
      obtain ⟨p, c, rfl, hc, hh⟩ := h
      exact ⟨_, rfl, p, c, rfl, hc, hh⟩
  | .pair a b, x, vs, off, l, h, hi => by
    obtain ⟨v1, v2, rfl, h1, h2⟩ := h
    unfold innAt at hi
    cases hb : Nat.blt off a.size with
    | true =>
      rw [hb] at hi
      obtain ⟨v, hv, hr⟩ := h1.inn hi
      exact ⟨v, by rw [List.getElem?_append_left (List.getElem?_eq_some_iff.1 hv).1]; exact hv, hr⟩
    | false =>
      rw [hb] at hi
      obtain ⟨v, hv, hr⟩ := h2.inn hi
      have hlt : ¬ off < a.size := fun hlt => by rw [show Nat.blt off a.size = true from Nat.ble_eq_true_of_le hlt] at hb; cases hb
      exact ⟨v, by rw [List.getElem?_append_right (by rw [h1.length]; omega), h1.length]; exact hv, hr⟩
  | .int _, _, _, _, _, _, hi => by unfold innAt at hi; cases hi
  | .bool, _, _, _, _, _, hi => by unfold innAt at hi; cases hi
  | .str, _, _, _, _, _, hi => by unfold innAt at hi; cases hi
  | .unit, _, _, _, _, _, hi => by unfold innAt at hi; cases hi
  | .opq, _, _, _, _, _, hi => by unfold innAt at hi; cases hi
theorem lget_at {t : Ty} (xs : List t.den) (i : Int) (h0 : 0 ≤ i) (h1 : i < (xs.length : Int)) : lget xs i = xs[i.toNat]'(by omega) := by
  unfold lget; rw [List.getD_eq_getElem?_getD, List.getElem?_eq_getElem (by omega)]; rfl

/-! ### a region stays from here on -/
def Gh.still (G : Gh) (r : Nat) : Gh := { G with I := fun k => G.I k ∨ k ∈ G.fp r }
theorem still_reg (r : Nat) (s : St) (q : Nat) : (s.still r).reg q = if q = r then none else s.reg q := get_del r q s.regs
theorem still_reg_some {r : Nat} {s : St} {q : Nat} {g : Reg} (h : (s.still r).reg q = some g) : q ≠ r ∧ s.reg q = some g := by
  rw [still_reg] at h
  by_cases e : q = r
  · rw [if_pos e] at h; cases h
  · rw [if_neg e] at h; exact ⟨e, h⟩
theorem Core.still_root {C : Ctx} {G : Gh} {s : St} {w : World} (h : Core C G s w) {r : Nat} {g : Reg} (hg : s.reg r = some g) : VRep (G.still r).I w (.sl g.e g.t) g.xs [G.root r] :=
  (h.reg r g hg).1.still fun k hk => .inr hk
theorem Core.still_cell {C : Ctx} {G : Gh} {s : St} {w : World} (h : Core C G s w) (r : Nat) {c : Cell} {v : Value} (hc : CRep G s.reg w c v) : CRep (G.still r) (s.still r).reg w (Cell.still s r c) v := by
  have key : ∀ c, CRep G s.reg w c v → c.of ≠ some r → CRep (G.still r) (s.still r).reg w c v := fun c hc hne =>
    CRep.move (G := G) (G' := G.still r) (fun _ hk => Or.inl hk) (fun _ _ => rfl) (fun _ hb => ⟨hb, rfl⟩) (fun q hq => ⟨fun g hg => ⟨g, by rw [still_reg, if_neg (fun e => hne (by rw [hq, e]))]; exact hg, rfl, rfl⟩, rfl, fun _ _ _ _ => rfl⟩) hc
  unfold Cell.still
  cases hof : c.of with
  | none => exact key c hc (by rw [hof]; exact fun e => by cases e)
  | some q =>
    by_cases e : q = r
    · subst e
      simp only [beq_self_eq_true, cond_true]
      cases c with
      | own r' =>
        obtain rfl : r' = q := Option.some.inj hof
        obtain ⟨g, hg, rfl⟩ := hc
        simp only [St.slice, hg, Option.map_some]
        exact h.still_root hg
      | sub r' z lo n =>
        obtain rfl : r' = q := Option.some.inj hof
        obtain ⟨g, A, len, c, hg, hr, h0, h1, h2, h3, rfl⟩ := hc
        simp only [St.slice, hg, Option.map_some]
        have hv := h.still_root hg
        rw [hr] at hv
        exact hv.cut h0 h1 h2
      | inn r' i off e t =>
        obtain rfl : r' = q := Option.some.inj hof
        have h1 := h.oneInn hc
        obtain ⟨g, gb, n, c, hg, hr, h0, hlt, hcell, ho⟩ := hc
        obtain ⟨gb', c', cells, f, hr', hcells, hx, hf, _⟩ := h.elem hg (i := i.toNat) (by omega)
        obtain ⟨rfl, _, _⟩ : gb = gb' ∧ n = g.xs.length ∧ c = c' := by rw [hr] at hr'; simpa using hr'
        simp only [St.slice, hg, Option.bind_some]
        cases hin : innAt e t g.t off (lget g.xs i) with
        | none => simp only [Option.map_none]; exact h1
        | some l =>
          simp only [Option.map_some]
          rw [lget_at g.xs i h0 hlt] at hin
          obtain ⟨u, hu, hv⟩ := (hx.still (I := (G.still r').I) (fun k hk => .inr (hf k hk))).inn hin
          rw [hcells off u hu] at hcell
          obtain rfl := Option.some.inj hcell
          exact hv
      | eptr r' i off =>
        obtain rfl : r' = q := Option.some.inj hof
        obtain ⟨g, gb, n, c, hg, hr, h0, hlt, rfl⟩ := hc
        obtain ⟨gb', c', cells, f, hr', hcells, hx, hf, hgb⟩ := h.elem hg (i := i.toNat) (by omega)
        obtain ⟨rfl, _, _⟩ : gb = gb' ∧ n = g.xs.length ∧ c = c' := by rw [hr] at hr'; simpa using hr'
        simp only [hg]
        refine ⟨⟨gb, i.toNat * g.t.size, none⟩, cells, ?_, .inr hgb, fun j u hj => ?_, ?_⟩
        · congr 2; unfold Addr.add; split <;> simp_all
        · have := hcells j u hj
          rw [show (⟨gb, i.toNat * g.t.size, none⟩ : Addr).add j = ⟨gb, i.toNat * g.t.size + j, none⟩ by unfold Addr.add; split <;> simp_all]
          exact this
        · rw [lget_at g.xs i h0 hlt]; exact hx.still fun k hk => .inr (hf k hk)
      | int k n => cases hof
      | bool b => cases hof
      | str b => cases hof
      | nil e t => cases hof
      | view e t xs => cases hof
      | ptr b off => cases hof
      | vptr t x off => cases hof
      | fn f caps => cases hof
      | gone n => cases hof
      | bad => cases hof
    · have e2 : (q == r) = false := by simp [e]
      simp only [e2, cond_false]
      exact key c hc (by rw [hof]; exact fun e' => e (Option.some.inj e'))
theorem Core.still {C : Ctx} {G : Gh} {s : St} {w : World} (h : Core C G s w) {r : Nat} (hr : (s.reg r).isSome = true) : Core C (G.still r) (s.still r) w := by
  have bx : ∀ {b x}, get (s.still r).boxes b = some x → ∃ y, get s.boxes b = some y ∧ x = { y with cells := y.cells.map (Cell.still s r) } := fun hb => map_box hb
  obtain ⟨g0, hg0⟩ := Option.isSome_iff_exists.1 hr
  refine ⟨?_, ?_, ?_, ?_, ?_, ?_, ?_, ?_, ?_, ?_, ?_, h.frame, ?_, ?_, (fun k hk => .inl (h.i0 k hk)), ?_⟩
  · intro b x hb
    obtain ⟨y, hy, rfl⟩ := bx hb
    obtain ⟨arr, h1, h2⟩ := h.box b y hy
    exact ⟨arr, h1, h2.map _ fun c v hc => h.still_cell r hc⟩
  · intro q g hq; exact h.reg q g (still_reg_some hq).2
  · intro b hb; rw [show get (s.still r).boxes b = get (s.map (Cell.still s r)).boxes b from rfl, map_boxSome]; exact h.pb b hb
  · intro b b' x x' hb hb'; obtain ⟨y, hy, _⟩ := bx hb; obtain ⟨y', hy', _⟩ := bx hb'; exact h.bb b b' y y' hy hy'
  · intro q q' g g' hq hq'; exact h.rr q q' g g' (still_reg_some hq).2 (still_reg_some hq').2
  · intro q g b x hq hb; obtain ⟨y, hy, _⟩ := bx hb; exact h.rb q g b y (still_reg_some hq).2 hy
  · intro b x hb hI
    obtain ⟨y, hy, _⟩ := bx hb
    rcases hI with hI | hI
    · exact h.ib b y hy hI
    · exact h.rb r g0 b y hg0 hy hI
  · intro q g k hq hk hI
    obtain ⟨hne, hq'⟩ := still_reg_some hq
    rcases hI with hI | hI
    · exact h.ir q g k hq' hk hI
    · exact h.rr q r g g0 hq' hg0 hne k hk hI
  · intro b x hb; obtain ⟨y, hy, _⟩ := bx hb; exact h.ob b y hy
  · intro q g k hq; exact h.or q g k (still_reg_some hq).2
  · intro k hk
    rcases hk with hk | hk
    · exact h.ilt k hk
    · obtain ⟨v, cells, fps, e1, ho, e2, hel⟩ := (h.reg r g0 hg0).1
      exact DRep.lt (h.reg r g0 hg0).1 k hk
  · intro b k hb; rw [show get (s.still r).boxes b = get (s.map (Cell.still s r)).boxes b from rfl, map_boxSome]; exact h.home b k hb
  · intro q g j hq; exact h.orig q g j (still_reg_some hq).2
  · intro k hk
    rcases hk with hk | hk
    · exact h.i1 k hk
    · exact .inr (h.or r g0 k hg0 hk)
theorem Inv.still {C : Ctx} {G : Gh} {s : St} {a : Act} {w : World} (h : Inv C G s a w) {r : Nat} (hr : (s.reg r).isSome = true) : Inv C (G.still r) (s.still r) a w :=
  h.step (h.toCore.still hr) (Cell.still s r) rfl fun c v hc => h.toCore.still_cell r hc

end Go.Proofs.Ytigkodlbjimikaa.Vc
