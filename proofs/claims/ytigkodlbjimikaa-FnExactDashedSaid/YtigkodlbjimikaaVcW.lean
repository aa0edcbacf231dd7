/- Calls: what the caller hands over. -/
import Derived.Test.YtigkodlbjimikaaVcV
namespace Go.Proofs.Ytigkodlbjimikaa.Vc
open Go Go.RowKit
set_option linter.unusedVariables false
set_option linter.unusedSimpArgs false

section
variable {P : Program} {E : Env} {C : Ctx} {G : Gh} {s : St} {a : Act} {w : World}
theorem DRep.innS {e' : TypeId} {t' : Ty} : ∀ {t : Ty} {x : t.den} {vs : List Value} {fp : List Nat} {off : Nat} {l : List t'.den}, DRep w t x vs fp → innAt e' t' t off x = some l → ∃ v f, vs[off]? = some v ∧ DRep w (.sl e' t') l [v] f ∧ f.Sublist fp
  | .sl e t, x, vs, fp, off, l, h, hi => by
    unfold innAt at hi
    cases hb : (off == 0 && e == e') with
    | false => rw [hb] at hi; cases hi
    | true =>
      rw [hb] at hi
      simp only [Bool.and_eq_true, beq_iff_eq] at hb
      obtain ⟨rfl, rfl⟩ := hb
      obtain ⟨eq, rfl⟩ := cast_some hi
      obtain rfl : t = t' := by injection eq
      obtain ⟨v, cells, fps, rfl, h1, h2, h3⟩ := h
      exact ⟨v, fp, rfl, ⟨v, cells, fps, rfl, h1, h2, h3⟩, List.Sublist.refl _⟩
  | .pair a b, x, vs, fp, off, l, h, hi => by
    obtain ⟨v1, v2, f1, f2, rfl, rfl, h1, h2⟩ := h
    unfold innAt at hi
    cases hb : Nat.blt off a.size with
    | true =>
      rw [hb] at hi
      obtain ⟨v, f, hv, hr, hf⟩ := h1.innS hi
      exact ⟨v, f, by rw [List.getElem?_append_left (List.getElem?_eq_some_iff.1 hv).1]; exact hv, hr, hf.trans (List.sublist_append_left _ _)⟩
    | false =>
      rw [hb] at hi
      obtain ⟨v, f, hv, hr, hf⟩ := h2.innS hi
      have hlt : ¬ off < a.size := fun hlt => by rw [show Nat.blt off a.size = true from Nat.ble_eq_true_of_le hlt] at hb; cases hb
      exact ⟨v, f, by rw [List.getElem?_append_right (by rw [h1.length]; omega), h1.length]; exact hv, hr, hf.trans (List.sublist_append_right _ _)⟩
  | .int _, _, _, _, _, _, _, hi => by unfold innAt at hi; cases hi
  | .bool, _, _, _, _, _, _, hi => by unfold innAt at hi; cases hi
  | .str, _, _, _, _, _, _, hi => by unfold innAt at hi; cases hi
  | .unit, _, _, _, _, _, _, hi => by unfold innAt at hi; cases hi
  | .opq, _, _, _, _, _, _, hi => by unfold innAt at hi; cases hi
theorem Core.innS (h : Core C G s w) {r : Nat} {i : Int} {off : Nat} {e : TypeId} {t : Ty} {v : Value} (hc : CRep G s.reg w (.inn r i off e t) v) {g : Reg} (hg : s.reg r = some g) {l : List t.den} (hl : innAt e t g.t off (lget g.xs i) = some l) :
    ∃ f, DRep w (.sl e t) l [v] f ∧ (∀ k ∈ f, k ∈ G.fp r) ∧ f.Nodup := by
  obtain ⟨g', gb, n, c, hg', hr, h0, h1, hcell, ho⟩ := hc
  obtain rfl : g' = g := by rw [hg] at hg'; exact (Option.some.inj hg').symm
  obtain ⟨v0, cells, fps, e1, ho', e2, hel⟩ := (h.reg r g' hg).1
  obtain rfl : G.root r = v0 := by simpa using e1
  have hnd := (h.reg r g' hg).2
  obtain ⟨c1, cc, c2, f1, f, f2, rfl, rfl, hl1, _, hx, _⟩ := hel.at_ (size := g'.t.size) (fun _ _ _ h => h.length) i.toNat (by omega)
  rw [← lget_at g'.xs i h0 h1] at hx
  obtain ⟨u, f', hu, hd, hsub⟩ := hx.innS hl
  obtain ⟨gb', c', cells', f'', hr', hcells', _, _, _⟩ := h.elem hg (i := i.toNat) (by omega)
  have hcellA : w.cell? ⟨gb, i.toNat * g'.t.size + off, none⟩ = some u := by
    rcases ho'.2 with ⟨e3, _⟩ | ⟨gb2, cap, cur, e3, _, hheap, _, _, _, htake⟩
    · rw [hr] at e3; cases e3
    · rw [hr] at e3
      obtain ⟨rfl, _, _⟩ : gb = gb2 ∧ n = g'.xs.length ∧ c = cap := by simpa using e3
      rw [cell_of_row w gb _ cur g'.e (0, 0) hheap]
      have hj : (c1 ++ (cc ++ c2))[i.toNat * g'.t.size + off]? = some u := by
        rw [List.getElem?_append_right (by omega), hl1, Nat.add_sub_cancel_left, List.getElem?_append_left (List.getElem?_eq_some_iff.1 hu).1]; exact hu
      rw [← htake, List.getElem?_take] at hj
      split at hj
      · simpa using hj
      · cases hj
  rw [hcell] at hcellA
  obtain rfl := Option.some.inj hcellA
  rw [e2] at hnd
  have n1 := (List.nodup_append.1 hnd).2.1
  have n2 := (List.nodup_append.1 (List.nodup_append.1 n1).2.1).1
  exact ⟨f', hd, fun k hk => by rw [e2]; have := hsub.subset hk; simp [this], hsub.nodup n2⟩
theorem inCells_out {s : St} : ∀ {l : List CSh} {cs : List Cell} {r}, inCells s l cs = some r → outCells s l cs = some r
  | [], [], r, h => h
  | [], _ :: _, r, h => by simp [inCells] at h
  | .val t :: l, [], r, h => by simp [inCells] at h
  | .own e t :: l, [], r, h => by simp [inCells] at h
  | .view e t :: l, [], r, h => by simp [inCells] at h
  | .val t :: l, c :: cs, r, h => by
    simp only [inCells] at h
    split at h
    · rename_i x y o v h1 h2
      simp only [outCells, inCells_out h2, h1]; exact h
    · cases h
  | .view e t :: l, c :: cs, r, h => by
    simp only [inCells] at h
    split at h
    · rename_i e' t' xs y o v h1 h2
      simp only [outCells, inCells_out h2, h1]; exact h
    · cases h
  | .own e t :: l, c :: cs, r, h => by
    simp only [inCells] at h
    split at h
    · rename_i e' t' xs y o v h1 h2
      simp only [outCells, inCells_out h2, h1]
      cases he : (e == e') with
      | false => rw [he] at h; cases h
      | true =>
        rw [he] at h
        simp only [cond_true] at h ⊢
        split at h
        · rename_i x1 r1 hc; simp only [hc]; exact h
        · rename_i x1 e1 t1 hc; simp only [hc]; exact h
        · cases h
    · cases h
def AReps (G : Gh) (R : Nat → Option Reg) (w : World) : List AVal → List Value → Prop
  | [], vs => vs = []
  | c :: cs, vs => ∃ v l, vs = v :: l ∧ ARep G R w c v ∧ AReps G R w cs l
theorem AReps.append {R : Nat → Option Reg} : ∀ {a b : List AVal} {x y : List Value}, AReps G R w a x → AReps G R w b y → AReps G R w (a ++ b) (x ++ y)
  | [], _, _, _, h, k => by rw [h]; exact k
  | _ :: _, _, _, _, h, k => by obtain ⟨v, l, rfl, h1, h2⟩ := h; exact ⟨v, l ++ _, rfl, h1, h2.append k⟩
theorem AReps.length {R : Nat → Option Reg} : ∀ {a : List AVal} {x : List Value}, AReps G R w a x → x.length = a.length
  | [], _, h => by rw [h]; rfl
  | _ :: _, _, h => by obtain ⟨v, l, rfl, _, h⟩ := h; simp [h.length]
theorem opnds_ok (h : Inv C G s a w) : ∀ {l : List Operand} {ts : List TypeId} {as : List AVal}, opnds E s l ts = some as → AReps G s.reg w as (l.map a.eval)
  | [], ts, as, ho => by obtain rfl := Option.some.inj ho; exact rfl
  | x :: l, ts, as, ho => by
    unfold opnds at ho
    split at ho
    · rename_i v vs h1 h2
      obtain rfl := Option.some.inj ho
      exact ⟨_, _, rfl, opnd_ok h h1, opnds_ok h h2⟩
    · cases ho
/-- Memory of these regions and variables. -/
structure FromA (G : Gh) (s : St) (o bs f : List Nat) : Prop where
  nodup : (o ++ bs).Nodup → f.Nodup
  mem : ∀ k ∈ f, (∃ r g, r ∈ o ∧ s.reg r = some g ∧ k ∈ G.fp r) ∨ ∃ b x, b ∈ bs ∧ get s.boxes b = some x ∧ k = G.blk b
theorem FromA.append (h : Core C G s w) {o1 o2 b1 b2 f1 f2 : List Nat} (h1 : FromA G s o1 b1 f1) (h2 : FromA G s o2 b2 f2) : FromA G s (o1 ++ o2) (b1 ++ b2) (f1 ++ f2) := by
  refine ⟨fun hn => ?_, fun k hk => ?_⟩
  · obtain ⟨n1, n2, n3⟩ := List.nodup_append.1 hn
    obtain ⟨p1, p2, p3⟩ := List.nodup_append.1 n1
    obtain ⟨q1, q2, q3⟩ := List.nodup_append.1 n2
    have d1 := h1.nodup (List.nodup_append.2 ⟨p1, q1, fun x hx y hy => n3 x (List.mem_append.2 (.inl hx)) y (List.mem_append.2 (.inl hy))⟩)
    have d2 := h2.nodup (List.nodup_append.2 ⟨p2, q2, fun x hx y hy => n3 x (List.mem_append.2 (.inr hx)) y (List.mem_append.2 (.inr hy))⟩)
    refine List.nodup_append.2 ⟨d1, d2, fun k hk k' hk' e => ?_⟩
    subst e
    rcases h1.mem k hk with ⟨r, g, hr, hg, hkr⟩ | ⟨b, x, hb, hx, e⟩
    · rcases h2.mem k hk' with ⟨r', g', hr', hg', hkr'⟩ | ⟨b', x', hb', hx', e'⟩
      · exact h.rr r r' g g' hg hg' (p3 r hr r' hr') k hkr hkr'
      · exact h.rb r g b' x' hg hx' (e' ▸ hkr)
    · rcases h2.mem k hk' with ⟨r', g', hr', hg', hkr'⟩ | ⟨b', x', hb', hx', e'⟩
      · exact h.rb r' g' b x hg' hx (e ▸ hkr')
      · exact h.bb b b' x x' hx hx' (q3 b hb b' hb') (e.symm.trans e')
  · rcases List.mem_append.1 hk with hk | hk
    · exact (h1.mem k hk).imp (fun ⟨r, g, hr, h4⟩ => ⟨r, g, List.mem_append.2 (.inl hr), h4⟩) fun ⟨b, x, hb, h4⟩ => ⟨b, x, List.mem_append.2 (.inl hb), h4⟩
    · exact (h2.mem k hk).imp (fun ⟨r, g, hr, h4⟩ => ⟨r, g, List.mem_append.2 (.inr hr), h4⟩) fun ⟨b, x, hb, h4⟩ => ⟨b, x, List.mem_append.2 (.inr hb), h4⟩
theorem FromR.toA {o f : List Nat} (h : FromR G s o f) : FromA G s o [] f := ⟨fun hn => h.nodup (by simpa using hn), fun k hk => .inl (h.mem k hk)⟩
theorem read_val (h : Core C G s w) {I' : Nat → Prop} (hI : ∀ k, G.I k → I' k) {t : Ty} {c : Comp} {v : Value} (hc : KRep G s.reg w c v) (ha : isAggTy t = isAggC c) {x : t.den} (hr : s.read t c.cells = some (x, [])) (hh : ∀ r ∈ hangs c.cells, ∀ g, s.reg r = some g → ∀ k ∈ G.fp r, I' k) : ValRep I' w t x v := by
  cases c with
  | one c =>
    obtain ⟨v1, v2, e1, k1, k2, _⟩ := h.read_v (I' := I') hI hr (vs := [v]) ⟨v, [], rfl, hc, rfl⟩ (fun r hr k hk => by
      obtain ⟨g, hg⟩ := Option.isSome_iff_exists.1 (Cells.hang (G := G) (w := w) (R := s.reg) (cs := [c]) (vs := [v]) ⟨v, [], rfl, hc, rfl⟩ hr)
      exact hh r hr g hg k hk)
    rw [show v2 = [] from k2, List.append_nil] at e1
    refine ⟨#[v], by rw [show (#[v] : Array Value).toList = [v] from rfl, e1]; exact k1, fun e => ?_, fun _ => rfl⟩
    rw [ha] at e; cases e
  | agg cs =>
    obtain ⟨arr, rfl, hca⟩ := hc
    obtain ⟨v1, v2, e1, k1, k2, _⟩ := h.read_v (I' := I') hI hr hca (fun r hr k hk => by
      obtain ⟨g, hg⟩ := Option.isSome_iff_exists.1 (hca.hang hr)
      exact hh r hr g hg k hk)
    rw [show v2 = [] from k2, List.append_nil] at e1
    refine ⟨arr, by rw [e1]; exact k1, fun _ => rfl, fun e => ?_⟩
    rw [ha] at e; cases e
theorem boxesOf_cons {v : AVal} {l : List AVal} : boxesOf (v :: l) = boxesOf [v] ++ boxesOf l := by
  cases v with
  | cp c =>
    cases c with
    | one c =>
      cases c with
      | ptr b o => cases o <;> rfl
      | _ => rfl
    | agg cs => rfl
  | _ => rfl
end

end Go.Proofs.Ytigkodlbjimikaa.Vc
