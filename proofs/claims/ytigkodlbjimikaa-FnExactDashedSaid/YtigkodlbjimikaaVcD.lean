/- What typed values are in memory: slices that stay, regions with their footprints, cells. -/
import Derived.Test.YtigkodlbjimikaaVcC
import Derived.Laws.AppendOwn
import Derived.Laws.OwnMore
namespace Go.Proofs.Ytigkodlbjimikaa.Vc
open Go Go.RowKit
set_option linter.unusedVariables false
set_option linter.unusedSimpArgs false

/-! ### tables -/
theorem get_ins {α : Type} (n : Nat) (x : α) (m : Nat) : ∀ l : List (Nat × α), get (ins n x l) m = if m = n then some x else get l m
  | [] => by
    simp only [ins, get]
    by_cases h : n = m
    · simp [h]
    · have h2 : (n == m) = false := by simp [h]
      simp only [h2, cond_false, if_neg (Ne.symm h)]
  | (k, v) :: l => by
    simp only [ins]
    cases hb : Nat.blt n k with
    | true =>
      simp only [cond_true, get]
      by_cases h : n = m
      · simp [h]
      · have h2 : (n == m) = false := by simp [h]
        simp only [h2, cond_false, if_neg (Ne.symm h)]
    | false =>
      simp only [cond_false]
      cases he : (n == k) with
      | true =>
        have e : n = k := by simpa using he
        subst e
        simp only [cond_true, get]
        by_cases h : n = m
        · simp [h]
        · have h2 : (n == m) = false := by simp [h]
          simp only [h2, cond_false, if_neg (Ne.symm h)]
      | false =>
        have e : ¬ n = k := by simpa using he
        simp only [cond_false, get]
        by_cases h : k = m
        · subst h
          simp [Ne.symm e]
        · have h2 : (k == m) = false := by simp [h]
          simp only [h2, cond_false]
          exact get_ins n x m l
theorem get_del {α : Type} (n m : Nat) : ∀ l : List (Nat × α), get (del n l) m = if m = n then none else get l m
  | [] => by simp [del, get]
  | (k, v) :: l => by
    have ih := get_del n m l
    simp only [del]
    by_cases h : k = n
    · subst h
      simp only [beq_self_eq_true, cond_true, ih, get]
      by_cases h2 : m = k
      · simp [h2]
      · have h3 : (k == m) = false := by simp [Ne.symm h2]
        simp only [if_neg h2, h3, cond_false]
    · have h1 : (k == n) = false := by simp [h]
      simp only [h1, cond_false, get, ih]
      by_cases h2 : k = m
      · subst h2; simp [h]
      · have h3 : (k == m) = false := by simp [h2]
        simp only [h3, cond_false]
theorem get_mapv {α β : Type} (f : α → β) (m : Nat) : ∀ l : List (Nat × α), get (mapv f l) m = (get l m).map f
  | [] => rfl
  | (k, v) :: l => by
    simp only [mapv, get]
    cases h : (k == m)
    · simp only [cond_false]; exact get_mapv f m l
    · rfl

/-! ### what stays -/
theorem add_add (a : Addr) (m n : Nat) : (a.add m).add n = a.add (m + n) := by
  unfold Addr.add
  by_cases hm : m = 0
  · subst hm; simp
  · by_cases hn : n = 0
    · subst hn; simp
    · have : ¬ m + n = 0 := by omega
      simp [hm, hn, this, Nat.add_assoc]
theorem add_block (a : Addr) (m : Nat) : (a.add m).block = a.block := by
  unfold Addr.add; split <;> rfl
/-- A value in memory that stays (the blocks of I). -/
def VRep (I : Nat → Prop) (w : World) : (t : Ty) → t.den → List Value → Prop
  | .int k, x, vs => vs = [.int k x]
  | .bool, x, vs => vs = [.bool x]
  | .str, x, vs => vs = [.string x]
  | .unit, _, vs => vs = []
  | .opq, _, vs => ∃ v : Value, vs = [v] ∧ v.oneCell' = true
  | .pair a b, x, vs => ∃ v1 v2, vs = v1 ++ v2 ∧ VRep I w a x.1 v1 ∧ VRep I w b x.2 v2
  | .sl _ t, xs, vs => ∃ p c, vs = [.slice p xs.length c] ∧ xs.length ≤ c ∧
      ∀ (i : Nat) (h : i < xs.length), ∃ ad, p = some ad ∧ I ad.block ∧ ∃ cs : List Value, (∀ j v, cs[j]? = some v → w.cell? (ad.add (i * t.size + j)) = some v) ∧ VRep I w t xs[i] cs
theorem VRep.length {I : Nat → Prop} {w : World} : ∀ {t : Ty} {x : t.den} {vs : List Value}, VRep I w t x vs → vs.length = t.size
  | .int _, _, _, h => by simp only [VRep] at h; subst h; rfl
  | .bool, _, _, h => by simp only [VRep] at h; subst h; rfl
  | .str, _, _, h => by simp only [VRep] at h; subst h; rfl
  | .unit, _, _, h => by simp only [VRep] at h; subst h; rfl
  | .opq, _, _, h => by obtain ⟨v, rfl, _⟩ := h; rfl
  | .sl _ _, _, _, h => by obtain ⟨p, c, rfl, _⟩ := h; rfl
  | .pair _ _, _, _, h => by
    obtain ⟨v1, v2, rfl, h1, h2⟩ := h
    rw [List.length_append, h1.length, h2.length]; rfl
theorem VRep.one {I : Nat → Prop} {w : World} : ∀ {t : Ty} {x : t.den} {vs : List Value}, VRep I w t x vs → ∀ v ∈ vs, v.oneCell' = true
  | .int _, _, _, h, v, hv => by simp only [VRep] at h; subst h; simp at hv; subst hv; rfl
  | .bool, _, _, h, v, hv => by simp only [VRep] at h; subst h; simp at hv; subst hv; rfl
  | .str, _, _, h, v, hv => by simp only [VRep] at h; subst h; simp at hv; subst hv; rfl
  | .unit, _, _, h, v, hv => by simp only [VRep] at h; subst h; cases hv
  | .opq, _, _, h, v, hv => by obtain ⟨u, rfl, hu⟩ := h; simp at hv; subst hv; exact hu
  | .sl _ _, _, _, h, v, hv => by obtain ⟨p, c, rfl, _⟩ := h; simp at hv; subst hv; rfl
  | .pair _ _, _, _, h, v, hv => by
    obtain ⟨v1, v2, rfl, h1, h2⟩ := h
    rcases List.mem_append.1 hv with hv | hv
    · exact h1.one v hv
    · exact h2.one v hv
/-- More blocks stay, or the world moves where nothing stays. -/
theorem VRep.mono {I I' : Nat → Prop} {w w' : World} (hI : ∀ k, I k → I' k) (hw : ∀ k, I k → w'.heap[k]? = w.heap[k]?) : ∀ {t : Ty} {x : t.den} {vs : List Value}, VRep I w t x vs → VRep I' w' t x vs
  | .int _, _, _, h => h
  | .bool, _, _, h => h
  | .str, _, _, h => h
  | .unit, _, _, h => h
  | .opq, _, _, h => h
  | .pair _ _, _, _, h => by
    obtain ⟨v1, v2, e, h1, h2⟩ := h
    exact ⟨v1, v2, e, h1.mono hI hw, h2.mono hI hw⟩
  | .sl _ _, _, _, h => by
    obtain ⟨p, c, e, hc, h⟩ := h
    refine ⟨p, c, e, hc, fun i hi => ?_⟩
    obtain ⟨ad, hp, ha, cs, hcs, hr⟩ := h i hi
    refine ⟨ad, hp, hI _ ha, cs, fun j v hj => ?_, hr.mono hI hw⟩
    rw [World.cell?_of_block (w := w) (by rw [add_block]; exact hw _ ha)]
    exact hcs j v hj
/-- The same addresses, told from each other by what is held. -/
theorem cells_at {w : World} {ad : Addr} {k n : Nat} {cs : List Value} (h : ∀ j v, cs[j]? = some v → w.cell? (ad.add (k + j)) = some v) : ∀ j v, cs[j]? = some v → w.cell? ((ad.add k).add j) = some v := by
  intro j v hj; rw [add_add]; exact h j v hj

/-! ### what a region is -/
def blockOf (v : Value) : List Nat := match v.ownBlock with | some g => [g] | none => []
/-- Elements one behind the other, each with its cells and its footprint. -/
def Elems {α : Type} (D : α → List Value → List Nat → Prop) : List α → List Value → List Nat → Prop
  | [], cs, fp => cs = [] ∧ fp = []
  | x :: xs, cs, fp => ∃ c1 c2 f1 f2, cs = c1 ++ c2 ∧ fp = f1 ++ f2 ∧ D x c1 f1 ∧ Elems D xs c2 f2
/-- A value whose memory is its own: the blocks are those of the list. -/
def DRep (w : World) : (t : Ty) → t.den → List Value → List Nat → Prop
  | .int k, x, vs, fp => vs = [.int k x] ∧ fp = []
  | .bool, x, vs, fp => vs = [.bool x] ∧ fp = []
  | .str, x, vs, fp => vs = [.string x] ∧ fp = []
  | .unit, _, vs, fp => vs = [] ∧ fp = []
  | .opq, _, vs, fp => (∃ v : Value, vs = [v] ∧ v.oneCell' = true) ∧ fp = []
  | .pair a b, x, vs, fp => ∃ v1 v2 f1 f2, vs = v1 ++ v2 ∧ fp = f1 ++ f2 ∧ DRep w a x.1 v1 f1 ∧ DRep w b x.2 v2 f2
  | .sl e t, xs, vs, fp => ∃ v cells fps, vs = [v] ∧ w.ownsRow 0 e t.size v xs.length cells ∧ fp = blockOf v ++ fps ∧ Elems (DRep w t) xs cells fps
theorem DRep.length {w : World} : ∀ {t : Ty} {x : t.den} {vs : List Value} {fp : List Nat}, DRep w t x vs fp → vs.length = t.size
  | .int _, _, _, _, h => by obtain ⟨rfl, _⟩ := h; rfl
  | .bool, _, _, _, h => by obtain ⟨rfl, _⟩ := h; rfl
  | .str, _, _, _, h => by obtain ⟨rfl, _⟩ := h; rfl
  | .unit, _, _, _, h => by obtain ⟨rfl, _⟩ := h; rfl
  | .opq, _, _, _, h => by obtain ⟨⟨v, rfl, _⟩, _⟩ := h; rfl
  | .sl _ _, _, _, _, h => by obtain ⟨v, c, f, rfl, _⟩ := h; rfl
  | .pair _ _, _, _, _, h => by
    obtain ⟨v1, v2, f1, f2, rfl, _, h1, h2⟩ := h
    rw [List.length_append, h1.length, h2.length]; rfl
theorem own_one {w : World} {e : TypeId} {size n : Nat} {v : Value} {cs : List Value} (h : w.ownsRow 0 e size v n cs) : v.oneCell' = true := by
  rcases h.2 with ⟨rfl, _⟩ | ⟨g, cap, cur, rfl, _⟩ <;> rfl
theorem DRep.one {w : World} : ∀ {t : Ty} {x : t.den} {vs : List Value} {fp : List Nat}, DRep w t x vs fp → ∀ v ∈ vs, v.oneCell' = true
  | .int _, _, _, _, h, v, hv => by obtain ⟨rfl, _⟩ := h; simp at hv; subst hv; rfl
  | .bool, _, _, _, h, v, hv => by obtain ⟨rfl, _⟩ := h; simp at hv; subst hv; rfl
  | .str, _, _, _, h, v, hv => by obtain ⟨rfl, _⟩ := h; simp at hv; subst hv; rfl
  | .unit, _, _, _, h, v, hv => by obtain ⟨rfl, _⟩ := h; cases hv
  | .opq, _, _, _, h, v, hv => by obtain ⟨⟨u, rfl, hu⟩, _⟩ := h; simp at hv; subst hv; exact hu
  | .sl _ _, _, _, _, h, v, hv => by obtain ⟨u, c, f, rfl, ho, _⟩ := h; simp at hv; subst hv; exact own_one ho
  | .pair _ _, _, _, _, h, v, hv => by
    obtain ⟨v1, v2, f1, f2, rfl, _, h1, h2⟩ := h
    rcases List.mem_append.1 hv with hv | hv
    · exact h1.one v hv
    · exact h2.one v hv

/-! ### elements, by their numbers -/
section
variable {α : Type} {D D' : α → List Value → List Nat → Prop}
theorem Elems.imp (hD : ∀ x cs fp, D x cs fp → D' x cs fp) : ∀ {xs : List α} {cs : List Value} {fp : List Nat}, Elems D xs cs fp → Elems D' xs cs fp
  | [], _, _, h => h
  | _ :: _, _, _, h => by obtain ⟨c1, c2, f1, f2, e1, e2, hx, hr⟩ := h; exact ⟨c1, c2, f1, f2, e1, e2, hD _ _ _ hx, hr.imp hD⟩
/-- .. where what is asked of a footprint's blocks may be used. -/
theorem Elems.impF (P : Nat → Prop) (hD : ∀ x cs fp, (∀ k ∈ fp, P k) → D x cs fp → D' x cs fp) : ∀ {xs : List α} {cs : List Value} {fp : List Nat}, (∀ k ∈ fp, P k) → Elems D xs cs fp → Elems D' xs cs fp
  | [], _, _, _, h => h
  | _ :: _, _, _, hP, h => by
    obtain ⟨c1, c2, f1, f2, e1, e2, hx, hr⟩ := h
    subst e2
    exact ⟨c1, c2, f1, f2, e1, rfl, hD _ _ _ (fun k hk => hP k (List.mem_append.2 (.inl hk))) hx, hr.impF P hD (fun k hk => hP k (List.mem_append.2 (.inr hk)))⟩
theorem Elems.append : ∀ {xs ys : List α} {c1 c2 : List Value} {f1 f2 : List Nat}, Elems D xs c1 f1 → Elems D ys c2 f2 → Elems D (xs ++ ys) (c1 ++ c2) (f1 ++ f2)
  | [], _, _, _, _, _, h, k => by obtain ⟨rfl, rfl⟩ := h; exact k
  | _ :: _, _, _, _, _, _, h, k => by
    obtain ⟨a, b, c, d, rfl, rfl, hx, hr⟩ := h
    exact ⟨a, b ++ _, c, d ++ _, by rw [List.append_assoc], by rw [List.append_assoc], hx, hr.append k⟩
theorem Elems.one {x : α} {cs : List Value} {fp : List Nat} (h : D x cs fp) : Elems D [x] cs fp := ⟨cs, [], fp, [], by simp, by simp, h, rfl, rfl⟩
theorem Elems.len {size : Nat} (hD : ∀ x cs fp, D x cs fp → cs.length = size) : ∀ {xs : List α} {cs : List Value} {fp : List Nat}, Elems D xs cs fp → cs.length = xs.length * size
  | [], _, _, h => by obtain ⟨rfl, _⟩ := h; simp
  | x :: xs, _, _, h => by
    obtain ⟨c1, c2, f1, f2, rfl, _, hx, hr⟩ := h
    rw [List.length_append, hD _ _ _ hx, hr.len hD, List.length_cons, Nat.succ_mul, Nat.add_comm]
/-- Cut at element i. -/
theorem Elems.cut {size : Nat} (hD : ∀ x cs fp, D x cs fp → cs.length = size) : ∀ {xs : List α} {cs : List Value} {fp : List Nat} (n : Nat), n ≤ xs.length → Elems D xs cs fp →
    ∃ c1 c2 f1 f2, cs = c1 ++ c2 ∧ fp = f1 ++ f2 ∧ c1.length = n * size ∧ Elems D (xs.take n) c1 f1 ∧ Elems D (xs.drop n) c2 f2
  | xs, cs, fp, 0, _, h => ⟨[], cs, [], fp, rfl, rfl, by simp, ⟨rfl, rfl⟩, h⟩
  | [], _, _, n + 1, hn, _ => by simp at hn
  | x :: xs, _, _, n + 1, hn, h => by
    obtain ⟨a, b, c, d, rfl, rfl, hx, hr⟩ := h
    obtain ⟨c1, c2, f1, f2, rfl, rfl, hl, h1, h2⟩ := hr.cut hD n (by simpa using hn)
    refine ⟨a ++ c1, c2, c ++ f1, f2, by rw [List.append_assoc], by rw [List.append_assoc], ?_, ⟨a, c1, c, f1, rfl, rfl, hx, h1⟩, h2⟩
    rw [List.length_append, hl, hD _ _ _ hx, Nat.succ_mul, Nat.add_comm]
/-- Element i by itself. -/
theorem Elems.at_ {size : Nat} (hD : ∀ x cs fp, D x cs fp → cs.length = size) {xs : List α} {cs : List Value} {fp : List Nat} (h : Elems D xs cs fp) (i : Nat) (hi : i < xs.length) :
    ∃ c1 c c2 f1 f f2, cs = c1 ++ (c ++ c2) ∧ fp = f1 ++ (f ++ f2) ∧ c1.length = i * size ∧ Elems D (xs.take i) c1 f1 ∧ D xs[i] c f ∧ Elems D (xs.drop (i + 1)) c2 f2 := by
  obtain ⟨c1, c2, f1, f2, rfl, rfl, hl, h1, h2⟩ := h.cut hD i (by omega)
  rw [List.drop_eq_getElem_cons hi] at h2
  obtain ⟨a, b, c, d, rfl, rfl, hx, hr⟩ := h2
  exact ⟨c1, a, b, f1, c, d, rfl, rfl, hl, h1, hx, hr⟩
end
/-- A region stays as it is where its blocks do. -/
theorem own_frame {w w' : World} {e : TypeId} {size n : Nat} {v : Value} {cs : List Value} (h : w.ownsRow 0 e size v n cs) (hw : ∀ k ∈ blockOf v, w'.heap[k]? = w.heap[k]?) : w'.ownsRow 0 e size v n cs := by
  obtain ⟨h1, h2⟩ := h
  refine ⟨h1, ?_⟩
  rcases h2 with h2 | ⟨g, cap, cur, rfl, hg, hh, r⟩
  · exact .inl h2
  · exact .inr ⟨g, cap, cur, rfl, hg, by rw [hw g (by simp [blockOf, Value.ownBlock])]; exact hh, r⟩
theorem DRep.frame {w w' : World} : ∀ {t : Ty} {x : t.den} {vs : List Value} {fp : List Nat}, (∀ k ∈ fp, w'.heap[k]? = w.heap[k]?) → DRep w t x vs fp → DRep w' t x vs fp
  | .int _, _, _, _, _, h => h
  | .bool, _, _, _, _, h => h
  | .str, _, _, _, _, h => h
  | .unit, _, _, _, _, h => h
  | .opq, _, _, _, _, h => h
  | .pair _ _, _, _, _, hw, h => by
    obtain ⟨v1, v2, f1, f2, e1, e2, h1, h2⟩ := h
    subst e2
    exact ⟨v1, v2, f1, f2, e1, rfl, h1.frame (fun k hk => hw k (List.mem_append.2 (.inl hk))), h2.frame (fun k hk => hw k (List.mem_append.2 (.inr hk)))⟩
  | .sl _ t, xs, _, _, hw, h => by
    obtain ⟨v, cells, fps, e1, ho, e2, h⟩ := h
    subst e2
    exact ⟨v, cells, fps, e1, own_frame ho (fun k hk => hw k (List.mem_append.2 (.inl hk))), rfl,
      h.impF (fun k => w'.heap[k]? = w.heap[k]?) (fun _ _ _ hk hx => hx.frame hk) (fun k hk => hw k (List.mem_append.2 (.inr hk)))⟩
theorem own_le {w : World} {e : TypeId} {size n : Nat} {v : Value} {cs : List Value} (h : w.ownsRow 0 e size v n cs) : ∃ A c, v = .slice A n c ∧ n ≤ c ∧ (0 < n → ∃ g, A = some ⟨g, 0, none⟩ ∧ blockOf v = [g] ∧ ∀ j u, cs[j]? = some u → w.cell? ⟨g, j, none⟩ = some u) := by
  rcases h.2 with ⟨rfl, rfl⟩ | ⟨g, cap, cur, rfl, hg, hh, hn, hm, hs, ht⟩
  · exact ⟨none, 0, rfl, Nat.le_refl _, fun h => absurd h (Nat.lt_irrefl 0)⟩
  · refine ⟨_, cap, rfl, hn, fun _ => ⟨g, rfl, rfl, fun j u hj => ?_⟩⟩
    have := h.cells (g := g) rfl j u hj
    rwa [show (⟨g, 0, none⟩ : Addr).add j = ⟨g, j, none⟩ by unfold Addr.add; split <;> simp_all] at this
/-- What is a region's may stay. -/
theorem DRep.still {w : World} {I : Nat → Prop} : ∀ {t : Ty} {x : t.den} {vs : List Value} {fp : List Nat}, (∀ k ∈ fp, I k) → DRep w t x vs fp → VRep I w t x vs
  | .int _, _, _, _, _, h => h.1
  | .bool, _, _, _, _, h => h.1
  | .str, _, _, _, _, h => h.1
  | .unit, _, _, _, _, h => h.1
  | .opq, _, _, _, _, h => h.1
  | .pair _ _, _, _, _, hI, h => by
    obtain ⟨v1, v2, f1, f2, e1, e2, h1, h2⟩ := h
    subst e2
    exact ⟨v1, v2, e1, h1.still (fun k hk => hI k (List.mem_append.2 (.inl hk))), h2.still (fun k hk => hI k (List.mem_append.2 (.inr hk)))⟩
  | .sl _ t, xs, _, _, hI, h => by
    obtain ⟨v, cells, fps, e1, ho, e2, h⟩ := h
    subst e2
    obtain ⟨A, c, rfl, hc, hA⟩ := own_le ho
    refine ⟨A, c, e1, hc, fun i hi => ?_⟩
    obtain ⟨g, rfl, hb, hcell⟩ := hA (by omega)
    obtain ⟨c1, cc, c2, f1, f, f2, rfl, rfl, hl, _, hx, _⟩ := h.at_ (size := t.size) (fun _ _ _ h => h.length) i hi
    refine ⟨⟨g, 0, none⟩, rfl, hI g (by rw [hb]; simp), cc, fun j v hj => ?_, hx.still (fun k hk => hI k (by simp [hk]))⟩
    rw [show (⟨g, 0, none⟩ : Addr).add (i * t.size + j) = ⟨g, i * t.size + j, none⟩ by unfold Addr.add; split <;> simp_all]
    refine hcell _ _ ?_
    rw [List.getElem?_append_right (by omega), hl, Nat.add_sub_cancel_left, List.getElem?_append_left (by have := (List.getElem?_eq_some_iff.1 hj).1; exact this)]
    exact hj

theorem Elems.lt {α : Type} {D : α → List Value → List Nat → Prop} {n : Nat} (hD : ∀ x cs fp, D x cs fp → ∀ k ∈ fp, k < n) : ∀ {xs : List α} {cs : List Value} {fp : List Nat}, Elems D xs cs fp → ∀ k ∈ fp, k < n
  | [], _, _, h, k, hk => by obtain ⟨_, rfl⟩ := h; cases hk
  | _ :: _, _, _, h, k, hk => by
    obtain ⟨c1, c2, f1, f2, _, rfl, hx, hr⟩ := h
    rcases List.mem_append.1 hk with hk | hk
    · exact hD _ _ _ hx k hk
    · exact hr.lt hD k hk
/-- The blocks are there. -/
theorem DRep.lt {w : World} : ∀ {t : Ty} {x : t.den} {vs : List Value} {fp : List Nat}, DRep w t x vs fp → ∀ k ∈ fp, k < w.heap.size
  | .int _, _, _, _, h, k, hk => by obtain ⟨_, rfl⟩ := h; cases hk
  | .bool, _, _, _, h, k, hk => by obtain ⟨_, rfl⟩ := h; cases hk
  | .str, _, _, _, h, k, hk => by obtain ⟨_, rfl⟩ := h; cases hk
  | .unit, _, _, _, h, k, hk => by obtain ⟨_, rfl⟩ := h; cases hk
  | .opq, _, _, _, h, k, hk => by obtain ⟨_, rfl⟩ := h; cases hk
  | .pair _ _, _, _, _, h, k, hk => by
    obtain ⟨v1, v2, f1, f2, _, rfl, h1, h2⟩ := h
    rcases List.mem_append.1 hk with hk | hk
    · exact h1.lt k hk
    · exact h2.lt k hk
  | .sl _ _, _, _, _, h, k, hk => by
    obtain ⟨v, cells, fps, _, ho, rfl, hel⟩ := h
    rcases List.mem_append.1 hk with hk | hk
    · unfold blockOf at hk
      cases hb : v.ownBlock with
      | none => rw [hb] at hk; cases hk
      | some g => rw [hb] at hk; obtain rfl : k = g := by simpa using hk
                  exact (ho.lt k hb).2
    · exact hel.lt (fun _ _ _ h => h.lt) k hk

end Go.Proofs.Ytigkodlbjimikaa.Vc
