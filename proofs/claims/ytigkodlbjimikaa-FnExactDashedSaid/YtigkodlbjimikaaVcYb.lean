/- Calls: the arguments, as they are when what was handed over comes back. -/
import Derived.Test.YtigkodlbjimikaaVcYa
namespace Go.Proofs.Ytigkodlbjimikaa.Vc
open Go Go.RowKit
set_option linter.unusedVariables false
set_option linter.unusedSimpArgs false

section
variable {C : Ctx} {G : Gh} {s : St} {a : Act} {w : World}
/-- The slice at a place of a value, put anew. -/
theorem DRep.putInn {e' : TypeId} {t' : Ty} : ∀ {t : Ty} {x : t.den} {vs : List Value} {fp : List Nat} {off : Nat} {l : List t'.den}, DRep w t x vs fp → innAt e' t' t off x = some l →
    ∃ v fa f0 fb, vs[off]? = some v ∧ fp = fa ++ (f0 ++ fb) ∧ DRep w (.sl e' t') l [v] f0 ∧ ∀ (w' : World) (l' : List t'.den) (f' : List Nat), DRep w' (.sl e' t') l' [v] f' → (∀ k ∈ fa ++ fb, w'.heap[k]? = w.heap[k]?) → ∃ y, innPut e' t' l' t off x = some y ∧ DRep w' t y vs (fa ++ (f' ++ fb))
  | .sl e t, x, vs, fp, off, l, h, hi => by
    unfold innAt at hi
    cases hb : (off == 0 && e == e') with
    | false => rw [hb] at hi; cases hi
    | true =>
      rw [hb] at hi
      have hb' := hb
      simp only [Bool.and_eq_true, beq_iff_eq] at hb
      obtain ⟨rfl, rfl⟩ := hb
      obtain ⟨eq, rfl⟩ := cast_some hi
      obtain rfl : t = t' := by injection eq
      have h' := h
      obtain ⟨v, cells, fps, rfl, h1, h2, h3⟩ := h'
      refine ⟨v, [], fp, [], rfl, by simp, h, fun w' l' f' hd _ => ⟨l', ?_, by simpa using hd⟩⟩
      unfold innPut
      rw [hb', cond_true, cast_self]
  | .pair a b, x, vs, fp, off, l, h, hi => by
    obtain ⟨v1, v2, f1, f2, rfl, rfl, h1, h2⟩ := h
    unfold innAt at hi
    cases hb : Nat.blt off a.size with
    | true =>
      rw [hb] at hi
      obtain ⟨v, fa, f0, fb, hv, rfl, hd, hp⟩ := h1.putInn hi
      refine ⟨v, fa, f0, fb ++ f2, by rw [List.getElem?_append_left (List.getElem?_eq_some_iff.1 hv).1]; exact hv, by simp, hd, fun w' l' f' hd' hk => ?_⟩
      obtain ⟨y, hy, hdy⟩ := hp w' l' f' hd' (fun k hk' => hk k (by
        rcases List.mem_append.1 hk' with hk' | hk' <;> simp [hk']))
      refine ⟨(y, x.2), ?_, v1, v2, _, f2, rfl, by simp, hdy, h2.frame fun k hk' => hk k (by simp [hk'])⟩
      unfold innPut
      rw [hb, cond_true, hy]; rfl
    | false =>
      rw [hb] at hi
      obtain ⟨v, fa, f0, fb, hv, rfl, hd, hp⟩ := h2.putInn hi
      have hlt : ¬ off < a.size := fun hlt => by rw [show Nat.blt off a.size = true from Nat.ble_eq_true_of_le hlt] at hb; cases hb
      refine ⟨v, f1 ++ fa, f0, fb, by rw [List.getElem?_append_right (by rw [h1.length]; omega), h1.length]; exact hv, by simp, hd, fun w' l' f' hd' hk => ?_⟩
      obtain ⟨y, hy, hdy⟩ := hp w' l' f' hd' (fun k hk' => hk k (by
        rcases List.mem_append.1 hk' with hk' | hk' <;> simp [hk']))
      refine ⟨(x.1, y), ?_, v1, v2, f1, _, rfl, by simp, h1.frame (fun k hk' => hk k (by simp [hk'])), hdy⟩
      unfold innPut
      rw [hb, cond_false, hy]; rfl
  | .int _, _, _, _, _, _, _, hi => by unfold innAt at hi; cases hi
  | .bool, _, _, _, _, _, _, hi => by unfold innAt at hi; cases hi
  | .str, _, _, _, _, _, _, hi => by unfold innAt at hi; cases hi
  | .unit, _, _, _, _, _, _, hi => by unfold innAt at hi; cases hi
  | .opq, _, _, _, _, _, _, hi => by unfold innAt at hi; cases hi
/-- A slice in a region's element is handed over and comes back. -/
theorem Core.innBack (h : Core C G s w) {r : Nat} {i : Int} {off : Nat} {e : TypeId} {t : Ty} {v : Value} (hc : CRep G s.reg w (.inn r i off e t) v) {g : Reg} (hg : s.reg r = some g) {l : List t.den} (hl : innAt e t g.t off (lget g.xs i) = some l) :
    ∃ f0, DRep w (.sl e t) l [v] f0 ∧ (∀ k ∈ f0, k ∈ G.fp r) ∧ f0.Nodup ∧ ∀ {w' : World}, (∀ k ∈ G.fp r, k ∉ f0 → w'.heap[k]? = w.heap[k]?) → ∀ (l' : List t.den) f', DRep w' (.sl e t) l' [v] f' → f'.Nodup → (∀ k ∈ f', k ∈ G.fp r → k ∈ f0) →
      ∃ y fp', innPut e t l' g.t off (lget g.xs i) = some y ∧ DRep w' (.sl g.e g.t) (lset g.xs i y) [G.root r] fp' ∧ fp'.Nodup ∧ ∀ k ∈ fp', k ∈ f' ∨ (k ∈ G.fp r ∧ k ∉ f0) := by
  obtain ⟨g', gb, n, c, hg', hr, h0, h1, hcell, ho⟩ := hc
  obtain rfl : g' = g := by rw [hg] at hg'; exact (Option.some.inj hg').symm
  obtain ⟨v0, cells, fps, e1, how, e2, hel⟩ := (h.reg r g' hg).1
  obtain rfl : G.root r = v0 := by simpa using e1
  have hnd := (h.reg r g' hg).2
  have hi : i.toNat < g'.xs.length := by omega
  obtain ⟨c1, cc, c2, f1, f, f2, rfl, rfl, hl1, he1, hx, he2⟩ := hel.at_ (size := g'.t.size) (fun _ _ _ h => h.length) i.toNat hi
  rw [← lget_at g'.xs i h0 h1] at hx
  obtain ⟨gb2, cap, cur, hroot, hheap, htake⟩ : ∃ gb2 cap cur, G.root r = .slice (some ⟨gb2, 0, none⟩) g'.xs.length cap ∧ w.heap[gb2]? = some (.cells cur g'.e (0, 0)) ∧ cur.toList.take (g'.xs.length * g'.t.size) = c1 ++ (cc ++ c2) := by
    rcases how.2 with ⟨e3, _⟩ | ⟨gb2, cap, cur, e3, _, hheap, _, _, _, htake⟩
    · rw [hr] at e3; cases e3
    · exact ⟨gb2, cap, cur, e3, hheap, htake⟩
  obtain ⟨rfl, _, _⟩ : gb = gb2 ∧ n = g'.xs.length ∧ c = cap := by rw [hr] at hroot; simpa using hroot
  obtain ⟨u, fa, f0, fb, hu, hf, hd, hp⟩ := hx.putInn hl
  have hcellA : w.cell? ⟨gb, i.toNat * g'.t.size + off, none⟩ = some u := by
    rw [cell_of_row w gb _ cur g'.e (0, 0) hheap]
    have hj : (c1 ++ (cc ++ c2))[i.toNat * g'.t.size + off]? = some u := by
      rw [List.getElem?_append_right (by omega), hl1, Nat.add_sub_cancel_left, List.getElem?_append_left (List.getElem?_eq_some_iff.1 hu).1]; exact hu
    rw [← htake, List.getElem?_take] at hj
    split at hj
    · simpa using hj
    · cases hj
  rw [hcell] at hcellA
  obtain rfl := Option.some.inj hcellA
  subst hf
  have hb0 : blockOf (G.root r) = [gb] := by rw [hroot]; rfl
  rw [hb0, List.singleton_append] at e2
  rw [e2] at hnd
  obtain ⟨ngb, nd1⟩ := List.nodup_cons.1 hnd
  obtain ⟨m1, m2, m3⟩ := List.nodup_append.1 nd1
  obtain ⟨m4, m5, m6⟩ := List.nodup_append.1 m2
  obtain ⟨m7, m8, m9⟩ := List.nodup_append.1 m4
  obtain ⟨m10, m11, m12⟩ := List.nodup_append.1 m8
  refine ⟨f0, hd, fun k hk => by rw [e2]; simp [hk], m10, ?_⟩
  intro w' hk l' f' hd' hn' hin'
  have ngb0 : gb ∉ f0 := fun hm => ngb (by simp [hm])
  have rest : ∀ k, k ∈ f1 ++ (fa ++ (fb ++ f2)) → k ∈ G.fp r ∧ k ∉ f0 := by
    intro k hk'
    rcases List.mem_append.1 hk' with h1 | h1
    · exact ⟨by rw [e2]; simp [h1], fun h2 => m3 k h1 k (by simp [h2]) rfl⟩
    · rcases List.mem_append.1 h1 with h1 | h1
      · exact ⟨by rw [e2]; simp [h1], fun h2 => m9 k h1 k (by simp [h2]) rfl⟩
      · rcases List.mem_append.1 h1 with h1 | h1
        · exact ⟨by rw [e2]; simp [h1], fun h2 => m12 k h2 k h1 rfl⟩
        · exact ⟨by rw [e2]; simp [h1], fun h2 => m6 k (by simp [h2]) k h1 rfl⟩
  have keep : ∀ k, k ∈ f1 ++ (fa ++ (fb ++ f2)) → w'.heap[k]? = w.heap[k]? := fun k hk' => hk k (rest k hk').1 (rest k hk').2
  obtain ⟨y, hy, hdy⟩ := hp w' l' f' hd' (fun k hk' => keep k (by rcases List.mem_append.1 hk' with h1 | h1 <;> simp [h1]))
  have hset : lset g'.xs i y = g'.xs.take i.toNat ++ (y :: g'.xs.drop (i.toNat + 1)) := by
    unfold lset
    rw [List.set_eq_take_append_cons_drop, if_pos hi]
  have el : ∀ {xs : List g'.t.den} {cs : List Value} {fp : List Nat}, (∀ k ∈ fp, k ∈ f1 ++ (fa ++ (fb ++ f2))) → Elems (DRep w g'.t) xs cs fp → Elems (DRep w' g'.t) xs cs fp := fun hk h =>
    h.impF (fun k => k ∈ f1 ++ (fa ++ (fb ++ f2))) (fun _ _ _ hk hx => hx.frame fun k hkk => keep k (hk k hkk)) hk
  have out : ∀ {k}, k ∈ f' → k ∈ gb :: (f1 ++ (fa ++ (fb ++ f2))) → False := by
    intro k h1 h2
    have hr2 : k ∈ G.fp r ∧ k ∉ f0 := by
      rcases List.mem_cons.1 h2 with rfl | h2
      · exact ⟨by rw [e2]; simp, ngb0⟩
      · exact rest k h2
    exact hr2.2 (hin' k h1 hr2.1)
  refine ⟨y, gb :: (f1 ++ ((fa ++ (f' ++ fb)) ++ f2)), hy, ⟨G.root r, c1 ++ (cc ++ c2), f1 ++ ((fa ++ (f' ++ fb)) ++ f2), rfl, ?_, by rw [hb0]; rfl, ?_⟩, ?_, ?_⟩
  · rw [show (lset g'.xs i y).length = g'.xs.length by simp [lset]]
    exact own_frame how fun k hk' => by
      rw [hb0] at hk'
      obtain rfl : k = gb := by simpa using hk'
      exact hk k (by rw [e2]; simp) ngb0
  · rw [hset]
    exact (el (fun k hk => by simp [hk]) he1).append ⟨_, _, _, _, rfl, rfl, hdy, el (fun k hk => by simp [hk]) he2⟩
  · refine List.nodup_cons.2 ⟨fun hm => ?_, List.nodup_append.2 ⟨m1, List.nodup_append.2 ⟨List.nodup_append.2 ⟨m7, List.nodup_append.2 ⟨hn', m11, ?_⟩, ?_⟩, m5, ?_⟩, ?_⟩⟩
    · simp only [List.mem_append] at hm
      rcases hm with hm | (hm | hm | hm) | hm
      · exact ngb (by simp [hm])
      · exact ngb (by simp [hm])
      · exact out hm (by simp)
      · exact ngb (by simp [hm])
      · exact ngb (by simp [hm])
    · intro k hk1 k' hk2 e; subst e; exact out hk1 (by simp [hk2])
    · intro k hk1 k' hk2 e
      subst e
      rcases List.mem_append.1 hk2 with hk2 | hk2
      · exact out hk2 (by simp [hk1])
      · exact m9 k hk1 k (by simp [hk2]) rfl
    · intro k hk1 k' hk2 e
      subst e
      simp only [List.mem_append] at hk1
      rcases hk1 with hk1 | hk1 | hk1
      · exact m6 k (by simp [hk1]) k hk2 rfl
      · exact out hk1 (by simp [hk2])
      · exact m6 k (by simp [hk1]) k hk2 rfl
    · intro k hk1 k' hk2 e
      subst e
      simp only [List.mem_append] at hk2
      rcases hk2 with (hk2 | hk2 | hk2) | hk2
      · exact m3 k hk1 k (by simp [hk2]) rfl
      · exact out hk2 (by simp [hk1])
      · exact m3 k hk1 k (by simp [hk2]) rfl
      · exact m3 k hk1 k (by simp [hk2]) rfl
  · intro k hk'
    simp only [List.mem_cons, List.mem_append] at hk'
    rcases hk' with rfl | hk' | (hk' | hk' | hk') | hk'
    · exact .inr ⟨by rw [e2]; simp, ngb0⟩
    · exact .inr (rest k (by simp [hk']))
    · exact .inr (rest k (by simp [hk']))
    · exact .inl hk'
    · exact .inr (rest k (by simp [hk']))
    · exact .inr (rest k (by simp [hk']))
end

end Go.Proofs.Ytigkodlbjimikaa.Vc
