/- Calls: what comes back is told. -/
import Derived.Test.YtigkodlbjimikaaVcX
namespace Go.Proofs.Ytigkodlbjimikaa.Vc
open Go Go.RowKit
set_option linter.unusedVariables false
set_option linter.unusedSimpArgs false

section
variable {P : Program} {E : Env} {C : Ctx} {G : Gh} {s : St} {a : Act} {w : World} {hr : List Nat} {HB HR : Nat → Prop}
theorem HInv.weak (h : HInv C G s a w hr HB HR) {HB' HR' : Nat → Prop} (hB : ∀ b, HB b → HB' b) (hR : ∀ r, HR r → HR' r) (hs : ∀ r, HR' r → r ∈ hr) : HInv C G s a w hr HB' HR' :=
  ⟨fun b x hx hn => h.box b x hx fun hh => hn (hB b hh), fun r g hg hn => h.reg r g hg fun hh => hn (hR r hh), h.pb, fun b b' x x' h1 h2 n1 n2 => h.bb b b' x x' h1 h2 (fun hh => n1 (hB _ hh)) fun hh => n2 (hB _ hh), fun r r' g g' h1 h2 n1 n2 => h.rr r r' g g' h1 h2 (fun hh => n1 (hR _ hh)) fun hh => n2 (hR _ hh),
    fun r g b x h1 h2 n1 n2 => h.rb r g b x h1 h2 (fun hh => n1 (hR _ hh)) fun hh => n2 (hB _ hh), fun b x h1 n1 => h.ib b x h1 fun hh => n1 (hB _ hh), fun r g k h1 n1 => h.ir r g k h1 fun hh => n1 (hR _ hh), fun b x h1 n1 => h.ob b x h1 fun hh => n1 (hB _ hh), fun r g k h1 n1 => h.or r g k h1 fun hh => n1 (hR _ hh),
    h.ilt, h.frame, h.home, h.orig, h.i0, h.i1, hs, h.defers, h.size, h.tmp⟩
theorem LoneH.weak {k : Nat} (h : LoneH G s HB HR k) {HB' HR' : Nat → Prop} (hB : ∀ b, HB b → HB' b) (hR : ∀ r, HR r → HR' r) : LoneH G s HB' HR' k :=
  ⟨h.still, fun b x hx hn => h.box b x hx fun hh => hn (hB b hh), fun r g hg hn => h.reg r g hg fun hh => hn (hR r hh)⟩
theorem hide_vcells : ∀ {t : Ty} {x : t.den}, (vcells t x).map (hide hr) = vcells t x
  | .int _, _ => rfl
  | .bool, _ => rfl
  | .str, _ => rfl
  | .sl _ _, _ => rfl
  | .unit, _ => rfl
  | .opq, _ => rfl
  | .pair a b, x => by simp only [vcells, List.map_append]; rw [hide_vcells, hide_vcells]
/-- What is new of a row. -/
structure Told (C : Ctx) (G G' : Gh) (s s' : St) (a : Act) (w : World) (hr : List Nat) (HB HR : Nat → Prop) (d j j' : Nat) (f : List Nat) : Prop where
  inv : HInv C G' s' a w hr HB HR
  mv : ∀ c v, hide hr c = c → CRep G s.reg w c v → CRep G' s'.reg w c v
  lone : ∀ k, LoneH G s HB HR k → k ∉ f → LoneH G' s' HB HR k
  tmps : s'.tmps = s.tmps
  boxes : s'.boxes = s.boxes
  I : G'.I = G.I
  blk : G'.blk = G.blk
  pb : G'.pb = G.pb
  old : ∀ r, (s.reg r).isSome = true → G'.root r = G.root r ∧ G'.fp r = G.fp r ∧ s'.reg r = s.reg r
  le : j ≤ j'
  free : ∀ i, j' ≤ i → i < 1000 → s'.reg (callLab d i) = none
theorem Told.trans {G1 G2 : Gh} {s1 s2 : St} {d j j1 j2 : Nat} {f1 f2 : List Nat} (h1 : Told C G G1 s s1 a w hr HB HR d j j1 f1) (h2 : Told C G1 G2 s1 s2 a w hr HB HR d j1 j2 f2) : Told C G G2 s s2 a w hr HB HR d j j2 (f1 ++ f2) := by
  refine ⟨h2.inv, fun c v hc hv => h2.mv c v hc (h1.mv c v hc hv), fun k hk hn => h2.lone k (h1.lone k hk fun hk' => hn (List.mem_append.2 (.inl hk'))) fun hk' => hn (List.mem_append.2 (.inr hk')), h2.tmps.trans h1.tmps, h2.boxes.trans h1.boxes, h2.I.trans h1.I, h2.blk.trans h1.blk, h2.pb.trans h1.pb, fun r hr' => ?_, Nat.le_trans h1.le h2.le, h2.free⟩
  obtain ⟨k1, k2, k3⟩ := h1.old r hr'
  obtain ⟨k4, k5, k6⟩ := h2.old r (by rw [k3]; exact hr')
  exact ⟨k4.trans k1, k5.trans k2, k6.trans k3⟩
theorem newCells_ok {d : Nat} {I' : Nat → Prop} : ∀ (l : List CSh) (j : Nat) (x : (rowTy l).den) (vs : List Value) (f : List Nat) {G : Gh} {s : St}, HInv C G s a w hr HB HR → RowRep I' w l x vs f → (rowView l = true → ∀ k, I' k → G.I k) → f.Nodup → (∀ k ∈ f, LoneH G s HB HR k ∧ C.ok k) → j + l.length ≤ 1000 → (∀ i, j ≤ i → i < 1000 → s.reg (callLab d i) = none) →
    ∃ G', Told C G G' s (newCells d s l j x).1 a w hr HB HR d j (newCells d s l j x).2.2 f ∧ Cells G' (newCells d s l j x).1.reg w (newCells d s l j x).2.1 vs ∧ (newCells d s l j x).2.1.map (hide hr) = (newCells d s l j x).2.1 ∧ (newCells d s l j x).2.2 ≤ j + l.length
  | [], j, x, vs, f, G, s, h, hrow, hI, hn, hl, hlen, hfr => by
    obtain ⟨rfl, rfl⟩ := hrow
    exact ⟨G, ⟨h, fun _ _ _ hc => hc, fun _ hk _ => hk, rfl, rfl, rfl, rfl, rfl, fun _ _ => ⟨rfl, rfl, rfl⟩, Nat.le_refl _, hfr⟩, rfl, rfl, Nat.le_refl _⟩
  | .val t :: l, j, x, vs, f, G, s, h, hrow, hI, hn, hl, hlen, hfr => by
    obtain ⟨v, vl, rfl, ⟨hv, hd⟩, hrow⟩ := hrow
    simp only [List.length_cons] at hlen
    obtain ⟨G', k1, k2, k3, k4⟩ := newCells_ok l j x.2 vl f h hrow hI hn hl (by omega) hfr
    refine ⟨G', k1, ?_, ?_, Nat.le_trans k4 (by simp only [List.length_cons]; omega)⟩
    · exact (vcells_ok (hv.flatI hd)).append k2
    · show (vcells t x.1 ++ (newCells d s l j x.2).2.1).map (hide hr) = _
      rw [List.map_append, hide_vcells, k3]; rfl
  | .view e t :: l, j, x, vs, f, G, s, h, hrow, hI, hn, hl, hlen, hfr => by
    obtain ⟨v, vl, rfl, hv, hrow⟩ := hrow
    simp only [List.length_cons] at hlen
    obtain ⟨G', k1, k2, k3, k4⟩ := newCells_ok l j x.2 vl f h hrow (fun _ => hI rfl) hn hl (by omega) hfr
    refine ⟨G', k1, ⟨v, vl, rfl, ?_, k2⟩, ?_, Nat.le_trans k4 (by simp only [List.length_cons]; omega)⟩
    · exact hv.mono (fun k hk => by rw [k1.I]; exact hI rfl k hk) fun _ _ => rfl
    · show (Cell.view e t x.1 :: (newCells d s l j x.2).2.1).map (hide hr) = _
      rw [List.map_cons, k3]; rfl
  | .own e t :: l, j, x, vs, f, G, s, h, hrow, hI, hn, hl, hlen, hfr => by
    obtain ⟨v, vl, f1, fl, rfl, rfl, hv, hrow⟩ := hrow
    simp only [List.length_cons] at hlen
    obtain ⟨n1, n2, n3⟩ := List.nodup_append.1 hn
    obtain ⟨m1, m2, m3⟩ := h.tell (r := callLab d j) (g := ⟨e, t, x.1, 0⟩) (root := v) (.inl (hfr j (Nat.le_refl _) (by omega))) hv n1 (fun k hk => (hl k (List.mem_append.2 (.inl hk))).1) (fun k hk => (hl k (List.mem_append.2 (.inl hk))).2) (fun j hj => by cases hj)
    have hne : ∀ i, j + 1 ≤ i → callLab d i ≠ callLab d j := fun i hi => by unfold callLab; omega
    have t1 : Told C G (G.setReg (callLab d j) v f1) s (s.setReg (callLab d j) ⟨e, t, x.1, 0⟩) a w hr HB HR d j (j + 1) f1 := by
      refine ⟨m1.weak (fun _ hb => hb) (fun _ hr => hr.1) h.sub, m2, fun k hk hnk => (m3 k hk hnk).weak (fun _ hb => hb) fun _ hr => hr.1, rfl, rfl, rfl, rfl, rfl, fun r hrs => ?_, Nat.le_succ j, fun i hi hi' => ?_⟩
      · have hne : r ≠ callLab d j := fun e => by rw [e, hfr j (Nat.le_refl _) (by omega)] at hrs; cases hrs
        exact ⟨upd_ne _ _ hne, upd_ne _ _ hne, by rw [setReg_reg, if_neg hne]⟩
      · rw [setReg_reg, if_neg (hne i hi)]; exact hfr i (by omega) hi'
    obtain ⟨G', k1, k2, k3, k4⟩ := newCells_ok l (j + 1) x.2 vl fl t1.inv hrow hI n2 (fun k hk => ⟨t1.lone k (hl k (List.mem_append.2 (.inr hk))).1 fun hk' => n3 k hk' k hk rfl, (hl k (List.mem_append.2 (.inr hk))).2⟩) (by omega) t1.free
    refine ⟨G', t1.trans k1, ⟨v, vl, rfl, ?_, k2⟩, ?_, Nat.le_trans k4 (by simp only [List.length_cons]; omega)⟩
    · obtain ⟨p1, _, p3⟩ := k1.old (callLab d j) (by rw [setReg_reg, if_pos rfl]; rfl)
      refine ⟨⟨e, t, x.1, 0⟩, ?_, ?_⟩
      · show (newCells d (s.setReg (callLab d j) ⟨e, t, x.1, 0⟩) l (j + 1) x.2).1.reg (callLab d j) = _
        rw [p3, setReg_reg, if_pos rfl]
      · rw [p1, show (G.setReg (callLab d j) v f1).root (callLab d j) = v from upd_same _ _ _]
    · show (Cell.own (callLab d j) :: (newCells d (s.setReg (callLab d j) ⟨e, t, x.1, 0⟩) l (j + 1) x.2).2.1).map (hide hr) = _
      rw [List.map_cons, k3]; rfl
def resLen : List RSh → Nat
  | [] => 0
  | .one _ :: l => 1 + resLen l
  | .agg cs :: l => cs.length + resLen l
def resView : List RSh → Bool
  | [] => false
  | r :: l => r.hasView || resView l
theorem newComps_ok {d : Nat} {I' : Nat → Prop} : ∀ (l : List RSh) (j : Nat) (x : (ressTy l).den) (vs : List Value) (f : List Nat) {G : Gh} {s : St}, HInv C G s a w hr HB HR → ResRep I' w l x vs f → (resView l = true → ∀ k, I' k → G.I k) → f.Nodup → (∀ k ∈ f, LoneH G s HB HR k ∧ C.ok k) → j + resLen l ≤ 1000 → (∀ i, j ≤ i → i < 1000 → s.reg (callLab d i) = none) →
    ∃ G', Told C G G' s (newComps d s l j x).1 a w hr HB HR d j (newComps d s l j x).2.2 f ∧ Comps G' (newComps d s l j x).1.reg w (newComps d s l j x).2.1 vs ∧ (newComps d s l j x).2.1.map (Comp.map (hide hr)) = (newComps d s l j x).2.1 ∧ (newComps d s l j x).2.2 ≤ j + resLen l
  | [], j, x, vs, f, G, s, h, hrow, hI, hn, hl, hlen, hfr => by
    obtain ⟨rfl, rfl⟩ := hrow
    exact ⟨G, ⟨h, fun _ _ _ hc => hc, fun _ hk _ => hk, rfl, rfl, rfl, rfl, rfl, fun _ _ => ⟨rfl, rfl, rfl⟩, Nat.le_refl _, hfr⟩, rfl, rfl, Nat.le_refl _⟩
  | .one c :: l, j, x, vs, f, G, s, h, hrow, hI, hn, hl, hlen, hfr => by
    obtain ⟨v, vl, f1, fl, rfl, rfl, hc, hrow⟩ := hrow
    obtain ⟨n1, n2, n3⟩ := List.nodup_append.1 hn
    simp only [resLen] at hlen
    have hview : rowView [c] = true → ∀ k, I' k → G.I k := fun hv => hI (by simp only [resView, RSh.hasView, hv, Bool.true_or])
    obtain ⟨G1, k1, k2, k3, k4⟩ := newCells_ok (d := d) [c] j (x.1, ()) [v] f1 h hc hview n1 (fun k hk => hl k (List.mem_append.2 (.inl hk))) (by simp only [List.length_singleton]; omega) hfr
    simp only [List.length_singleton] at k4
    obtain ⟨G2, q1, q2, q3, q4⟩ := newComps_ok l (newCells d s [c] j (x.1, ())).2.2 x.2 vl fl k1.inv hrow (fun hv k hk => by rw [k1.I]; exact hI (by simp only [resView, hv, Bool.or_true]) k hk) n2 (fun k hk => ⟨k1.lone k (hl k (List.mem_append.2 (.inr hk))).1 fun hk' => n3 k hk' k hk rfl, (hl k (List.mem_append.2 (.inr hk))).2⟩) (by omega) k1.free
    have hone : ∃ c', (newCells d s [c] j (x.1, ())).2.1 = [c'] := by
      have hl1 := k2.length
      cases hcs : (newCells d s [c] j (x.1, ())).2.1 with
      | nil => rw [hcs] at hl1; cases hl1
      | cons c' l' => cases l' with
        | nil => exact ⟨c', rfl⟩
        | cons _ _ => rw [hcs] at hl1; simp at hl1
    obtain ⟨c', hc'⟩ := hone
    have hform : newComps d s (.one c :: l) j x = ((newComps d (newCells d s [c] j (x.1, ())).1 l (newCells d s [c] j (x.1, ())).2.2 x.2).1, .one c' :: (newComps d (newCells d s [c] j (x.1, ())).1 l (newCells d s [c] j (x.1, ())).2.2 x.2).2.1, (newComps d (newCells d s [c] j (x.1, ())).1 l (newCells d s [c] j (x.1, ())).2.2 x.2).2.2) := by
      simp only [newComps, hc']
    rw [hform]
    rw [hc'] at k2 k3
    obtain ⟨v', l', e1, p1, p2⟩ := k2
    obtain ⟨rfl, rfl⟩ : v = v' ∧ l' = [] := by simpa [eq_comm] using e1
    have hcl : hide hr c' = c' := by simpa using k3
    exact ⟨G2, k1.trans q1, ⟨v, vl, rfl, q1.mv c' v hcl p1, q2⟩, by simp only [List.map_cons, Comp.map, hcl, q3], by simp only [resLen]; omega⟩
  | .agg cs :: l, j, x, vs, f, G, s, h, hrow, hI, hn, hl, hlen, hfr => by
    obtain ⟨arr, vl, f1, fl, rfl, rfl, hc, hrow⟩ := hrow
    obtain ⟨n1, n2, n3⟩ := List.nodup_append.1 hn
    simp only [resLen] at hlen
    have hview : rowView cs = true → ∀ k, I' k → G.I k := fun hv => hI (by simp only [resView, RSh.hasView, hv, Bool.true_or])
    obtain ⟨G1, k1, k2, k3, k4⟩ := newCells_ok (d := d) cs j x.1 arr.toList f1 h hc hview n1 (fun k hk => hl k (List.mem_append.2 (.inl hk))) (by omega) hfr
    obtain ⟨G2, q1, q2, q3, q4⟩ := newComps_ok l (newCells d s cs j x.1).2.2 x.2 vl fl k1.inv hrow (fun hv k hk => by rw [k1.I]; exact hI (by simp only [resView, hv, Bool.or_true]) k hk) n2 (fun k hk => ⟨k1.lone k (hl k (List.mem_append.2 (.inr hk))).1 fun hk' => n3 k hk' k hk rfl, (hl k (List.mem_append.2 (.inr hk))).2⟩) (by omega) k1.free
    refine ⟨G2, k1.trans q1, ⟨.agg arr, vl, rfl, ⟨arr, rfl, k2.moveC q1.mv k3⟩, q2⟩, ?_, by simp only [resLen]; simp only [newComps]; omega⟩
    simp only [newComps, List.map_cons, Comp.map, k3, q3]
end

end Go.Proofs.Ytigkodlbjimikaa.Vc
