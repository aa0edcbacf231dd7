/- Calls: what comes back of the parameters is told. -/
import Derived.Test.YtigkodlbjimikaaVcY
namespace Go.Proofs.Ytigkodlbjimikaa.Vc
open Go Go.RowKit
set_option linter.unusedVariables false
set_option linter.unusedSimpArgs false

def boxL : List Par → List AVal → List Nat
  | .box _ _ _ :: l, .cp (.one (.ptr b 0)) :: as => b :: boxL l as
  | _ :: l, _ :: as => boxL l as
  | _, _ => []
def backL : List Par → List AVal → List Nat
  | .own _ _ true :: l, .cp (.one (.own r)) :: as => r :: backL l as
  | .own _ _ true :: l, .cp (.one (.inn r _ _ _ _)) :: as => r :: backL l as
  | _ :: l, _ :: as => backL l as
  | _, _ => []
/-- What is known of the arguments, by the parameters. -/
def AF (G : Gh) (s : St) (w w' : World) (F : List Nat) : List Par → List AVal → List Value → Prop
  | [], [], [] => True
  | .box tid _ _ :: l, .cp (.one (.ptr b 0)) :: as, v :: vs => v = .pointer (some ⟨G.blk b, 0, none⟩) ∧ (get s.boxes b).isSome = true ∧ AF G s w w' F l as vs
  | .own e t true :: l, .cp (.one (.own r)) :: as, v :: vs => (∃ g A c, s.reg r = some g ∧ g.t = t ∧ G.root r = v ∧ v = .slice A g.xs.length c) ∧ AF G s w w' F l as vs
  | .own e t true :: l, .cp (.one (.inn r i off e' t')) :: as, v :: vs => (∃ g, s.reg r = some g ∧ ∀ (l' : List t.den) f', DRep w' (.sl e t) l' [v] f' → f'.Nodup → (∀ k ∈ f', k ∈ F ∨ w.heap.size ≤ k) →
      ∃ y fp', innPut e t l' g.t off (lget g.xs i) = some y ∧ DRep w' (.sl g.e g.t) (lset g.xs i y) [G.root r] fp' ∧ fp'.Nodup ∧ ∀ k ∈ fp', k ∈ f' ∨ (k ∈ G.fp r ∧ k ∉ F)) ∧ AF G s w w' F l as vs
  | .own e t false :: l, u :: as, v :: vs => AF G s w w' F l as vs
  | .val t :: l, u :: as, v :: vs => AF G s w w' F l as vs
  | .agg sh :: l, u :: as, v :: vs => AF G s w w' F l as vs
  | .fn f caps :: l, u :: as, v :: vs => AF G s w w' F l as vs
  | _, _, _ => False
def outLen : List Par → Nat
  | [] => 0
  | .box _ _ out :: l => out.length + outLen l
  | _ :: l => outLen l
def outView : List Par → Bool
  | [] => false
  | p :: l => parHasView p || outView l
section
variable {C : Ctx} {a : Act} {w : World} {hr : List Nat}
theorem newPars_ok {d : Nat} {I' : Nat → Prop} {w0 : World} {F : List Nat} {G0 : Gh} {s0 : St} : ∀ (l : List Par) (as : List AVal) (vs : List Value) (j : Nat) (y : (outsTy l).den) (f : List Nat) {G : Gh} {s : St} (h : HInv C G s a w hr (· ∈ boxL l as) (· ∈ backL l as)), OutsRep I' w l y vs f → AF G0 s0 w0 w F l as vs → (outView l = true → ∀ k, I' k → G.I k) →
    f.Nodup → (∀ k ∈ f, LoneH G s (· ∈ boxL l as) (· ∈ backL l as) k ∧ C.ok k ∧ (k ∈ F ∨ w0.heap.size ≤ k)) → (∀ r ∈ backL l as, ∀ k ∈ G0.fp r, k < w0.heap.size ∧ (k ∉ F → LoneH G s (· ∈ boxL l as) (· ∈ backL l as) k ∧ C.ok k)) →
    (∀ r ∈ backL l as, ∀ r' ∈ backL l as, r ≠ r' → ∀ k ∈ G0.fp r, k ∉ G0.fp r') → (backL l as).Nodup → (boxL l as).Nodup → (∀ r ∈ backL l as, (s0.reg r).isSome = true ∧ s.reg r = s0.reg r ∧ G.root r = G0.root r) → G.blk = G0.blk → (∀ b, (get s0.boxes b).isSome = true → (get s.boxes b).isSome = true) →
    j + outLen l ≤ 1000 → (∀ i, j ≤ i → i < 1000 → s.reg (callLab d i) = none) →
    ∃ G', HInv C G' (newPars d s l as j y) a w hr (fun _ => False) (fun _ => False) ∧ (∀ c v, hide hr c = c → CRep G s.reg w c v → CRep G' (newPars d s l as j y).reg w c v) ∧ (newPars d s l as j y).tmps = s.tmps ∧ G'.I = G.I := by
  intro l
  induction l with
  | nil =>
    intro as vs j y f G s h ho haf hI hn hl hK hdis hbn hxn hag hblk hbx hlen hfr
    cases as with
    | nil => exact ⟨G, h.weak (fun b hb => by cases hb) (fun r hr => by cases hr) (fun _ hr => hr.elim), fun _ _ _ hc => hc, rfl, rfl⟩
    | cons u as => cases vs <;> exact haf.elim
  | cons p l ih =>
    intro as vs j y f G s h ho haf hI hn hl hK hdis hbn hxn hag hblk hbx hlen hfr
    cases as with
    | nil =>
      cases p with
      | own e t b => cases b <;> cases vs <;> simp [AF] at haf
      | _ => cases vs <;> simp [AF] at haf
    | cons u as =>
      have freeR : ∀ {r g'}, (s.reg r).isSome = true → ∀ i, j ≤ i → i < 1000 → (s.setReg r g').reg (callLab d i) = none := by
        intro r g' hr i h1 h2
        rw [setReg_reg, if_neg (fun e => by rw [← e, hfr i h1 h2] at hr; cases hr)]
        exact hfr i h1 h2
      -- a region is told
      have region : ∀ {r : Nat} {g g' : Reg} {fp' f1 fl : List Nat} {vl : List Value} {y' : (outsTy l).den} (hbox : boxL (p :: l) (u :: as) = boxL l as) (hback : backL (p :: l) (u :: as) = r :: backL l as) (hlenp : outLen (p :: l) = outLen l) (hview : outView l = true → outView (p :: l) = true),
          s.reg r = some g → g'.t = g.t → g'.xs.length = g.xs.length → g'.orig = g.orig → DRep w (.sl g'.e g'.t) g'.xs [G.root r] fp' → fp'.Nodup → (∀ k ∈ fp', k ∈ f1 ∨ (k ∈ G0.fp r ∧ k ∉ F)) → f = f1 ++ fl → OutsRep I' w l y' vl fl → AF G0 s0 w0 w F l as vl →
          ∃ G', HInv C G' (newPars d (s.setReg r g') l as j y') a w hr (fun _ => False) (fun _ => False) ∧ (∀ c v, hide hr c = c → CRep G s.reg w c v → CRep G' (newPars d (s.setReg r g') l as j y').reg w c v) ∧ (newPars d (s.setReg r g') l as j y').tmps = s.tmps ∧ G'.I = G.I := by
        intro r g g' fp' f1 fl vl y' hbox hback hlenp hview hg ht hlen' hor hd hnd hmem hf ho' haf'
        subst hf
        rw [hback] at hbn
        obtain ⟨b1, b2⟩ := List.nodup_cons.1 hbn
        obtain ⟨n1, n2, n3⟩ := List.nodup_append.1 hn
        have hrb : r ∈ backL (p :: l) (u :: as) := by rw [hback]; exact List.mem_cons_self
        have inb : ∀ {q}, q ∈ backL l as → q ∈ backL (p :: l) (u :: as) := fun hq => by rw [hback]; exact List.mem_cons_of_mem _ hq
        have lone : ∀ k ∈ fp', LoneH G s (· ∈ boxL (p :: l) (u :: as)) (· ∈ backL (p :: l) (u :: as)) k ∧ C.ok k := by
          intro k hk
          rcases hmem k hk with hk | ⟨hk, hkF⟩
          · obtain ⟨k1, k2, _⟩ := hl k (List.mem_append.2 (.inl hk)); exact ⟨k1, k2⟩
          · exact (hK r hrb k hk).2 hkF
        obtain ⟨m1, m2, m3⟩ := h.tell (r := r) (g := g') (root := G.root r) (.inr ⟨g, hg, hrb, ht, hlen', hor, rfl⟩) hd hnd (fun k hk => (lone k hk).1) (fun k hk => (lone k hk).2) (fun j' hj' => h.orig r g j' hg (hor.symm.trans hj'))
        have wB : ∀ q, q ∈ boxL (p :: l) (u :: as) → q ∈ boxL l as := fun q hq => by rwa [hbox] at hq
        have wR : ∀ q, (q ∈ backL (p :: l) (u :: as) ∧ q ≠ r) → q ∈ backL l as := fun q hq => by
          obtain ⟨h1, h2⟩ := hq
          rw [hback] at h1
          exact (List.mem_cons.1 h1).resolve_left h2
        have old : ∀ {k}, (k ∈ F ∨ w0.heap.size ≤ k) → k ∉ f1 → k ∉ fp' := fun hk hk1 hk' => by
          rcases hmem _ hk' with hk' | ⟨hk', hkF⟩
          · exact hk1 hk'
          · rcases hk with hk | hk
            · exact hkF hk
            · have := (hK r hrb _ hk').1; omega
        obtain ⟨G', k1, k2, k3, k4⟩ := ih as vl j y' fl (G := G.setReg r (G.root r) fp') (s := s.setReg r g') (m1.weak wB wR (fun q hq => h.sub q (inb hq))) ho' haf' (fun hv k hk => hI (hview hv) k hk) n2
          (fun k hk => by
            obtain ⟨p1, p2, p3⟩ := hl k (List.mem_append.2 (.inr hk))
            exact ⟨(m3 k p1 (old p3 fun hk' => n3 k hk' k hk rfl)).weak wB wR, p2, p3⟩)
          (fun q hq k hk => by
            obtain ⟨p1, p2⟩ := hK q (inb hq) k hk
            refine ⟨p1, fun hkF => ?_⟩
            obtain ⟨p3, p4⟩ := p2 hkF
            refine ⟨(m3 k p3 fun hk' => ?_).weak wB wR, p4⟩
            rcases hmem _ hk' with hk' | ⟨hk', _⟩
            · rcases (hl k (List.mem_append.2 (.inl hk'))).2.2 with hk2 | hk2
              · exact hkF hk2
              · omega
            · exact hdis q (inb hq) r hrb (fun e => b1 (e ▸ hq)) k hk hk')
          (fun q hq q' hq' => hdis q (inb hq) q' (inb hq')) b2 (by rwa [hbox] at hxn)
          (fun q hq => by
            obtain ⟨p1, p2, p3⟩ := hag q (inb hq)
            have hne : q ≠ r := fun e => b1 (e ▸ hq)
            exact ⟨p1, by rw [setReg_reg, if_neg hne]; exact p2, (upd_ne _ _ hne).trans p3⟩)
          hblk hbx (by rw [hlenp] at hlen; exact hlen) (freeR (by rw [hg]; rfl))
        exact ⟨G', k1, fun c v hc hv => k2 c v hc (m2 c v hc hv), k3, k4⟩
      cases p with
      | val t =>
        obtain ⟨v, vl, rfl, ho⟩ := ho
        exact ih as vl j y.2 f h ho haf (fun hv => hI (by simp only [outView, hv, Bool.or_true])) hn hl hK hdis hbn hxn hag hblk hbx hlen hfr
      | agg sh =>
        obtain ⟨v, vl, rfl, ho⟩ := ho
        exact ih as vl j y.2 f h ho haf (fun hv => hI (by simp only [outView, hv, Bool.or_true])) hn hl hK hdis hbn hxn hag hblk hbx hlen hfr
      | fn fn caps =>
        obtain ⟨v, vl, rfl, ho⟩ := ho
        exact ih as vl j y.2 f h ho haf (fun hv => hI (by simp only [outView, hv, Bool.or_true])) hn hl hK hdis hbn hxn hag hblk hbx hlen hfr
      | own e t b =>
        cases b with
        | false =>
          obtain ⟨v, vl, rfl, ho⟩ := ho
          exact ih as vl j y.2 f h ho haf (fun hv => hI (by simp only [outView, hv, Bool.or_true])) hn hl hK hdis hbn hxn hag hblk hbx hlen hfr
        | true =>
          obtain ⟨v, vl, f1, fl, rfl, rfl, hd, ho⟩ := ho
          have n1 := (List.nodup_append.1 hn).1
          cases u with
          | cp c =>
            cases c with
            | agg _ => simp [AF] at haf
            | one c =>
              cases c with
              | own r =>
                obtain ⟨⟨g, A, c, hg0, rfl, hroot, hv⟩, haf⟩ := haf
                obtain ⟨_, hs, hgr⟩ := hag r List.mem_cons_self
                rw [hg0] at hs
                have hrv : G.root r = v := hgr.trans hroot
                have hlen2 : y.1.length = g.xs.length := by
                  obtain ⟨v', cells, fps, e1, how, _⟩ := hd
                  obtain rfl : v = v' := by simpa using e1
                  obtain ⟨A', c', hv', _⟩ := own_le how
                  rw [hv] at hv'
                  simp only [Value.slice.injEq] at hv'
                  exact hv'.2.1.symm
                obtain ⟨G', q1, q2, q3, q4⟩ := region (g' := ⟨e, g.t, y.1, g.orig⟩) (fp' := f1) (y' := y.2) rfl rfl rfl (fun hv => by simp only [outView, hv, Bool.or_true]) hs rfl hlen2 rfl (by rw [hrv]; exact hd) n1 (fun k hk => .inl hk) rfl ho haf
                have hform : newPars d s (.own e g.t true :: l) (.cp (.one (.own r)) :: as) j y = newPars d (s.setReg r ⟨e, g.t, y.1, g.orig⟩) l as j y.2 := by
                  simp only [newPars, hs]
                rw [hform]
                exact ⟨G', q1, q2, q3, q4⟩
              | inn r i off e' t' =>
                obtain ⟨⟨g, hg0, hback⟩, haf⟩ := haf
                obtain ⟨_, hs, hgr⟩ := hag r List.mem_cons_self
                rw [hg0] at hs
                obtain ⟨z, fp', hput, hdz, hnz, hmz⟩ := hback y.1 f1 hd n1 (fun k hk => (hl k (List.mem_append.2 (.inl hk))).2.2)
                obtain ⟨G', q1, q2, q3, q4⟩ := region (g' := { g with xs := lset g.xs i z }) (fp' := fp') (y' := y.2) rfl rfl rfl (fun hv => by simp only [outView, hv, Bool.or_true]) hs rfl (by simp [lset]) rfl (by rw [hgr]; exact hdz) hnz hmz rfl ho haf
                have hform : newPars d s (.own e t true :: l) (.cp (.one (.inn r i off e' t')) :: as) j y = newPars d (s.setReg r { g with xs := lset g.xs i z }) l as j y.2 := by
                  simp only [newPars, hs, hput]
                rw [hform]
                exact ⟨G', q1, q2, q3, q4⟩
              | _ => simp [AF] at haf
          | _ => simp [AF] at haf
      | box tid sh out =>
        obtain ⟨kb, vl, f1, fl, arr, rfl, rfl, hheap, hrow, ho⟩ := ho
        cases u with
        | cp c =>
          cases c with
          | agg _ => simp [AF] at haf
          | one c =>
            cases c with
            | ptr b o =>
              cases o with
              | succ _ => simp [AF] at haf
              | zero =>
                obtain ⟨hv, hbs, haf⟩ := haf
                obtain rfl : kb = G0.blk b := by simpa using hv
                obtain ⟨n1, n2, n3⟩ := List.nodup_append.1 hn
                obtain ⟨n4, n5⟩ := List.nodup_cons.1 n1
                simp only [outLen] at hlen
                obtain ⟨x1, x2⟩ := List.nodup_cons.1 (show (b :: boxL l as).Nodup from hxn)
                obtain ⟨G1, k1, k2, k3, k4⟩ := newCells_ok (d := d) out j y.1 arr.toList f1 h hrow (fun hv => hI (by simp only [outView, parHasView, hv, Bool.true_or])) n5 (fun k hk => by obtain ⟨p1, p2, _⟩ := hl k (by simp [hk]); exact ⟨p1, p2⟩) (by omega) hfr
                obtain ⟨xb, hxb⟩ := Option.isSome_iff_exists.1 (hbx b hbs)
                have hblk1 : G1.blk b = G0.blk b := by rw [k1.blk, hblk]
                obtain ⟨p1, p2, p3⟩ := hl (G0.blk b) (by simp)
                obtain ⟨m1, m2⟩ := k1.inv.tellBox (b := b) (x0 := xb) (tid := tid) (arr := arr) (by rw [k1.boxes]; exact hxb) (by rw [hblk1]; exact hheap) k2 k3 (by rw [hblk1]; exact k1.lone _ p1 n4) (by rw [hblk1]; exact p2)
                have wB : ∀ q, (q ∈ boxL (.box tid sh out :: l) (.cp (.one (.ptr b 0)) :: as) ∧ q ≠ b) → q ∈ boxL l as := fun q hq => (List.mem_cons.1 (show q ∈ b :: boxL l as from hq.1)).resolve_left hq.2
                obtain ⟨G', q1, q2, q3, q4⟩ := ih as vl (newCells d s out j y.1).2.2 y.2 fl (G := G1) (s := (newCells d s out j y.1).1.setBox b ⟨tid, (newCells d s out j y.1).2.1⟩) (m1.weak wB (fun _ hr => hr) h.sub) ho haf (fun hv k hk => by rw [k1.I]; exact hI (by simp only [outView, hv, Bool.or_true]) k hk) n2
                  (fun k hk => by
                    obtain ⟨p1, p2, p3⟩ := hl k (by simp [hk])
                    refine ⟨(m2 k (k1.lone k p1 fun hk' => n3 k (by simp [hk']) k hk rfl) (by rw [hblk1]; exact fun e => n3 _ (by simp) k hk e.symm)).weak wB fun _ hr => hr, p2, p3⟩)
                  (fun r hr k hk => by
                    obtain ⟨p1, p2⟩ := hK r hr k hk
                    refine ⟨p1, fun hkF => ?_⟩
                    obtain ⟨p3, p4⟩ := p2 hkF
                    have notin : k ∉ (G0.blk b :: f1) := fun hk' => by
                      rcases (hl k (List.mem_append.2 (.inl hk'))).2.2 with hk2 | hk2
                      · exact hkF hk2
                      · omega
                    exact ⟨(m2 k (k1.lone k p3 fun hk' => notin (by simp [hk'])) (by rw [hblk1]; exact fun e => notin (by simp [e]))).weak wB fun _ hr => hr, p4⟩)
                  hdis hbn x2
                  (fun r hr => by
                    obtain ⟨p1, p2, p3⟩ := hag r hr
                    obtain ⟨o1, _, o3⟩ := k1.old r (by rw [p2]; exact p1)
                    exact ⟨p1, o3.trans p2, o1.trans p3⟩)
                  (k1.blk.trans hblk)
                  (fun b' hb' => by
                    rw [setBox_box, k1.boxes]
                    by_cases e : b' = b
                    · rw [if_pos e]; rfl
                    · rw [if_neg e]; exact hbx b' hb')
                  (by omega) k1.free
                refine ⟨G', q1, fun c v hc hv => q2 c v hc (k1.mv c v hc hv), q3.trans k1.tmps, q4.trans k1.I⟩
            | _ => simp [AF] at haf
        | _ => simp [AF] at haf
end

end Go.Proofs.Ytigkodlbjimikaa.Vc
