/- Calls: what a call does, in memory's terms; the caller's state behind it. -/
import Derived.Test.YtigkodlbjimikaaVcZ
namespace Go.Proofs.Ytigkodlbjimikaa.Vc
open Go Go.RowKit
set_option linter.unusedVariables false
set_option linter.unusedSimpArgs false

/-- What a call does. -/
def CallSpec (P : Program) (g : Sig) (x : g.arg) (r : g.ans) : Prop :=
  ∀ (I : Nat → Prop) (w : World) (args : List Value) (F : List Nat), ParsRep I w g.pars x args F → F.Nodup → (∀ k ∈ F, ¬ I k ∧ k < w.heap.size) → (∀ k, I k → k < w.heap.size) →
    Calls P g.f args.toArray w fun e w' => ∃ vs I' f1 f2, e = .returned (resVal vs) ∧ ∃ C : Ctx, C.w0 = w ∧ (∀ k, C.lent k ↔ k ∈ F) ∧ C.I0 = I ∧ Left C w' g r args vs I' f1 f2 ∧ Frame_ C w'
section
variable {P : Program} {E : Env} {C : Ctx} {G : Gh} {s : St} {a : Act} {w : World} {hr : List Nat} {HB HR : Nat → Prop}
theorem HInv.addI (h : HInv C G s a w hr HB HR) {J : Nat → Prop} (hJ : ∀ k, J k → (∀ b x, get s.boxes b = some x → ¬ HB b → G.blk b ≠ k) ∧ (∀ r g, s.reg r = some g → ¬ HR r → k ∉ G.fp r) ∧ k < w.heap.size ∧ C.ok k) : HInv C (G.addI J) s a w hr HB HR := by
  have mv : ∀ c v, hide hr c = c → CRep G s.reg w c v → CRep (G.addI J) s.reg w c v := fun c v _ hc =>
    CRep.move (G := G) (G' := G.addI J) (fun _ hk => .inl hk) (fun _ _ => rfl) (fun _ hb => ⟨hb, rfl⟩) (fun q hq => ⟨fun g hg => ⟨g, hg, rfl, rfl⟩, rfl, fun _ _ _ _ => rfl⟩) hc
  refine ⟨fun b x hb hH => ?_, h.reg, h.pb, h.bb, h.rr, h.rb, ?_, ?_, h.ob, h.or, ?_, h.frame, h.home, h.orig, (fun k hk => .inl (h.i0 k hk)), ?_, h.sub, h.defers, h.size, fun t v hv => ?_⟩
  · obtain ⟨⟨arr, h1, h2⟩, h3⟩ := h.box b x hb hH
    exact ⟨⟨arr, h1, h2.moveC mv h3⟩, h3⟩
  · intro b x hb hH hI
    rcases hI with hI | hI
    · exact h.ib b x hb hH hI
    · exact (hJ _ hI).1 b x hb hH rfl
  · intro r g k hg hH hk hI
    rcases hI with hI | hI
    · exact h.ir r g k hg hH hk hI
    · exact (hJ k hI).2.1 r g hg hH hk
  · intro k hk
    rcases hk with hk | hk
    · exact h.ilt k hk
    · exact (hJ k hk).2.2.1
  · intro k hk
    rcases hk with hk | hk
    · exact h.i1 k hk
    · exact .inr (hJ k hk).2.2.2
  · obtain ⟨h1, h2⟩ := h.tmp t v hv
    exact ⟨h1.moveC mv h2, h2⟩
theorem comps_aval {R : Nat → Option Reg} {cs : List Comp} {vs : List Value} (h : Comps G R w cs vs) : ARep G R w (avalOf cs) (resVal vs) := by
  rcases cs with _ | ⟨c, _ | ⟨c2, l⟩⟩
  · obtain rfl : vs = [] := h
    exact ⟨#[], rfl, rfl⟩
  · obtain ⟨v, vl, rfl, h1, h2⟩ := h
    obtain rfl : vl = [] := h2
    exact h1
  · obtain ⟨v, vl, rfl, h1, v2, vl2, rfl, h2, h3⟩ := h
    exact ⟨(v :: v2 :: vl2).toArray, rfl, v, _, by simp, h1, v2, vl2, rfl, h2, h3⟩
theorem labs_free {d : Nat} (h : labsFree d s = true) : ∀ i, 0 ≤ i → i < 1000 → s.reg (callLab d i) = none := by
  intro i _ hi
  cases hg : s.reg (callLab d i) with
  | none => rfl
  | some g =>
    have hm := List.all_eq_true.1 h _ (get_mem hg)
    simp only [Bool.or_eq_true] at hm
    rcases hm with hm | hm
    · have := Nat.le_of_ble_eq_true hm; unfold callLab at this; omega
    · have := Nat.le_of_ble_eq_true hm; unfold callLab at this; omega
end

end Go.Proofs.Ytigkodlbjimikaa.Vc
