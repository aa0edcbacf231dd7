/- ViewAffine, as numbers: the program's answer is the reference's. -/
import Derived.Test.YtdmndbehfdnneaaAffineFnExactViewAffine
namespace Go.Proofs.Ytdmndbehfdnneaa.Pure
open Go.RowKit Go.Proofs.Ytdmndbehfdnneaa.HFnExactViewAffine Go.Proofs.YtdmndbehfdnneaaW.PrintWords Go.Proofs.YtdmndbehfdnneaaW.PrintLast Go.Proofs.Ytdmndbehfdnneaa.Plain
set_option linter.unusedSimpArgs false
set_option linter.unusedVariables false

/-- The affine map, of sides and a view that are good. -/
def eOf (w x v s : Int) : Int := wrap64 ((w * 65536 - fixMul v s) / 2 - fixMul x s)
def viewOf (s w h x y vw vh : Int) : Int × Int × Int × Int × Int × Int × Bool :=
  if goodAffine s 0 0 s (eOf w x vw s) (eOf h y vh s) = true then (s, 0, 0, s, eOf w x vw s, eOf h y vh s, true) else (0, 0, 0, 0, 0, 0, false)
theorem FnExactViewAffine : ∀ (a0 : Int) (a1 : Int) (a2 : Int) (a3 : Int) (a4 : Int) (a5 : Int), ((Lit.int .i64 a0).wf = true) → ((Lit.int .i64 a1).wf = true) → ((Lit.int .i64 a2).wf = true) → ((Lit.int .i64 a3).wf = true) → ((Lit.int .i64 a4).wf = true) → ((Lit.int .i64 a5).wf = true) → ∃ k, HFnExactViewAffine.laws_FnExactViewAffine.f k a0 a1 a2 a3 a4 a5 = some true := by
  intro w h x y vw vh _ _ _ _ _ _
  refine Ev.rounds ?_
  have both : ∃ r, Ev (fun k => spec_ViewAffine.f k w h x y vw vh) r ∧ Ev (fun k => impl_ViewAffine.f k w h x y vw vh) r := by
    have ns : Ev (fun k => spec_ViewAffine.j0 k w h x y vw vh true) (0, 0, 0, 0, 0, 0, false) := ev_some fun k => by rw [spec_ViewAffine.j0, if_pos rfl]
    have ni : Ev (fun k => impl_ViewAffine.j0 k w h x y vw vh true) (0, 0, 0, 0, 0, 0, false) := ev_some fun k => by rw [impl_ViewAffine.j0, if_pos rfl]
    have af := areFixed_ev [x, y, vw, vh] (by simp)
    unfold spec_ViewAffine.f impl_ViewAffine.f spec_l3Side.f spec_GoodFixed.f impl_areSides.f
    simp only [in_, within_, Option.bind_some]
    by_cases hw : 1 ≤ w ∧ w ≤ 36
    · simp only [decide_eq_true hw, if_true, Option.bind_some]
      by_cases hh : 1 ≤ h ∧ h ≤ 36
      · simp only [decide_eq_true hh, if_true]
        by_cases hall : (fixed x = true ∧ fixed y = true) ∧ (1 ≤ vw ∧ vw ≤ 1099511627776) ∧ (1 ≤ vh ∧ vh ≤ 1099511627776)
        · obtain ⟨⟨fx, fy⟩, fv, fh⟩ := hall
          have fx' : -1099511627776 ≤ x ∧ x ≤ 1099511627776 := by simpa [fixed] using fx
          have fy' : -1099511627776 ≤ y ∧ y ≤ 1099511627776 := by simpa [fixed] using fy
          have al : [x, y, vw, vh].all fixed = true := by
            simp only [List.all_cons, List.all_nil, fx, fy, Bool.and_true, Bool.true_and]
            simp [fixed]; omega
          rw [al] at af
          simp only [decide_eq_true fx', decide_eq_true fy', decide_eq_true fv, decide_eq_true fh, if_true, Bool.not_true]
          have ww : wrap64 (w * 65536) = w * 65536 := wrap_id (by omega) (by omega)
          have wh : wrap64 (h * 65536) = h * 65536 := wrap_id (by omega) (by omega)
          obtain ⟨p, ep⟩ : ∃ p, p = fixDiv (w * 65536) vw := ⟨_, rfl⟩
          obtain ⟨q, eq⟩ : ∃ q, q = fixDiv (h * 65536) vh := ⟨_, rfl⟩
          obtain ⟨s, es⟩ : ∃ s, s = mn p q := ⟨_, rfl⟩
          have m1 := fixMul_bd vw s
          have m2 := fixMul_bd x s
          have m3 := fixMul_bd vh s
          have m4 := fixMul_bd y s
          refine ⟨viewOf s w h x y vw vh, ?_, ?_⟩
          · refine Ev.step (f := fun k => ((spec_l13View.f k w h x y vw vh).bind fun bt162 => ((spec_GoodAffine.f k bt162.1 bt162.2.1 bt162.2.2.1 bt162.2.2.2.1 bt162.2.2.2.2.1 bt162.2.2.2.2.2).bind fun t169 => (if t169 = true then (some (bt162.1, bt162.2.1, bt162.2.2.1, bt162.2.2.2.1, bt162.2.2.2.2.1, bt162.2.2.2.2.2, true)) else (some (0, 0, 0, 0, 0, 0, false)))))) (fun k => by rw [spec_ViewAffine.j0, if_neg (by simp)]) ?_
            refine Ev.bind (a := (s, 0, 0, s, eOf w x vw s, eOf h y vh s)) ?_ ?_
            · have hj : Ev (fun k => spec_l13View.j0 k w h x y vw vh s) (s, 0, 0, s, eOf w x vw s, eOf h y vh s) := by
                refine Ev.step (f := fun k => (spec_FixMul.f k vw s).bind fun t143 => ((spec_l1Down.f (wrap64 ((wrap64 (w * 65536)) - t143)) 2).bind fun t144 => ((spec_FixMul.f k x s).bind fun t145 => ((spec_FixMul.f k vh s).bind fun t146 => ((spec_l1Down.f (wrap64 ((wrap64 (h * 65536)) - t146)) 2).bind fun t147 => ((spec_FixMul.f k y s).bind fun t148 => (some (s, 0, 0, s, wrap64 (t144 - t145), wrap64 (t147 - t148))))))))) (fun k => by rw [spec_l13View.j0]) ?_
                refine Ev.bind (specFixMul vw s) ?_
                simp only [ww, wh]
                rw [wrap_id (n := w * 65536 - fixMul vw s) (by omega) (by omega), specDown (by omega) (by omega) (by omega)]
                simp only [Option.bind_some]
                refine Ev.bind (specFixMul x s) (Ev.bind (specFixMul vh s) ?_)
                rw [wrap_id (n := h * 65536 - fixMul vh s) (by omega) (by omega), specDown (by omega) (by omega) (by omega)]
                simp only [Option.bind_some]
                exact Ev.bind (specFixMul y s) (Ev.now _)
              unfold spec_l13View.f
              simp only [ww, wh]
              have h1 := specFixDiv (w * 65536) vw
              have h2 := specFixDiv (h * 65536) vh
              rw [← ep] at h1
              rw [← eq] at h2
              refine Ev.bind h1 (Ev.bind h2 ?_)
              unfold mn at es
              by_cases hc : q < p
              · simp only [if_pos hc] at es ⊢
                rw [es] at hj ⊢
                exact hj
              · simp only [if_neg hc] at es ⊢
                rw [es] at hj ⊢
                exact hj
            · refine Ev.bind (specGoodAffine _ _ _ _ _ _) ?_
              unfold viewOf
              cases goodAffine s 0 0 s (eOf w x vw s) (eOf h y vh s) <;> exact Ev.now _
          · refine Ev.bind af ?_
            simp only [if_true, if_neg (show ¬ vw ≤ 0 by omega), decide_eq_false (show ¬ vh ≤ 0 by omega)]
            refine Ev.step (f := fun k => ((impl_FixDiv.f k (wrap64 (w * 65536)) vw).bind fun t207 => ((impl_FixDiv.f k (wrap64 (h * 65536)) vh).bind fun t208 => ((impl_FixMul.f k vw (mn t207 t208)).bind fun t209 => ((impl_down.f (wrap64 ((wrap64 (w * 65536)) - t209)) 2).bind fun t210 => ((impl_FixMul.f k x (mn t207 t208)).bind fun t211 => ((impl_FixMul.f k vh (mn t207 t208)).bind fun t212 => ((impl_down.f (wrap64 ((wrap64 (h * 65536)) - t212)) 2).bind fun t213 => ((impl_FixMul.f k y (mn t207 t208)).bind fun t214 => ((impl_GoodAffine.f k (mn t207 t208) 0 0 (mn t207 t208) (wrap64 (t210 - t211)) (wrap64 (t213 - t214))).bind fun t216 => (if t216 = true then (some (mn t207 t208, 0, 0, mn t207 t208, wrap64 (t210 - t211), wrap64 (t213 - t214), true)) else (some (0, 0, 0, 0, 0, 0, false)))))))))))) ) (fun k => by rw [impl_ViewAffine.j0, if_neg (by simp)]) ?_
            simp only [ww, wh]
            have h1 := implFixDiv (w * 65536) vw
            have h2 := implFixDiv (h * 65536) vh
            rw [← ep] at h1
            rw [← eq] at h2
            refine Ev.bind h1 (Ev.bind h2 ?_)
            rw [← es]
            refine Ev.bind (implFixMul vw s) ?_
            rw [wrap_id (n := w * 65536 - fixMul vw s) (by omega) (by omega), down_ (by omega) (by omega) (by omega)]
            simp only [Option.bind_some]
            refine Ev.bind (implFixMul x s) (Ev.bind (implFixMul vh s) ?_)
            rw [wrap_id (n := h * 65536 - fixMul vh s) (by omega) (by omega), down_ (by omega) (by omega) (by omega)]
            simp only [Option.bind_some]
            refine Ev.bind (implFixMul y s) (Ev.bind (implGoodAffine _ _ _ _ _ _) ?_)
            show Ev _ (viewOf s w h x y vw vh)
            unfold viewOf
            show Ev (fun k => if goodAffine s 0 0 s (eOf w x vw s) (eOf h y vh s) = true then _ else _) _
            cases goodAffine s 0 0 s (eOf w x vw s) (eOf h y vh s) <;> exact Ev.now _
        · refine ⟨(0, 0, 0, 0, 0, 0, false), ?_, ?_⟩
          · by_cases fx : -1099511627776 ≤ x ∧ x ≤ 1099511627776
            · simp only [decide_eq_true fx, if_true]
              by_cases fy : -1099511627776 ≤ y ∧ y ≤ 1099511627776
              · simp only [decide_eq_true fy, if_true]
                by_cases fv : 1 ≤ vw ∧ vw ≤ 1099511627776
                · simp only [decide_eq_true fv, if_true]
                  have fh : ¬ (1 ≤ vh ∧ vh ≤ 1099511627776) := fun fh => hall ⟨⟨by simpa [fixed] using fx, by simpa [fixed] using fy⟩, fv, fh⟩
                  simp only [decide_eq_false fh, Bool.not_false]
                  exact ns
                · simp only [decide_eq_false fv, Bool.false_eq_true, if_false]; exact ns
              · simp only [decide_eq_false fy, Bool.false_eq_true, if_false]; exact ns
            · simp only [decide_eq_false fx, Bool.false_eq_true, if_false]; exact ns
          · refine Ev.bind af ?_
            cases hc : [x, y, vw, vh].all fixed
            · exact ni
            · simp only [if_true]
              have hc' : fixed x = true ∧ fixed y = true ∧ fixed vw = true ∧ fixed vh = true := by simpa using hc
              by_cases h1 : vw ≤ 0
              · simp only [if_pos h1]; exact ni
              · simp only [if_neg h1]
                have h2 : vh ≤ 0 := by
                  refine Classical.byContradiction fun h2 => hall ⟨⟨hc'.1, hc'.2.1⟩, ?_, ?_⟩
                  · have := hc'.2.2.1; simp [fixed] at this; omega
                  · have := hc'.2.2.2; simp [fixed] at this; omega
                simp only [decide_eq_true h2]
                exact ni
      · simp only [decide_eq_false hh, Bool.false_eq_true, if_false]
        exact ⟨_, ns, ni⟩
    · simp only [decide_eq_false hw, Bool.false_eq_true, if_false, Option.bind_some]
      exact ⟨_, ns, ni⟩
  obtain ⟨⟨r1, r2, r3, r4, r5, r6, r7⟩, hs, hi⟩ := both
  unfold laws_FnExactViewAffine.f
  refine Ev.bind hs (Ev.bind hi (ev_const fun k => ?_))
  simp [laws_eqAffine.f]

end Go.Proofs.Ytdmndbehfdnneaa.Pure
