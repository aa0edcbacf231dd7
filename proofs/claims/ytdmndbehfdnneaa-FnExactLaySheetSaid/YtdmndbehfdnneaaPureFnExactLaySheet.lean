/- LaySheet, as numbers: the program's answer is the reference's, field by field, and its memory is its own. -/
import Derived.Test.YtdmndbehfdnneaaAllSheetFnExactLaySheet
import Derived.Test.YtdmndbehfdnneaaGrow
import Derived.Test.YtdmndbehfdnneaaNum
namespace Go.Proofs.Ytdmndbehfdnneaa.Pure
open Go.RowKit Go.Proofs.Ytdmndbehfdnneaa.HFnExactLaySheet Go.Proofs.YtdmndbehfdnneaaW.PrintWords Go.Proofs.YtdmndbehfdnneaaW.PrintLast Go.Proofs.Ytdmndbehfdnneaa.Plain
set_option linter.unusedSimpArgs false
set_option linter.unusedVariables false

def over1 (x y a : Int) : Int := x + (y * (255 - a) + 127) / 255
theorem over1_wrap {x y a : Int} (hx : 0 ≤ x) (hx1 : x ≤ 255) (hy : 0 ≤ y) (hy1 : y ≤ 255) (ha : 0 ≤ a) (ha1 : a ≤ 255) :
    wrap64 (x + (wrap64 (Int.tdiv (wrap64 ((wrap64 (y * (wrap64 (255 - a)))) + 127)) 255))) = over1 x y a := by
  have h1 : 0 ≤ y * (255 - a) := Int.mul_nonneg hy (by omega)
  have h2 : y * (255 - a) ≤ 255 * 255 := Int.mul_le_mul (by omega) (by omega) (by omega) (by omega)
  rw [wrap_id (n := 255 - a) (by omega) (by omega), wrap_id (n := y * (255 - a)) (by omega) (by omega), wrap_id (n := y * (255 - a) + 127) (by omega) (by omega), tdiv_nn (by omega), wrap_id (n := (y * (255 - a) + 127) / 255) (by omega) (by omega), wrap_id (by omega) (by omega)]
  rfl
def thin1 (x p : Int) : Int := (x * p + 128) / 256
theorem thin1_wrap {x p : Int} (hx : 0 ≤ x) (hx1 : x ≤ 255) (hp : 0 ≤ p) (hp1 : p ≤ 256) : wrap64 (Int.tdiv (wrap64 ((wrap64 (x * p)) + 128)) 256) = thin1 x p := by
  have h1 : 0 ≤ x * p := Int.mul_nonneg hx hp
  have h2 : x * p ≤ 255 * 256 := Int.mul_le_mul (by omega) (by omega) (by omega) (by omega)
  rw [wrap_id (n := x * p) (by omega) (by omega), wrap_id (n := x * p + 128) (by omega) (by omega), tdiv_nn (by omega), wrap_id (by omega) (by omega)]
  rfl
theorem thin1_le {x y p : Int} (h : x ≤ y) (hp : 0 ≤ p) : thin1 x p ≤ thin1 y p := by
  have := Int.mul_le_mul_of_nonneg_right h hp
  unfold thin1
  omega
theorem thin1_bd {x p : Int} (hx : 0 ≤ x) (hx1 : x ≤ 255) (hp : 0 ≤ p) (hp1 : p ≤ 256) : 0 ≤ thin1 x p ∧ thin1 x p ≤ 255 := by
  have h1 : 0 ≤ x * p := Int.mul_nonneg hx hp
  have h2 : x * p ≤ 255 * 256 := Int.mul_le_mul (by omega) (by omega) (by omega) (by omega)
  unfold thin1
  omega
theorem good_of {r g b a : Int} (h : goodTint r g b a = true) : (0 ≤ a ∧ a ≤ 255) ∧ (0 ≤ r ∧ r ≤ a) ∧ (0 ≤ g ∧ g ≤ a) ∧ 0 ≤ b ∧ b ≤ a := by
  simp only [goodTint, Bool.and_eq_true, decide_eq_true_eq] at h
  exact ⟨h.1.1.1, h.1.1.2, h.1.2, h.2⟩
theorem to_good {r g b a : Int} (h : (0 ≤ a ∧ a ≤ 255) ∧ (0 ≤ r ∧ r ≤ a) ∧ (0 ≤ g ∧ g ≤ a) ∧ 0 ≤ b ∧ b ≤ a) : goodTint r g b a = true := by
  simp only [goodTint, Bool.and_eq_true, decide_eq_true_eq]
  exact ⟨⟨⟨h.1, h.2.1⟩, h.2.2.1⟩, h.2.2.2⟩
theorem thin_good {r g b a p : Int} (h : goodTint r g b a = true) (hp : 0 ≤ p ∧ p ≤ 256) : goodTint (thin1 r p) (thin1 g p) (thin1 b p) (thin1 a p) = true := by
  have g := good_of h
  exact to_good ⟨thin1_bd (by omega) (by omega) (by omega) (by omega), ⟨(thin1_bd (by omega) (by omega) hp.1 hp.2).1, thin1_le (by omega) hp.1⟩, ⟨(thin1_bd (by omega) (by omega) hp.1 hp.2).1, thin1_le (by omega) hp.1⟩, (thin1_bd (by omega) (by omega) hp.1 hp.2).1, thin1_le (by omega) hp.1⟩
/-- One tint laid over another one. -/
def laid (t u : S54) (p : Int) : S54 := ⟨over1 (thin1 t.f0 p) u.f0 (thin1 t.f3 p), over1 (thin1 t.f1 p) u.f1 (thin1 t.f3 p), over1 (thin1 t.f2 p) u.f2 (thin1 t.f3 p), over1 (thin1 t.f3 p) u.f3 (thin1 t.f3 p)⟩
theorem specThin {r g b a p : Int} (h : goodTint r g b a = true) (hp : 0 ≤ p ∧ p ≤ 256) : spec_l12Thin.f r g b a p = some (thin1 r p, thin1 g p, thin1 b p, thin1 a p) := by
  have g1 := good_of h
  unfold spec_l12Thin.f
  rw [thin1_wrap (by omega) (by omega) (by omega) (by omega), thin1_wrap (by omega) (by omega) (by omega) (by omega), thin1_wrap (by omega) (by omega) (by omega) (by omega), thin1_wrap (by omega) (by omega) (by omega) (by omega)]
theorem specOver {r g b a r' g' b' a' : Int} (h1 : goodTint r g b a = true) (h2 : goodTint r' g' b' a' = true) : spec_l12Over.f r g b a r' g' b' a' = some (over1 r r' a, over1 g g' a, over1 b b' a, over1 a a' a) := by
  have g1 := good_of h1
  have g2 := good_of h2
  unfold spec_l12Over.f
  rw [over1_wrap (by omega) (by omega) (by omega) (by omega) (by omega) (by omega), over1_wrap (by omega) (by omega) (by omega) (by omega) (by omega) (by omega), over1_wrap (by omega) (by omega) (by omega) (by omega) (by omega) (by omega), over1_wrap (by omega) (by omega) (by omega) (by omega) (by omega) (by omega)]
theorem implThin {r g b a p : Int} (h : goodTint r g b a = true) (hp : 0 ≤ p ∧ p ≤ 256) : impl_ThinTint.f r g b a p = some (thin1 r p, thin1 g p, thin1 b p, thin1 a p, true) := by
  unfold impl_ThinTint.f impl_isShare.f
  simp only [implGoodTint, within_, Option.bind_some, decide_eq_true_eq, h, if_true, if_pos hp]
  rfl
theorem implOver {r g b a r' g' b' a' : Int} (h1 : goodTint r g b a = true) (h2 : goodTint r' g' b' a' = true) : impl_OverTint.f r g b a r' g' b' a' = some (over1 r r' a, over1 g g' a, over1 b b' a, over1 a a' a, true) := by
  unfold impl_OverTint.f
  simp only [implGoodTint, Option.bind_some, h1, h2, if_true]
  rfl
def lays (l m : List S54) (p : Int) : List S54 := (List.range l.length).map fun i => laid (m.getD i z54) (l.getD i z54) p
def laySheet (a b : Int) (l : List S54) (c d : Int) (m : List S54) (p : Int) : Int × Int × List S54 × Bool :=
  if goodSheet a b l = true then (if goodSheet c d m = true then (if a = c then (if b = d then (if 0 ≤ p ∧ p ≤ 256 then (a, b, lays l m p, true) else (0, 0, [], false)) else (0, 0, [], false)) else (0, 0, [], false)) else (0, 0, [], false)) else (0, 0, [], false)
theorem sheet_of {a b : Int} {l : List S54} (h : goodSheet a b l = true) : (l.length : Int) = wrap64 (a * b) ∧ ∀ i, i < l.length → goodTint (l.getD i z54).f0 (l.getD i z54).f1 (l.getD i z54).f2 (l.getD i z54).f3 = true := by
  unfold goodSheet at h
  split at h
  · rename_i hc
    simp at hc
    refine ⟨hc.2, fun i hi => ?_⟩
    have := List.all_eq_true.1 h (l.getD i z54) (by simp [List.getD, hi])
    exact this
  · simp at h
theorem specLay (a b : Int) (l : List S54) (c d : Int) (m : List S54) (p : Int) (hl : l.length ≤ 1048576) (hm : m.length ≤ 1048576) : Ev (fun k => spec_LaySheet.f k a b l c d m p) (laySheet a b l c d m p) := by
  have none_ : Ev (fun k => spec_LaySheet.j0 k p true a b l c d m) (0, 0, [], false) := ev_some fun k => by rw [spec_LaySheet.j0, if_pos rfl]
  unfold spec_LaySheet.f laySheet spec_l12Part.f
  simp only [in_, Option.bind_some]
  refine Ev.bind (specGoodSheet a b l hl) ?_
  cases h1 : goodSheet a b l
  · exact none_
  simp only [if_true]
  refine Ev.bind (specGoodSheet c d m hm) ?_
  cases h2 : goodSheet c d m
  · exact none_
  simp only [if_true]
  by_cases h3 : a = c
  · by_cases h4 : b = d
    · simp only [if_pos h3, if_pos h4]
      by_cases h5 : 0 ≤ p ∧ p ≤ 256
      · simp only [if_pos h5, decide_eq_true h5, Bool.not_true]
        have s1 := sheet_of h1
        have s2 := sheet_of h2
        have e : l.length = m.length := by subst h3; subst h4; omega
        refine Ev.step (f := fun k => spec_LaySheet.l0 k p l l.length 0 c d m a b []) (fun k => by rw [spec_LaySheet.j0, if_neg (by simp)]) ?_
        exact grow_ev l.length (fun i => laid (m.getD i z54) (l.getD i z54) p) (fun ys => (a, b, ys, true)) (by omega) (fun k i ys => spec_LaySheet.l0 k p l l.length i c d m a b ys) (fun k i ys hi hy => by
          show spec_LaySheet.l0 (k + 1) p l l.length i c d m a b ys = _
          have g1 := s2.2 i (by omega)
          have g2 := s1.2 i hi
          rw [spec_LaySheet.l0, if_pos (by omega), if_pos (by omega), if_pos (by omega), if_pos (by omega)]
          have e1 : rd_T54 m i = m.getD i z54 := rfl
          have e2 : rd_T54 l i = l.getD i z54 := rfl
          rw [e1, e2, specThin g1 h5, Option.bind_some, specOver (thin_good g1 h5) g2, Option.bind_some, if_pos (by omega)]
          rfl) (fun k ys hy => by
          show spec_LaySheet.l0 (k + 1) p l l.length _ c d m a b ys = _
          rw [spec_LaySheet.l0, if_neg (by omega)])
      · simp only [if_neg h5, decide_eq_false h5, Bool.not_false]; exact none_
    · simp only [if_pos h3, if_neg h4]; exact none_
  · simp only [if_neg h3]; exact none_
theorem implLay (a b : Int) (l : List S54) (c d : Int) (m : List S54) (p : Int) (hl : l.length ≤ 1048576) (hm : m.length ≤ 1048576) : Ev (fun k => impl_LaySheet.f k a b l c d m p) (laySheet a b l c d m p) := by
  have none_ : Ev (fun k => impl_LaySheet.j0 k p true a b l c d m) (0, 0, [], false) := ev_some fun k => by rw [impl_LaySheet.j0, if_pos rfl]
  unfold impl_LaySheet.f laySheet impl_isShare.f
  simp only [within_, Option.bind_some]
  refine Ev.bind (implGoodSheet a b l hl) ?_
  cases h1 : goodSheet a b l
  · exact none_
  simp only [if_true]
  refine Ev.bind (implGoodSheet c d m hm) ?_
  cases h2 : goodSheet c d m
  · exact none_
  simp only [if_true]
  by_cases h3 : a = c
  · by_cases h4 : b = d
    · simp only [if_pos h3, if_pos h4]
      by_cases h5 : 0 ≤ p ∧ p ≤ 256
      · simp only [if_pos h5, decide_eq_true h5, Bool.not_true]
        have s1 := sheet_of h1
        have s2 := sheet_of h2
        have e : l.length = m.length := by subst h3; subst h4; omega
        refine Ev.step (f := fun k => impl_LaySheet.l0 k p m m.length 0 a b l a b []) (fun k => by rw [impl_LaySheet.j0, if_neg (by simp)]) ?_
        have h := grow_ev m.length (fun i => laid (m.getD i z54) (l.getD i z54) p) (fun ys => (a, b, ys, true)) (by omega) (fun k i ys => impl_LaySheet.l0 k p m m.length i a b l a b ys) (fun k i ys hi hy => by
          show impl_LaySheet.l0 (k + 1) p m m.length i a b l a b ys = _
          have g1 := s2.2 i hi
          have g2 := s1.2 i (by omega)
          rw [impl_LaySheet.l0, if_pos (by omega), if_pos (by omega), if_pos (by omega)]
          have e1 : rd_T54 m i = m.getD i z54 := rfl
          have e2 : rd_T54 l i = l.getD i z54 := rfl
          rw [e1, e2, implThin g1 h5, Option.bind_some, if_pos (by omega), implOver (thin_good g1 h5) g2, Option.bind_some, if_pos (by omega)]
          rfl) (fun k ys hy => by
          show impl_LaySheet.l0 (k + 1) p m m.length _ a b l a b ys = _
          rw [impl_LaySheet.l0, if_neg (by omega)])
        unfold lays
        rw [e]
        exact h
      · simp only [if_neg h5, decide_eq_false h5, Bool.not_false]; exact none_
    · simp only [if_pos h3, if_neg h4]; exact none_
  · simp only [if_neg h3]; exact none_
theorem lay_len (a b : Int) (l : List S54) (c d : Int) (m : List S54) (p : Int) : (laySheet a b l c d m p).2.2.1.length ≤ l.length := by
  unfold laySheet
  repeat' split
  all_goals simp [lays]
theorem toSheet_ (a b : Int) (l : List S109) (hl : l.length ≤ 1048576) : Ev (fun k => laws_toSheet.f k a b l) (a, b, l.map fun x => ⟨x.f0, x.f1, x.f2, x.f3⟩) := by
  unfold laws_toSheet.f
  exact Ev.bind (f := fun _ t => some (a, b, t)) (toTints l hl) (Ev.now _)

theorem FnExactLaySheet : ∀ (a0_0 : Int) (a0_1 : Int) (l0_2 : List (S109)) (a1_0 : Int) (a1_1 : Int) (l1_2 : List (S109)) (a2 : Int), ((Lit.int .i64 a0_0).wf = true) → ((Lit.int .i64 a0_1).wf = true) → ((∀ x109 ∈ l0_2, ((Lit.int .i64 x109.f0).wf = true) ∧ ((Lit.int .i64 x109.f1).wf = true) ∧ ((Lit.int .i64 x109.f2).wf = true) ∧ ((Lit.int .i64 x109.f3).wf = true)) ∧ l0_2.length ≤ 9223372036854775807) → ((Lit.int .i64 a1_0).wf = true) → ((Lit.int .i64 a1_1).wf = true) → ((∀ x109 ∈ l1_2, ((Lit.int .i64 x109.f0).wf = true) ∧ ((Lit.int .i64 x109.f1).wf = true) ∧ ((Lit.int .i64 x109.f2).wf = true) ∧ ((Lit.int .i64 x109.f3).wf = true)) ∧ l1_2.length ≤ 9223372036854775807) → ((Lit.int .i64 a2).wf = true) → ∃ k, HFnExactLaySheet.laws_FnExactLaySheet.f k a0_0 a0_1 l0_2 a1_0 a1_1 l1_2 a2 = some true := by
  intro a b l0 c d m0 p _ _ hl0 _ _ hm0 _
  refine Ev.rounds ?_
  unfold laws_FnExactLaySheet.f laws_szSheet.f laws_szTintS.f
  rw [wrap_id (n := (1048576 : Int) - l0.length) (by omega) (by omega)]
  by_cases hl : (1048576 : Int) - l0.length < 0
  · simp only [if_pos hl, Option.bind_some, if_pos (show (-1 : Int) < 0 by omega)]
    exact Ev.now _
  simp only [if_neg hl, Option.bind_some]
  rw [wrap_id (n := (1048576 : Int) - l0.length - m0.length) (by omega) (by omega)]
  by_cases hm : (1048576 : Int) - l0.length - m0.length < 0
  · simp only [if_pos hm, Option.bind_some, if_pos (show (-1 : Int) < 0 by omega)]
    exact Ev.now _
  simp only [if_neg hm, Option.bind_some]
  have tl := toSheet_ a b l0 (by omega)
  have tm := toSheet_ c d m0 (by omega)
  obtain ⟨l, el⟩ : ∃ l : List S54, l = l0.map fun x => ⟨x.f0, x.f1, x.f2, x.f3⟩ := ⟨_, rfl⟩
  obtain ⟨m, em⟩ : ∃ l : List S54, l = m0.map fun x => ⟨x.f0, x.f1, x.f2, x.f3⟩ := ⟨_, rfl⟩
  rw [← el] at tl
  rw [← em] at tm
  have hl' : l.length ≤ 1048576 := by rw [el, List.length_map]; omega
  have hm' : m.length ≤ 1048576 := by rw [em, List.length_map]; omega
  obtain ⟨x, y, r, o, hR⟩ : ∃ x y r o, laySheet a b l c d m p = (x, y, r, o) := ⟨_, _, _, _, rfl⟩
  have hr : r.length ≤ 1048576 := by have := lay_len a b l c d m p; rw [hR] at this; exact Nat.le_trans this hl'
  have hs := specLay a b l c d m p hl' hm'
  have hi := implLay a b l c d m p hl' hm'
  rw [hR] at hs hi
  refine Ev.bind tl (Ev.bind tm (Ev.bind hs (Ev.bind tl (Ev.bind tm (Ev.bind hi (Ev.bind (eqSheet_ x y r (by omega)) ?_))))))
  simp only [if_true, bne_self_eq_false]
  have hj2 : Ev (fun k => laws_FnExactLaySheet.j2 k ((1 + 4 * r.length : Nat) : Int) false x y (over (tintMark 1) r r.length)) true := by
    refine Ev.step (f := fun k => (laws_heldSheet.f k x y (over (tintMark 1) r r.length) 1).bind fun t247 => (if t247 < 0 then (some false) else (if t247 = ((1 + 4 * r.length : Nat) : Int) then (some true) else (some false)))) (fun k => by rw [laws_FnExactLaySheet.j2, if_neg (by simp)]) ?_
    refine Ev.bind (heldSheet x y r 1 (by omega) (by omega)) ?_
    simp only [if_neg (show ¬ ((1 + 4 * r.length : Nat) : Int) < 0 by omega), if_true]
    exact Ev.now _
  have hj1 : Ev (fun k => laws_FnExactLaySheet.j1 k p o false a b l0 c d m0 x y r x y r) true := by
    refine Ev.step (f := fun k => ((laws_markSheet.f k x y r 1).bind fun bt226 => ((laws_heldSheet.f k x y bt226.2 1).bind fun t228 => (if t228 < 0 then (some false) else (if t228 = bt226.1 then ((laws_toSheet.f k a b l0).bind fun bt229 => ((laws_toSheet.f k c d m0).bind fun bt234 => ((impl_LaySheet.f k bt229.1 bt229.2.1 bt229.2.2 bt234.1 bt234.2.1 bt234.2.2 p).bind fun bt239 => ((laws_eqSheet.f k bt239.1 bt239.2.1 bt239.2.2.1 x y r).bind fun t246 => (if t246 = true then (laws_FnExactLaySheet.j2 k bt226.1 (bt239.2.2.2 != o) x y bt226.2) else (laws_FnExactLaySheet.j2 k bt226.1 true x y bt226.2)))))) else (some false)))))) (fun k => by rw [laws_FnExactLaySheet.j1, if_neg (by simp)]) ?_
    refine Ev.bind (markSheet x y r 1 (by omega) (by omega)) (Ev.bind (heldSheet x y r 1 (by omega) (by omega)) ?_)
    simp only [if_neg (show ¬ ((1 + 4 * r.length : Nat) : Int) < 0 by omega), if_true]
    refine Ev.bind tl (Ev.bind tm (Ev.bind hi (Ev.bind (eqSheet_ x y r (by omega)) ?_)))
    simp only [if_true, bne_self_eq_false]
    exact hj2
  refine Ev.step (f := fun k => ((laws_toSheet.f k a b l0).bind fun bt209 => ((laws_eqSheet.f k a b l bt209.1 bt209.2.1 bt209.2.2).bind fun t214 => (if t214 = true then ((laws_toSheet.f k c d m0).bind fun bt215 => ((laws_eqSheet.f k c d m bt215.1 bt215.2.1 bt215.2.2).bind fun t220 => (if t220 = true then ((laws_markSheet.f k a b l 1).bind fun bt221 => ((laws_markSheet.f k c d m bt221.1).bind fun bt223 => (if bt223.1 < 0 then (laws_FnExactLaySheet.j1 k p o true a b l0 c d m0 x y r x y r) else ((laws_eqSheet.f k x y r x y r).bind fun t225 => (if t225 = true then (laws_FnExactLaySheet.j1 k p o (o != o) a b l0 c d m0 x y r x y r) else (laws_FnExactLaySheet.j1 k p o true a b l0 c d m0 x y r x y r)))))) else (some false)))) else (some false))))) (fun k => by rw [laws_FnExactLaySheet.j0, if_neg (by simp)]) ?_
  refine Ev.bind tl (Ev.bind (eqSheet_ a b l (by omega)) ?_)
  simp only [if_true]
  refine Ev.bind tm (Ev.bind (eqSheet_ c d m (by omega)) ?_)
  simp only [if_true]
  refine Ev.bind (markSheet a b l 1 (by omega) (by omega)) (Ev.bind (markSheet c d m (1 + 4 * l.length) (by omega) (by omega)) ?_)
  simp only [if_neg (show ¬ ((1 + 4 * l.length + 4 * m.length : Nat) : Int) < 0 by omega)]
  refine Ev.bind (eqSheet_ x y r (by omega)) ?_
  simp only [if_true, bne_self_eq_false]
  exact hj1

end Go.Proofs.Ytdmndbehfdnneaa.Pure
