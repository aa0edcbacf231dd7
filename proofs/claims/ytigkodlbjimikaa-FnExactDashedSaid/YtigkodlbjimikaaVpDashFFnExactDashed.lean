/- Dashes: where they begin; what both sides ask first; the whole functions. -/
import Derived.Test.YtigkodlbjimikaaVpDashEFnExactDashed
namespace Go.Proofs.Ytigkodlbjimikaa.VFnExactDashed
open Go Go.RowKit Go.Proofs.Ytigkodlbjimikaa.Vc Go.Proofs.Ytigkodlbjimikaa.Vp
set_option linter.unusedVariables false
set_option linter.unusedSimpArgs false

/-! ### where the dashes begin -/
def sumD : List Int → Int
  | [] => 0
  | x :: l => x + sumD l
theorem sumD_append : ∀ a b : List Int, sumD (a ++ b) = sumD a + sumD b
  | [], b => by simp [sumD]
  | x :: a, b => by simp only [List.cons_append, sumD, sumD_append a b]; omega
theorem sumD_nn : ∀ (l : List Int), (∀ x ∈ l, 0 ≤ x ∧ x ≤ 67108864) → 0 ≤ sumD l ∧ sumD l ≤ 67108864 * l.length
  | [], _ => by simp [sumD]
  | x :: l, h => by
    have h1 := sumD_nn l fun y hy => h y (by simp [hy])
    have h2 := h x (by simp)
    simp only [sumD, List.length_cons]
    omega
def startP : List Int → Nat → Int → Nat × Int
  | [], i, f => (i, 0)
  | v :: l, i, f => if v ≤ f then startP l (i + 1) (f - v) else (i, v - f)
theorem startP_ok {d : List Int} (hv : ∀ x ∈ d, 0 ≤ x ∧ x ≤ 67108864) : ∀ (l pre : List Int) (f : Int), d = pre ++ l → 0 ≤ f → f < sumD l → (startP l pre.length f).1 < d.length ∧ 0 < (startP l pre.length f).2 ∧ (startP l pre.length f).2 ≤ 67108864
  | [], pre, f, h, h0, h1 => by simp only [sumD] at h1; omega
  | v :: l, pre, f, h, h0, h1 => by
    have hvv := hv v (by rw [h]; simp)
    simp only [sumD] at h1
    unfold startP
    by_cases hc : v ≤ f
    · rw [if_pos hc]
      have := startP_ok hv l (pre ++ [v]) (f - v) (by rw [h, List.append_assoc]; rfl) (by omega) (by omega)
      rw [List.length_append] at this
      exact this
    · rw [if_neg hc]
      exact ⟨by rw [h]; simp, by simp only []; omega, by simp only []; omega⟩
theorem nxt_mid {d pre l : List Int} {v w : Int} (h : d = pre ++ v :: w :: l) : nxt d pre.length = pre.length + 1 := by
  have hl : d.length = pre.length + (l.length + 2) := by rw [h]; simp
  exact Nat.mod_eq_of_lt (by omega)
theorem startI {d : List Int} (hd : DashOk d) (pts : List Pt) (closed : Bool) (p0 : Pt) (rest : List Pt) (hp : pts = p0 :: rest) (hpl : pts.length ≤ 1000) {r} : ∀ (l pre : List Int) (f : Int), d = pre ++ l → 0 ≤ f → f ≤ 10000000000 → f < sumD l →
    Ev (fun k => impl_Dashed.l25 k 1 ((startP l pre.length f).1 : Int) (startP l pre.length f).2 0 (bif closed then pts ++ [p0] else pts) d (passP ((startP l pre.length f).1 : Int) [] p0) []) r → Ev (fun k => impl_Dashed.l17 k f pts closed (pre.length : Int) 0 0 pts d [] []) r := by
  intro l
  induction l with
  | nil => intro pre f h h0 h2 h1; simp only [sumD] at h1; omega
  | cons v l ih =>
    intro pre f h h0 h2 h1 hr
    have hl : d.length = pre.length + (l.length + 1) := by rw [h]; simp
    have hvv := hd.val v (by rw [h]; simp)
    have ev : (lget (t := (.int .i64)) d (pre.length : Int)) = v := by rw [h]; exact lget_mid (t := .int .i64) _ _ _
    have hin : and_ (ile 0 (pre.length : Int)) (ilt (pre.length : Int) (llen d)) = true := in_t (by omega) (by rw [llen_]; omega)
    have g0 : (lget (t := (.pair (.int .i64) (.int .i64))) pts 0) = p0 := by rw [hp]; rfl
    have lp : 0 < pts.length := by rw [hp]; simp
    simp only [sumD] at h1
    unfold startP at hr
    refine .step (fun k => impl_Dashed.l17_eq k _ _ _ _ _ _ _ _ _ _) (.tt hin ?_)
    rw [ev]
    by_cases hc : v ≤ f
    · rw [if_pos hc] at hr
      refine .tt (ile_t hc) (.tt hin (.tt (not_t (ieq_f (by rw [llen_]; omega))) ?_))
      cases l with
      | nil => simp only [sumD] at h1; omega
      | cons w l =>
        rw [hd.rem (by omega), nxt_mid h, isub_, wr_id (by omega) (by omega)]
        have := ih (pre ++ [v]) (f - v) (by rw [h, List.append_assoc]; rfl) (by omega) (by omega) (by omega) (by rw [List.length_append]; exact hr)
        rw [List.length_append] at this
        exact this
    · rw [if_neg hc] at hr
      refine .ff (ile_f (by omega)) (.tt hin ?_)
      rw [isub_, wr_id (by omega) (by omega), g0]
      have g1 : (lget (t := (.pair (.int .i64) (.int .i64))) (lapp pts [(p0.1, p0.2)]) 0) = p0 := by rw [hp]; rfl
      rw [g1]
      have lq : llen (lapp pts [(p0.1, p0.2)]) = pts.length + 1 := by rw [lapp_, llen_, List.length_append]; rfl
      rw [lq]
      cases closed with
      | true => exact .tt rfl (.tt (ilt_t (by rw [llen_]; omega)) (.tt (ile_t (by omega)) (.tt (ilt_t (by omega)) (.bind (pass_ev d (pre.length : Int) (v - f) 0 [] [] p0 (by simp)) hr))))
      | false => exact .ff rfl (.tt (ilt_t (by rw [llen_]; omega)) (.bind (pass_ev d (pre.length : Int) (v - f) 0 [] [] p0 (by simp)) hr))
theorem passP_bif (at_ : Int) (p : Pt) : passP at_ [] p = bif ieq (irem at_ 2) 0 then [p] else [] := by
  unfold passP
  cases ieq (irem at_ 2) 0 <;> rfl
theorem startS {d : List Int} (hd : DashOk d) (pts : List Pt) (closed : Bool) (p0 : Pt) (rest : List Pt) (hp : pts = p0 :: rest) (hpl : pts.length ≤ 1000) {r} : ∀ (l pre : List Int) (v f : Int), d = pre ++ v :: l → 0 ≤ f → f ≤ 10000000000 → f < sumD (v :: l) →
    Ev (fun k => spec_l10Dashed.l23 k 1 pts closed ((startP (v :: l) pre.length f).1 : Int) (startP (v :: l) pre.length f).2 0 0 d (passP ((startP (v :: l) pre.length f).1 : Int) [] p0) []) r → Ev (fun k => spec_l10Dashed.l13 k f pts closed (pre.length : Int) v 0 0 d [] []) r := by
  intro l
  induction l with
  | nil =>
    intro pre v f h h0 h2 h1 hr
    simp only [sumD] at h1
    have hl : d.length = pre.length + 1 := by rw [h]; simp
    have hvv := hd.val v (by rw [h]; simp)
    have g0 : (lget (t := (.pair (.int .i64) (.int .i64))) pts 0) = p0 := by rw [hp]; rfl
    have lp : 0 < pts.length := by rw [hp]; simp
    unfold startP at hr
    rw [if_neg (by omega)] at hr
    simp only [passP_bif] at hr
    refine .step (fun k => spec_l10Dashed.l13_eq k _ _ _ _ _ _ _ _ _ _) ?_
    rw [g0, isub_, wr_id (by omega) (by omega)]
    by_cases hf : 0 < f
    · refine .ff (not_f (ilt_t hf)) (.tt (ilt_t (by omega)) ?_)
      cases he : ieq (irem (pre.length : Int) 2) 0 with
      | true => rw [he] at hr; exact .tt rfl (.tt (ilt_t (by rw [llen_]; omega)) hr)
      | false => rw [he] at hr; exact .ff rfl hr
    · have : f = 0 := by omega
      subst this
      rw [Int.sub_zero] at hr
      refine .tt (not_t (ilt_f (Int.le_refl 0))) (.ff (ieq_f (by omega)) ?_)
      cases he : ieq (irem (pre.length : Int) 2) 0 with
      | true => rw [he] at hr; exact .tt rfl (.tt (ilt_t (by rw [llen_]; omega)) hr)
      | false => rw [he] at hr; exact .ff rfl hr
  | cons w l ih =>
    intro pre v f h h0 h2 h1 hr
    have hl : d.length = pre.length + (l.length + 2) := by rw [h]; simp
    have hvv := hd.val v (by rw [h]; simp)
    have g0 : (lget (t := (.pair (.int .i64) (.int .i64))) pts 0) = p0 := by rw [hp]; rfl
    have lp : 0 < pts.length := by rw [hp]; simp
    rw [sumD] at h1
    unfold startP at hr
    refine .step (fun k => spec_l10Dashed.l13_eq k _ _ _ _ _ _ _ _ _ _) ?_
    rw [hd.rem (by omega), nxt_mid h]
    have gw : (lget (t := (.int .i64)) d ((pre.length + 1 : Nat) : Int)) = w := by rw [h]; exact lget_mid1 (t := .int .i64) _ _ _ _
    have hin : and_ (ile 0 ((pre.length + 1 : Nat) : Int)) (ilt ((pre.length + 1 : Nat) : Int) (llen d)) = true := in_t (by omega) (by rw [llen_]; omega)
    rw [gw, g0]
    by_cases hc : v ≤ f
    · rw [if_pos hc] at hr
      have e1 : wr .i64 (isub f v) = f - v := by rw [isub_, wr_id (by omega) (by omega)]
      have rec_ := ih (pre ++ [v]) w (f - v) (by rw [h, List.append_assoc]; rfl) (by omega) (by omega) (by omega) (by rw [List.length_append]; exact hr)
      rw [List.length_append] at rec_
      have go : Ev (fun k => bif (not_ (ieq (llen d) 0)) then (bif and_ (ile 0 ((pre.length + 1 : Nat) : Int)) (ilt ((pre.length + 1 : Nat) : Int) (llen d)) then spec_l10Dashed.l13 k (wr .i64 (isub f v)) pts closed ((pre.length + 1 : Nat) : Int) w 0 0 d [] [] else none) else none) r :=
        .tt (not_t (ieq_f (by rw [llen_]; omega))) (.tt hin (by rw [e1]; exact rec_))
      by_cases hf : 0 < f
      · exact .ff (not_f (ilt_t hf)) (.ff (ilt_f hc) go)
      · exact .tt (not_t (ilt_f (by omega))) (.tt (ieq_t (by omega)) (.ff (ilt_f hc) go))
    · rw [if_neg hc] at hr
      simp only [passP_bif] at hr
      have e2 : wr .i64 (isub v f) = v - f := by rw [isub_, wr_id (by omega) (by omega)]
      rw [e2]
      by_cases hf : 0 < f
      · refine .ff (not_f (ilt_t hf)) (.tt (ilt_t (by omega)) ?_)
        cases he : ieq (irem (pre.length : Int) 2) 0 with
        | true => rw [he] at hr; exact .tt rfl (.tt (ilt_t (by rw [llen_]; omega)) hr)
        | false => rw [he] at hr; exact .ff rfl hr
      · have : f = 0 := by omega
        subst this
        rw [Int.sub_zero] at hr
        refine .tt (not_t (ilt_f (Int.le_refl 0))) (.ff (ieq_f (by omega)) ?_)
        cases he : ieq (irem (pre.length : Int) 2) 0 with
        | true => rw [he] at hr; exact .tt rfl (.tt (ilt_t (by rw [llen_]; omega)) hr)
        | false => rw [he] at hr; exact .ff rfl hr
theorem startV {d : List Int} (hd : DashOk d) (pts : List Pt) (closed : Bool) (p0 : Pt) (rest : List Pt) (hp : pts = p0 :: rest) (hpl : pts.length ≤ 1000) {r} : ∀ (l pre : List Int) (v f : Int), d = pre ++ v :: l → 0 ≤ f → f ≤ 10000000000 → f < sumD (v :: l) →
    Ev (fun k => spec_l10Dashed.l23v1 k 1 pts closed d ((startP (v :: l) pre.length f).1 : Int) (startP (v :: l) pre.length f).2 0 0 (passP ((startP (v :: l) pre.length f).1 : Int) [] p0) []) r → Ev (fun k => spec_l10Dashed.l13v1 k d f pts closed d (pre.length : Int) v 0 0 [] []) r := by
  intro l
  induction l with
  | nil =>
    intro pre v f h h0 h2 h1 hr
    simp only [sumD] at h1
    have hl : d.length = pre.length + 1 := by rw [h]; simp
    have hvv := hd.val v (by rw [h]; simp)
    have g0 : (lget (t := (.pair (.int .i64) (.int .i64))) pts 0) = p0 := by rw [hp]; rfl
    have lp : 0 < pts.length := by rw [hp]; simp
    unfold startP at hr
    rw [if_neg (by omega)] at hr
    simp only [passP_bif] at hr
    refine .step (fun k => spec_l10Dashed.l13v1_eq k _ _ _ _ _ _ _ _ _ _ _) ?_
    rw [g0, isub_, wr_id (by omega) (by omega)]
    by_cases hf : 0 < f
    · refine .ff (not_f (ilt_t hf)) (.tt (ilt_t (by omega)) ?_)
      cases he : ieq (irem (pre.length : Int) 2) 0 with
      | true => rw [he] at hr; exact .tt rfl (.tt (ilt_t (by rw [llen_]; omega)) hr)
      | false => rw [he] at hr; exact .ff rfl hr
    · have : f = 0 := by omega
      subst this
      rw [Int.sub_zero] at hr
      refine .tt (not_t (ilt_f (Int.le_refl 0))) (.ff (ieq_f (by omega)) ?_)
      cases he : ieq (irem (pre.length : Int) 2) 0 with
      | true => rw [he] at hr; exact .tt rfl (.tt (ilt_t (by rw [llen_]; omega)) hr)
      | false => rw [he] at hr; exact .ff rfl hr
  | cons w l ih =>
    intro pre v f h h0 h2 h1 hr
    have hl : d.length = pre.length + (l.length + 2) := by rw [h]; simp
    have hvv := hd.val v (by rw [h]; simp)
    have g0 : (lget (t := (.pair (.int .i64) (.int .i64))) pts 0) = p0 := by rw [hp]; rfl
    have lp : 0 < pts.length := by rw [hp]; simp
    rw [sumD] at h1
    unfold startP at hr
    refine .step (fun k => spec_l10Dashed.l13v1_eq k _ _ _ _ _ _ _ _ _ _ _) ?_
    rw [hd.rem (by omega), nxt_mid h]
    have gw : (lget (t := (.int .i64)) d ((pre.length + 1 : Nat) : Int)) = w := by rw [h]; exact lget_mid1 (t := .int .i64) _ _ _ _
    have hin : and_ (ile 0 ((pre.length + 1 : Nat) : Int)) (ilt ((pre.length + 1 : Nat) : Int) (llen d)) = true := in_t (by omega) (by rw [llen_]; omega)
    rw [gw, g0]
    by_cases hc : v ≤ f
    · rw [if_pos hc] at hr
      have e1 : wr .i64 (isub f v) = f - v := by rw [isub_, wr_id (by omega) (by omega)]
      have rec_ := ih (pre ++ [v]) w (f - v) (by rw [h, List.append_assoc]; rfl) (by omega) (by omega) (by omega) (by rw [List.length_append]; exact hr)
      rw [List.length_append] at rec_
      have go : Ev (fun k => bif (not_ (ieq (llen d) 0)) then (bif and_ (ile 0 ((pre.length + 1 : Nat) : Int)) (ilt ((pre.length + 1 : Nat) : Int) (llen d)) then spec_l10Dashed.l13v1 k d (wr .i64 (isub f v)) pts closed d ((pre.length + 1 : Nat) : Int) w 0 0 [] [] else none) else none) r :=
        .tt (not_t (ieq_f (by rw [llen_]; omega))) (.tt hin (by rw [e1]; exact rec_))
      by_cases hf : 0 < f
      · exact .ff (not_f (ilt_t hf)) (.ff (ilt_f hc) go)
      · exact .tt (not_t (ilt_f (by omega))) (.tt (ieq_t (by omega)) (.ff (ilt_f hc) go))
    · rw [if_neg hc] at hr
      simp only [passP_bif] at hr
      have e2 : wr .i64 (isub v f) = v - f := by rw [isub_, wr_id (by omega) (by omega)]
      rw [e2]
      by_cases hf : 0 < f
      · refine .ff (not_f (ilt_t hf)) (.tt (ilt_t (by omega)) ?_)
        cases he : ieq (irem (pre.length : Int) 2) 0 with
        | true => rw [he] at hr; exact .tt rfl (.tt (ilt_t (by rw [llen_]; omega)) hr)
        | false => rw [he] at hr; exact .ff rfl hr
      · have : f = 0 := by omega
        subst this
        rw [Int.sub_zero] at hr
        refine .tt (not_t (ilt_f (Int.le_refl 0))) (.ff (ieq_f (by omega)) ?_)
        cases he : ieq (irem (pre.length : Int) 2) 0 with
        | true => rw [he] at hr; exact .tt rfl (.tt (ilt_t (by rw [llen_]; omega)) hr)
        | false => rw [he] at hr; exact .ff rfl hr

/-! ### sums -/
theorem up_ev {ρ : Type} (F : Nat → Int → Int → Option ρ) (d : List Int) (hl : d.length ≤ 16) (hv : ∀ x ∈ d, 0 ≤ x ∧ x ≤ 67108864)
    (step : ∀ k acc (i : Nat), i < d.length → F (k + 1) acc i = F k (wr .i64 (iadd acc (lget (t := (.int .i64)) d i))) (wr .i64 (iadd i 1))) {r : ρ} (he : Ev (fun k => F k (sumD d) d.length) r) : Ev (fun k => F k 0 0) r := by
  have key : ∀ (l pre : List Int), d = pre ++ l → Ev (fun k => F k (sumD pre) (pre.length : Int)) r := by
    intro l
    induction l with
    | nil => intro pre h; rw [List.append_nil] at h; rw [← h]; exact he
    | cons v l ih =>
      intro pre h
      have hlen : d.length = pre.length + (l.length + 1) := by rw [h]; simp
      have hvv := hv v (by rw [h]; simp)
      have hp := sumD_nn pre fun x hx => hv x (by rw [h]; simp [hx])
      refine .step (fun k => step k _ _ (by omega)) ?_
      have ev : (lget (t := (.int .i64)) d (pre.length : Int)) = v := by rw [h]; exact lget_mid (t := .int .i64) _ _ _
      rw [ev, iadd_, iadd_, wr_id (by omega) (by omega), wr_id (by omega) (by omega)]
      have := ih (pre ++ [v]) (by rw [h, List.append_assoc]; rfl)
      rw [sumD_append, List.length_append] at this
      simpa [sumD] using this
  exact key d [] rfl
theorem any_ev (d : List Int) (hl : d.length ≤ 16) (hv : ∀ x ∈ d, 0 ≤ x ∧ x ≤ 67108864) : Ev (fun k => spec_l10Any.f k d) ((ilt 0 (sumD d), ()), ((), ())) := by
  have key : ∀ (l pre : List Int), d = pre ++ l → sumD pre = 0 → Ev (fun k => spec_l10Any.l2 k d (llen d) (pre.length : Int)) ((ilt 0 (sumD d), ()), ((), ())) := by
    intro l
    induction l with
    | nil =>
      intro pre h h0
      rw [List.append_nil] at h
      rw [h, h0]
      exact .step (fun k => spec_l10Any.l2_eq k _ _ _) (.ff (ilt_f (by rw [llen_]; exact Int.le_refl _)) (.now _))
    | cons v l ih =>
      intro pre h h0
      have hlen : d.length = pre.length + (l.length + 1) := by rw [h]; simp
      have hvv := hv v (by rw [h]; simp)
      have hq := sumD_nn l fun x hx => hv x (by rw [h]; simp [hx])
      have hs : sumD d = v + sumD l := by rw [h, sumD_append, h0, sumD]; omega
      have ev : (lget (t := (.int .i64)) d (pre.length : Int)) = v := by rw [h]; exact lget_mid (t := .int .i64) _ _ _
      refine .step (fun k => spec_l10Any.l2_eq k _ _ _) (.tt (ilt_t (by rw [llen_]; omega)) (.tt (in_t (by omega) (by rw [llen_]; omega)) ?_))
      rw [ev]
      by_cases hp : 0 < v
      · rw [hs, ilt_t (show 0 < v + sumD l by omega)]
        exact .tt (ilt_t hp) (.now _)
      · refine .ff (ilt_f (by omega)) ?_
        rw [iadd_, wr_id (by omega) (by omega)]
        have := ih (pre ++ [v]) (by rw [h, List.append_assoc]; rfl) (by rw [sumD_append, h0]; simp only [sumD]; omega)
        rw [List.length_append] at this
        exact this
  exact .step (fun k => spec_l10Any.eq k d) (key d [] rfl rfl)
end Go.Proofs.Ytigkodlbjimikaa.VFnExactDashed
