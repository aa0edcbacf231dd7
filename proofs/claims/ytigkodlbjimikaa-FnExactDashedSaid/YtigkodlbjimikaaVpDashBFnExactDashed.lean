/- Dashes: segments of both sides, and the size of a segment. -/
import Derived.Test.YtigkodlbjimikaaVpDashAFnExactDashed
namespace Go.Proofs.Ytigkodlbjimikaa.VFnExactDashed
open Go Go.RowKit Go.Proofs.Ytigkodlbjimikaa.Vc Go.Proofs.Ytigkodlbjimikaa.Vp
set_option linter.unusedVariables false
set_option linter.unusedSimpArgs false

/-! ### sizes -/
theorem root_loop (n : Int) : ∀ (d : Nat) (lo hi : Int), hi - lo = d → 0 ≤ lo → lo ≤ hi → hi ≤ 1073741824 → lo * lo ≤ n → n < (hi + 1) * (hi + 1) →
    ∃ r : Int, Ev (fun k => impl_root.l2 k n lo hi) ((r, ()), ((), ())) ∧ 0 ≤ r ∧ r ≤ hi ∧ r * r ≤ n ∧ n < (r + 1) * (r + 1) := by
  intro d
  induction d using Nat.strongRecOn with
  | _ d ih =>
    intro lo hi hd h0 h1 h2 hl hh
    by_cases hlt : lo < hi
    · have em : wr .i64 (iquo (wr .i64 (iadd (wr .i64 (iadd lo hi)) 1)) 2) = (lo + hi + 1) / 2 := by
        rw [iadd_ lo hi, wr_id (x := lo + hi) (by omega) (by omega), iadd_ (lo + hi), wr_id (x := lo + hi + 1) (by omega) (by omega)]
        unfold iquo
        rw [tdiv_nn (by omega), wr_id (by omega) (by omega)]
      have hm : 0 ≤ (lo + hi + 1) / 2 ∧ (lo + hi + 1) / 2 ≤ 1073741824 ∧ lo < (lo + hi + 1) / 2 ∧ (lo + hi + 1) / 2 ≤ hi := by omega
      generalize hM : (lo + hi + 1) / 2 = m at em hm
      have hs := sq_le hm.1 hm.2.1
      have hs0 : 0 ≤ m * m := Int.mul_nonneg hm.1 hm.1
      have es : wr .i64 (imul m m) = m * m := by rw [imul_, wr_id (by omega) (by omega)]
      by_cases hc : m * m ≤ n
      · obtain ⟨r, hr, g⟩ := ih (hi - m).toNat (by omega) m hi (by omega) (by omega) (by omega) h2 hc hh
        refine ⟨r, .step (fun k => impl_root.l2_eq k n lo hi) (.tt (ilt_t hlt) ?_), g⟩
        rw [em, es]
        exact .tt (ile_t hc) hr
      · have e1 : wr .i64 (isub m 1) = m - 1 := by rw [isub_, wr_id (by omega) (by omega)]
        obtain ⟨r, hr, g0, g1, g⟩ := ih (m - 1 - lo).toNat (by omega) lo (m - 1) (by omega) (by omega) (by omega) (by omega) hl (by rw [show m - 1 + 1 = m by omega]; omega)
        refine ⟨r, .step (fun k => impl_root.l2_eq k n lo hi) (.tt (ilt_t hlt) ?_), g0, by omega, g⟩
        rw [em, es, e1]
        exact .ff (ile_f (by omega)) hr
    · have : lo = hi := by omega
      subst this
      exact ⟨lo, .step (fun k => impl_root.l2_eq k n lo lo) (.ff (ilt_f (Int.le_refl _)) (.now _)), h0, Int.le_refl _, hl, hh⟩
theorem root_ (n : Int) (h0 : 0 ≤ n) (h1 : n < 1152921504606846976) : ∃ r : Int, Ev (fun k => impl_root.f k n) ((r, ()), ((), ())) ∧ 0 ≤ r ∧ r ≤ 1073741824 ∧ r * r ≤ n ∧ n < (r + 1) * (r + 1) := by
  obtain ⟨r, hr, g⟩ := root_loop n 1073741824 0 1073741824 (by omega) (by omega) (by omega) (by omega) (by omega) (by omega)
  exact ⟨r, .step (fun k => impl_root.eq k n) hr, g⟩
def near (p : Pt) : Prop := (-67108864 ≤ p.1 ∧ p.1 ≤ 67108864) ∧ -67108864 ≤ p.2 ∧ p.2 ≤ 67108864
theorem size_loop (u v : Int) (hu : -134217728 ≤ u ∧ u ≤ 134217728) (hv : -134217728 ≤ v ∧ v ≤ 134217728) : ∀ (d : Nat) (lo hi : Int), hi - lo = d → 0 ≤ lo → lo ≤ hi → hi ≤ 268435456 → lo * lo ≤ u * u + v * v → u * u + v * v < (hi + 1) * (hi + 1) →
    ∃ r : Int, Ev (fun k => spec_l10Size.l5 k u v lo hi) ((r, ()), ((), ((), ()))) ∧ 0 ≤ r ∧ r ≤ hi ∧ r * r ≤ u * u + v * v ∧ u * u + v * v < (r + 1) * (r + 1) := by
  have bu := sq_bound hu.1 hu.2
  have bv := sq_bound hv.1 hv.2
  have eu : wr .i64 (imul u u) = u * u := by rw [imul_, wr_id (by omega) (by omega)]
  have ev : wr .i64 (imul v v) = v * v := by rw [imul_, wr_id (by omega) (by omega)]
  have ew : wr .i64 (iadd (u * u) (v * v)) = u * u + v * v := by rw [iadd_, wr_id (by omega) (by omega)]
  intro d
  induction d using Nat.strongRecOn with
  | _ d ih =>
    intro lo hi hd h0 h1 h2 hl hh
    by_cases hlt : lo < hi
    · have em : wr .i64 (iadd lo (wr .i64 (iquo (wr .i64 (iadd (wr .i64 (isub hi lo)) 1)) 2))) = lo + (hi - lo + 1) / 2 := by
        rw [isub_, wr_id (x := hi - lo) (by omega) (by omega), iadd_ (hi - lo), wr_id (x := hi - lo + 1) (by omega) (by omega)]
        unfold iquo
        rw [tdiv_nn (by omega), wr_id (x := (hi - lo + 1) / 2) (by omega) (by omega), iadd_, wr_id (by omega) (by omega)]
      have hm : 0 ≤ lo + (hi - lo + 1) / 2 ∧ lo + (hi - lo + 1) / 2 ≤ 268435456 ∧ lo < lo + (hi - lo + 1) / 2 ∧ lo + (hi - lo + 1) / 2 ≤ hi := by omega
      generalize hM : lo + (hi - lo + 1) / 2 = m at em hm
      have hs := sq_le hm.1 hm.2.1
      have hs0 : 0 ≤ m * m := Int.mul_nonneg hm.1 hm.1
      have es : wr .i64 (imul m m) = m * m := by rw [imul_, wr_id (by omega) (by omega)]
      by_cases hc : u * u + v * v < m * m
      · have e1 : wr .i64 (isub m 1) = m - 1 := by rw [isub_, wr_id (by omega) (by omega)]
        obtain ⟨r, hr, g0, g1, g⟩ := ih (m - 1 - lo).toNat (by omega) lo (m - 1) (by omega) (by omega) (by omega) (by omega) hl (by rw [show m - 1 + 1 = m by omega]; omega)
        refine ⟨r, .step (fun k => spec_l10Size.l5_eq k u v lo hi) (.tt (ilt_t hlt) ?_), g0, by omega, g⟩
        rw [em, es, eu, ev, ew, e1]
        exact .tt (ilt_t hc) hr
      · obtain ⟨r, hr, g⟩ := ih (hi - m).toNat (by omega) m hi (by omega) (by omega) (by omega) h2 (by omega) hh
        refine ⟨r, .step (fun k => spec_l10Size.l5_eq k u v lo hi) (.tt (ilt_t hlt) ?_), g⟩
        rw [em, es, eu, ev, ew]
        exact .ff (ilt_f (by omega)) hr
    · have : lo = hi := by omega
      subst this
      exact ⟨lo, .step (fun k => spec_l10Size.l5_eq k u v lo lo) (.ff (ilt_f (Int.le_refl _)) (.now _)), h0, Int.le_refl _, hl, hh⟩
/-- Both sides measure the same size. -/
theorem sizes (a b : Pt) (h1 : near a) (h2 : near b) : ∃ r : Int, Ev (fun k => spec_l10Size.f k a b) ((r, ()), ((), ((), ()))) ∧ Ev (fun k => impl_length.f k a b) ((r, ()), ((), ((), ()))) ∧ 0 ≤ r ∧ r ≤ 268435456 := by
  obtain ⟨n1, n2⟩ := h1
  obtain ⟨n3, n4⟩ := h2
  have eu : wr .i64 (isub b.1 a.1) = b.1 - a.1 := by rw [isub_, wr_id (by omega) (by omega)]
  have ev : wr .i64 (isub b.2 a.2) = b.2 - a.2 := by rw [isub_, wr_id (by omega) (by omega)]
  have hu : -134217728 ≤ b.1 - a.1 ∧ b.1 - a.1 ≤ 134217728 := by omega
  have hv : -134217728 ≤ b.2 - a.2 ∧ b.2 - a.2 ≤ 134217728 := by omega
  generalize b.1 - a.1 = u at hu eu
  generalize b.2 - a.2 = v at hv ev
  have bu := sq_bound hu.1 hu.2
  have bv := sq_bound hv.1 hv.2
  obtain ⟨r, hr, g0, g3, g1, g2⟩ := size_loop u v hu hv 268435456 0 268435456 (by omega) (by omega) (by omega) (by omega) (by omega) (by omega)
  obtain ⟨s, hs, k0, _, k1, k2⟩ := root_ (u * u + v * v) (by omega) (by omega)
  have : s = r := root_one k0 g0 k1 k2 g1 g2
  subst this
  refine ⟨s, .step (fun k => spec_l10Size.eq k a b) ?_, .step (fun k => impl_length.eq k a b) ?_, g0, g3⟩
  · rw [eu, ev]; exact hr
  · rw [eu, ev, imul_, imul_, wr_id (x := u * u) (by omega) (by omega), wr_id (x := v * v) (by omega) (by omega), iadd_, wr_id (by omega) (by omega)]
    exact .bind hs (.now _)
open Classical in
noncomputable def dist (a b : Pt) : Int := if h : ∃ r : Int, Ev (fun k => spec_l10Size.f k a b) ((r, ()), ((), ((), ()))) ∧ Ev (fun k => impl_length.f k a b) ((r, ()), ((), ((), ()))) ∧ 0 ≤ r ∧ r ≤ 268435456 then h.choose else 0
theorem dist_ev (a b : Pt) (h1 : near a) (h2 : near b) : Ev (fun k => spec_l10Size.f k a b) ((dist a b, ()), ((), ((), ()))) ∧ Ev (fun k => impl_length.f k a b) ((dist a b, ()), ((), ((), ()))) ∧ 0 ≤ dist a b ∧ dist a b ≤ 268435456 := by
  have h := sizes a b h1 h2
  unfold dist
  rw [dif_pos h]
  exact h.choose_spec

/-! ### quotients -/
def downP (a b : Int) : Int := if a < 0 ∧ irem a b ≠ 0 then wr .i64 (isub (wr .i64 (iquo a b)) 1) else wr .i64 (iquo a b)
theorem down_ev {a b : Int} (hb : 0 < b) : Ev (fun k => impl_down.f k a b) ((downP a b, ()), ((), ((), ()))) := by
  refine .step (fun k => impl_down.eq k a b) (.tt (not_t (ieq_f (by omega))) (.tt (not_t (ieq_f (by omega))) ?_))
  unfold downP
  by_cases hc : a < 0 ∧ irem a b ≠ 0
  · rw [if_pos hc]
    refine .tt (ilt_t ?_) (.now _)
    have h1 := Int.tmod_nonneg b (by omega : 0 ≤ -a)
    rw [Int.neg_tmod] at h1
    have hne := hc.2
    unfold irem at hne ⊢; omega
  · rw [if_neg hc]
    refine .ff (ilt_f ?_) (.now _)
    by_cases h0 : a < 0
    · have : irem a b = 0 := Decidable.byContradiction fun h => hc ⟨h0, h⟩
      omega
    · exact Int.tmod_nonneg b (by omega)
theorem downS_ev {a b : Int} (hb : 0 < b) : Ev (fun k => spec_l1Down.f k a b) ((downP a b, ()), ((), ((), ()))) := by
  refine .step (fun k => spec_l1Down.eq k a b) (.tt (not_t (ieq_f (by omega))) (.tt (not_t (ieq_f (by omega))) ?_))
  unfold downP
  by_cases hz : irem a b = 0
  · rw [if_neg (fun h => h.2 hz)]
    exact .ff (not_f (ieq_t hz)) (.now _)
  · refine .tt (not_t (ieq_f hz)) ?_
    by_cases h0 : a < 0
    · rw [if_pos ⟨h0, hz⟩]
      exact .tt (by rw [ilt_t h0, ilt_f (by omega)]; rfl) (.now _)
    · rw [if_neg (fun h => h0 h.1)]
      exact .ff (by rw [ilt_f (by omega), ilt_f (by omega)]; rfl) (.now _)
/-- A point on a segment. -/
def ptAt (a b : Pt) (s n : Int) : Pt := (wr .i64 (iadd a.1 (downP (wr .i64 (imul (wr .i64 (isub b.1 a.1)) s)) n)), wr .i64 (iadd a.2 (downP (wr .i64 (imul (wr .i64 (isub b.2 a.2)) s)) n)))

/-! ### the program's segment -/
structure SI where
  at_ : Nat
  left : Int
  begun : Int
  own : List Pt
  out : List Ln
def segI (d : List Int) (a b : Pt) (n : Int) : Nat → Int → SI → Bool × SI
  | 0, s, x => (false, x)
  | f + 1, s, x =>
    if n < s + x.left then (true, { x with left := x.left - (n - s), own := passP x.at_ x.own b })
    else
      let p := if s + x.left < n then ptAt a b (s + x.left) n else b
      let y : SI := ⟨nxt d x.at_, dv d (nxt d x.at_), x.begun + 1, passP (nxt d x.at_) [] p, endP (passP x.at_ x.own p) x.out⟩
      if 2400 < y.begun then (false, y) else segI d a b n f (s + x.left) y
def SI.tup (d : List Int) (x : SI) : (List Int × (Int × (Int × (Int × (List Pt × (List Ln × Unit)))))) := (d, ((x.at_ : Int), (x.left, (x.begun, (x.own, (x.out, ()))))))
structure SI.Ok (d : List Int) (x : SI) (m : Nat) : Prop where
  at_ : x.at_ < d.length
  left0 : 0 ≤ x.left
  left1 : x.left ≤ 1000000000000
  begun0 : 0 ≤ x.begun
  begun1 : x.begun ≤ 2400
  own : x.own.length ≤ m
  out : (x.out.length : Int) ≤ x.begun
theorem endP_le (own : List Pt) (out : List Ln) : (endP own out).length ≤ out.length + 1 := by unfold endP; split <;> simp
theorem segI_ev {d : List Int} (hd : DashOk d) (a b : Pt) (n : Int) (hn : 0 < n) (hn2 : n ≤ 268435456) (m : Nat) (hm : 1 ≤ m) (hm2 : m ≤ 1000000) : ∀ (f : Nat) (s : Int) (x : SI), 0 ≤ s → s ≤ n → x.Ok d m → (2401 - x.begun : Int) ≤ f →
    Ev (fun k => impl_dasher_segment.l5 k n s x.at_ x.left x.begun a.1 a.2 b.1 b.2 d x.own x.out) (((segI d a b n f s x).1, ()), ((segI d a b n f s x).2.tup d, ((), ((), ())))) ∧
      ((segI d a b n f s x).1 = true → (segI d a b n f s x).2.Ok d (m + 1)) := by
  intro f
  induction f with
  | zero => intro s x h0 h1 hx hf; have := hx.begun1; omega
  | succ f ih =>
    intro s x h0 h1 hx hf
    have b1 := hx.left0
    have b2 := hx.left1
    have b3 := hx.begun0
    have b4 := hx.begun1
    have b5 := hx.own
    have b6 := hx.out
    have es : wr .i64 (iadd s x.left) = s + x.left := by rw [iadd_, wr_id (by omega) (by omega)]
    unfold segI
    by_cases hc : n < s + x.left
    · rw [if_pos hc]
      have e1 : wr .i64 (isub n s) = n - s := by rw [isub_, wr_id (by omega) (by omega)]
      have e2 : wr .i64 (isub x.left (n - s)) = x.left - (n - s) := by rw [isub_, wr_id (by omega) (by omega)]
      refine ⟨.step (fun k => impl_dasher_segment.l5_eq k _ _ _ _ _ _ _ _ _ _ _ _) ?_, fun _ => ⟨hx.at_, by simp only []; omega, by simp only []; omega, b3, b4, ?_, b6⟩⟩
      · rw [es]
        refine .tt (ilt_t hc) ?_
        rw [e1, e2]
        exact .bind (pass_ev d x.at_ _ x.begun x.own x.out b (by omega)) (.now _)
      · have := passP_le x.at_ x.own b
        simp only []; omega
    · rw [if_neg hc]
      have hnl := hd.nlt x.at_
      have hdv := hd.dvr hnl
      have step : ∀ p : Pt, Ev (fun k => impl_dasher_next.f k (d, ((x.at_ : Int), (x.left, (x.begun, (x.own, (x.out, ())))))) p) ((), ((SI.mk (nxt d x.at_) (dv d (nxt d x.at_)) (x.begun + 1) (passP (nxt d x.at_) [] p) (endP (passP x.at_ x.own p) x.out)).tup d, ((), ()))) := fun p =>
        next_ev hd x.at_ hx.at_ x.left x.begun x.own x.out p (by omega) (by omega) b3 (by omega)
      have okp : ∀ p : Pt, ¬ 2400 < x.begun + 1 → (SI.mk (nxt d x.at_) (dv d (nxt d x.at_)) (x.begun + 1) (passP (nxt d x.at_) [] p) (endP (passP x.at_ x.own p) x.out)).Ok d m := fun p hb => by
        refine ⟨hnl, hdv.1, by simp only []; omega, by simp only []; omega, by simp only []; omega, ?_, ?_⟩
        · have := passP_le (nxt d x.at_) [] p
          simp only [List.length_nil] at this ⊢; omega
        · have := endP_le (passP x.at_ x.own p) x.out
          simp only []; omega
      simp only []
      by_cases hlt : s + x.left < n
      · rw [if_pos hlt]
        by_cases hb : 2400 < x.begun + 1
        · rw [if_pos hb]
          refine ⟨.step (fun k => impl_dasher_segment.l5_eq k _ _ _ _ _ _ _ _ _ _ _ _) ?_, fun e => by cases e⟩
          rw [es]
          refine .ff (ilt_f (by omega)) (.tt (ilt_t hlt) (.bind (down_ev hn) (.bind (down_ev hn) (.bind (step (ptAt a b (s + x.left) n)) (.tt (ilt_t hb) (.now _))))))
        · rw [if_neg hb]
          obtain ⟨k1, k2⟩ := ih (s + x.left) _ (by omega) (by omega) (okp (ptAt a b (s + x.left) n) hb) (by simp only []; omega)
          refine ⟨.step (fun k => impl_dasher_segment.l5_eq k _ _ _ _ _ _ _ _ _ _ _ _) ?_, k2⟩
          rw [es]
          exact .ff (ilt_f (by omega)) (.tt (ilt_t hlt) (.bind (down_ev hn) (.bind (down_ev hn) (.bind (step (ptAt a b (s + x.left) n)) (.ff (ilt_f (by show x.begun + 1 ≤ 2400; omega)) k1)))))
      · rw [if_neg hlt]
        by_cases hb : 2400 < x.begun + 1
        · rw [if_pos hb]
          refine ⟨.step (fun k => impl_dasher_segment.l5_eq k _ _ _ _ _ _ _ _ _ _ _ _) ?_, fun e => by cases e⟩
          rw [es]
          exact .ff (ilt_f (by omega)) (.ff (ilt_f (by omega)) (.bind (step b) (.tt (ilt_t hb) (.now _))))
        · rw [if_neg hb]
          obtain ⟨k1, k2⟩ := ih (s + x.left) _ (by omega) (by omega) (okp b hb) (by simp only []; omega)
          refine ⟨.step (fun k => impl_dasher_segment.l5_eq k _ _ _ _ _ _ _ _ _ _ _ _) ?_, k2⟩
          rw [es]
          exact .ff (ilt_f (by omega)) (.ff (ilt_f (by omega)) (.bind (step b) (.ff (ilt_f (by show x.begun + 1 ≤ 2400; omega)) k1)))

end Go.Proofs.Ytigkodlbjimikaa.VFnExactDashed
