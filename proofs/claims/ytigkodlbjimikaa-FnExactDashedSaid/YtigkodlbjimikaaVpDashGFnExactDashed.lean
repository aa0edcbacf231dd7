/- Dashes: what both sides ask first; the whole functions. -/
import Derived.Test.YtigkodlbjimikaaVpDashFFnExactDashed
namespace Go.Proofs.Ytigkodlbjimikaa.VFnExactDashed
open Go Go.RowKit Go.Proofs.Ytigkodlbjimikaa.Vc Go.Proofs.Ytigkodlbjimikaa.Vp
set_option linter.unusedVariables false
set_option linter.unusedSimpArgs false

/-! ### what is asked first -/
def isIn (x lo hi : Int) : Bool := bif ile lo x then ile x hi else false
theorem isIn_t {x lo hi : Int} (h : isIn x lo hi = true) : lo ≤ x ∧ x ≤ hi := by
  unfold isIn at h
  by_cases h1 : lo ≤ x
  · rw [ile_t h1] at h
    exact ⟨h1, of_decide_eq_true h⟩
  · rw [ile_f (by omega)] at h; cases h
theorem within_ev (x lo hi : Int) : Ev (fun k => impl_within.f k x lo hi) ((isIn x lo hi, ()), ((), ((), ((), ())))) := by
  refine .step (fun k => impl_within.eq k _ _ _) ?_
  unfold isIn
  cases ile lo x with
  | true => exact .now _
  | false => exact .now _
theorem inS_ev (x lo hi : Int) : Ev (fun k => spec_l1In.f k x lo hi) ((isIn x lo hi, ()), ((), ((), ((), ())))) := by
  refine .step (fun k => spec_l1In.eq k _ _ _) ?_
  unfold isIn
  cases ile lo x with
  | true => exact .now _
  | false => exact .now _
def nearB (p : Pt) : Bool := bif isIn p.1 (-67108864) 67108864 then isIn p.2 (-67108864) 67108864 else false
theorem nearB_t {p : Pt} (h : nearB p = true) : near p := by
  unfold nearB at h
  cases h1 : isIn p.1 (-67108864) 67108864 with
  | true => rw [h1] at h; exact ⟨isIn_t h1, isIn_t h⟩
  | false => rw [h1] at h; cases h
theorem isNear_ev (p : Pt) : Ev (fun k => impl_isNear.f k p) ((nearB p, ()), ((), ())) := by
  refine .step (fun k => impl_isNear.eq k _) (.bind (within_ev _ _ _) ?_)
  unfold nearB
  simp only []
  cases isIn p.1 (-67108864) 67108864 with
  | true => exact .tt rfl (.bind (within_ev _ _ _) (.now _))
  | false => exact .ff rfl (.now _)
theorem pointS_ev (p : Pt) : Ev (fun k => spec_l10Point.f k p) ((nearB p, ()), ((), ())) := by
  refine .step (fun k => spec_l10Point.eq k _) (.bind (inS_ev _ _ _) ?_)
  unfold nearB
  simp only []
  cases isIn p.1 (-67108864) 67108864 with
  | true => exact .tt rfl (.bind (inS_ev _ _ _) (.now _))
  | false => exact .ff rfl (.now _)
def allNear (pts : List Pt) : Bool := (List.range pts.length).all fun i => nearB (lget (t := (.pair (.int .i64) (.int .i64))) pts (i : Int))
def allDash (d : List Int) : Bool := (List.range d.length).all fun i => isIn (lget (t := (.int .i64)) d (i : Int)) 0 67108864
theorem allNear_t {pts : List Pt} (h : allNear pts = true) : ∀ p ∈ pts, near p := by
  intro p hp
  obtain ⟨i, hi, rfl⟩ := List.getElem_of_mem hp
  have := List.all_eq_true.1 h i (List.mem_range.2 hi)
  rw [lget_lt (t := (.pair (.int .i64) (.int .i64))) _ _ hi] at this
  exact nearB_t this
theorem allDash_t {d : List Int} (h : allDash d = true) : ∀ x ∈ d, 0 ≤ x ∧ x ≤ 67108864 := by
  intro p hp
  obtain ⟨i, hi, rfl⟩ := List.getElem_of_mem hp
  have := List.all_eq_true.1 h i (List.mem_range.2 hi)
  rw [lget_lt (t := (.int .i64)) _ _ hi] at this
  exact isIn_t this
theorem wr_succ {i n : Nat} (h : i < n) (hn : n ≤ 1048576) : wr .i64 (iadd (i : Int) 1) = ((i + 1 : Nat) : Int) := by rw [iadd_, wr_id (by omega) (by omega)]; omega
theorem areNear_ev (l : Ln) (h : l.1.length ≤ 1048576) : Ev (fun k => impl_areNear.f k [l]) ((allNear l.1, ()), ((), ())) := by
  have e0 : (lget (t := (.pair (.sl 85 (.pair (.int .i64) (.int .i64))) .bool)) [l] 0) = l := rfl
  refine .step (fun k => impl_areNear.eq k _) (.step (fun k => impl_areNear.l2_eq k _ _ _) (.tt rfl (.tt rfl ?_)))
  rw [e0]
  have := all_ev (fun k i => impl_areNear.l5 k [l] (llen [l]) 0 l.1 (llen l.1) i) l.1.length (fun i => nearB (lget (t := (.pair (.int .i64) (.int .i64))) l.1 (i : Int))) ((true, ()), ((), ())) ((false, ()), ((), ()))
    (fun i r hi hP hr => .step (fun k => impl_areNear.l5_eq k _ _ _ _ _ _) (.tt (ilt_t (by rw [llen_]; omega)) (.tt (in_t (by omega) (by rw [llen_]; omega)) (.bind (isNear_ev _) (.ff (not_f hP) (by rw [wr_succ hi h]; exact hr))))))
    (fun i hi hP => .step (fun k => impl_areNear.l5_eq k _ _ _ _ _ _) (.tt (ilt_t (by rw [llen_]; omega)) (.tt (in_t (by omega) (by rw [llen_]; omega)) (.bind (isNear_ev _) (.tt (not_t hP) (.now _))))))
    (.step (fun k => impl_areNear.l5_eq k _ _ _ _ _ _) (.ff (ilt_f (by rw [llen_]; omega)) (.step (fun k => impl_areNear.l2_eq k _ _ _) (.ff (ilt_f (by rw [llen_, iadd_, wr_id (by omega) (by omega)]; simp)) (.now _)))))
  unfold allNear
  cases hc : (List.range l.1.length).all fun i => nearB (lget (t := (.pair (.int .i64) (.int .i64))) l.1 (i : Int)) with
  | true => rw [hc] at this; exact this
  | false => rw [hc] at this; exact this
def dashB (d : List Int) (ph : Int) : Bool := allDash d && (ile d.length 8 && isIn ph 0 67108864)
theorem areDashes_ev (d : List Int) (ph : Int) (h : d.length ≤ 1048576) : Ev (fun k => impl_areDashes.f k d ph) ((dashB d ph, ()), ((), ((), ()))) := by
  refine .step (fun k => impl_areDashes.eq k _ _) ?_
  have := all_ev (fun k i => impl_areDashes.l2 k d ph d (llen d) i) d.length (fun i => isIn (lget (t := (.int .i64)) d (i : Int)) 0 67108864) ((ile d.length 8 && isIn ph 0 67108864, ()), ((), ((), ()))) ((false, ()), ((), ((), ())))
    (fun i r hi hP hr => .step (fun k => impl_areDashes.l2_eq k _ _ _ _ _) (.tt (ilt_t (by rw [llen_]; omega)) (.tt (in_t (by omega) (by rw [llen_]; omega)) (.bind (within_ev _ _ _) (.ff (not_f hP) (by rw [wr_succ hi h]; exact hr))))))
    (fun i hi hP => .step (fun k => impl_areDashes.l2_eq k _ _ _ _ _) (.tt (ilt_t (by rw [llen_]; omega)) (.tt (in_t (by omega) (by rw [llen_]; omega)) (.bind (within_ev _ _ _) (.tt (not_t hP) (.now _))))))
    (.step (fun k => impl_areDashes.l2_eq k _ _ _ _ _) (.ff (ilt_f (by rw [llen_]; omega)) (by
      cases h8 : ile (d.length : Int) 8 with
      | true => exact .tt h8 (.bind (within_ev _ _ _) (.now _))
      | false => exact .ff h8 (.now _))))
  unfold dashB allDash
  cases hc : (List.range d.length).all fun i => isIn (lget (t := (.int .i64)) d (i : Int)) 0 67108864 with
  | true => rw [hc] at this; rw [Bool.true_and]; exact this
  | false => rw [hc] at this; rw [Bool.false_and]; exact this
theorem dashS_ev (d : List Int) (ph : Int) (h : d.length ≤ 1048576) : Ev (fun k => spec_l10Dash.f k d ph) ((dashB d ph, ()), ((), ((), ()))) := by
  have go : Ev (fun k => spec_GoodPen.f k (0, (1, (1, (d, ph))))) ((dashB d ph, ()), ((), ())) := by
    refine .step (fun k => spec_GoodPen.eq k _) (.bind (inS_ev _ _ _) (.tt rfl (.bind (inS_ev _ _ _) (.tt rfl (.bind (inS_ev _ _ _) (.tt rfl ?_))))))
    simp only []
    unfold dashB
    by_cases h8 : (d.length : Int) ≤ 8
    · refine .tt (not_t (ilt_f (by rw [llen_]; omega))) (.bind (inS_ev _ _ _) ?_)
      rw [ile_t h8, Bool.true_and]
      simp only []
      cases hph : isIn ph 0 67108864 with
      | false => rw [Bool.and_false]; exact .tt rfl (.now _)
      | true =>
        rw [Bool.and_true]
        refine .ff rfl ?_
        have := all_ev (fun k i => spec_GoodPen.l4 k d (llen d) i) d.length (fun i => isIn (lget (t := (.int .i64)) d (i : Int)) 0 67108864) ((true, ()), ((), ())) ((false, ()), ((), ()))
          (fun i r hi hP hr => .step (fun k => spec_GoodPen.l4_eq k _ _ _) (.tt (ilt_t (by rw [llen_]; omega)) (.tt (in_t (by omega) (by rw [llen_]; omega)) (.bind (inS_ev _ _ _) (.ff (not_f hP) (by rw [wr_succ hi h]; exact hr))))))
          (fun i hi hP => .step (fun k => spec_GoodPen.l4_eq k _ _ _) (.tt (ilt_t (by rw [llen_]; omega)) (.tt (in_t (by omega) (by rw [llen_]; omega)) (.bind (inS_ev _ _ _) (.tt (not_t hP) (.now _))))))
          (.step (fun k => spec_GoodPen.l4_eq k _ _ _) (.ff (ilt_f (by rw [llen_]; omega)) (.now _)))
        unfold allDash
        cases hc : (List.range d.length).all fun i => isIn (lget (t := (.int .i64)) d (i : Int)) 0 67108864 with
        | true => rw [hc] at this; exact this
        | false => rw [hc] at this; exact this
    · rw [ile_f (by omega), Bool.false_and, Bool.and_false]
      exact .ff (not_f (ilt_t (by rw [llen_]; omega))) (.now _)
  exact .step (fun k => spec_l10Dash.eq k _ _) (.bind go (.now _))

theorem all_f {ρ : Type} (F : Nat → Int → Option ρ) (n : Nat) (P : Nat → Bool) (rf : ρ) (hs : ∀ i r, i < n → P i = true → Ev (fun k => F k (((i + 1 : Nat) : Int))) r → Ev (fun k => F k (i : Int)) r)
    (hf : ∀ i, i < n → P i = false → Ev (fun k => F k (i : Int)) rf) (h : (List.range n).all P = false) : Ev (fun k => F k 0) rf := by
  have key : ∀ j, j ≤ n → (List.range' (n - j) j).all P = false → Ev (fun k => F k ((n - j : Nat) : Int)) rf := by
    intro j
    induction j with
    | zero => intro _ h; cases h
    | succ j ih =>
      intro hj h
      rw [List.range'_succ, List.all_cons] at h
      have e : n - (j + 1) + 1 = n - j := by omega
      cases hP : P (n - (j + 1)) with
      | true =>
        rw [hP, Bool.true_and, e] at h
        refine hs _ _ (by omega) hP ?_
        rw [e]; exact ih (by omega) h
      | false => exact hf _ (by omega) hP
  have := key n (Nat.le_refl _)
  rw [Nat.sub_self, ← List.range_eq_range'] at this
  exact this h
theorem ev_next {α : Type} {f g : Nat → Option α} {r : α} (h : ∀ k, f (k + 1) = g (k + 1)) (hg : Ev g r) : Ev f r := by
  obtain ⟨K, hK⟩ := hg
  refine ⟨K + 1, fun k hk => ?_⟩
  obtain ⟨k, rfl⟩ : ∃ m, k = m + 1 := ⟨k - 1, by omega⟩
  rw [h]; exact hK _ (by omega)

/-! ### the whole functions -/
/-- What is known of an answer. -/
structure AnsOk (R : List Ln × (Bool × Unit)) : Prop where
  len : R.1.length ≤ 10000
  tot : tot R.1 ≤ 10000
  bad : R.2.1 = false → R.1 = []
theorem runI_ok {d : List Int} (hd : DashOk d) : ∀ (l : List Pt) (a : Pt) (x : SI) (m : Nat), near a → (∀ p ∈ l, near p) → x.Ok d m → tot x.out ≤ x.begun * 1000000 → 1 ≤ m → m + l.length < 1000000 → (runI d a l x).1 = true → (runI d a l x).2.Ok d (m + l.length)
  | [], a, x, m, ha, hl, hx, ht, hm, hm2, _ => hx
  | b :: l, a, x, m, ha, hl, hx, ht, hm, hm2, hr => by
    simp only [List.length_cons] at hm2
    obtain ⟨_, k2, k3⟩ := segZ_ev hd a b ha (hl b (by simp)) m hm (by omega) x hx ht
    unfold runI at hr ⊢
    by_cases h : (segZ d a b x).1 = true
    · rw [if_pos h] at hr ⊢
      have := runI_ok hd l b (segZ d a b x).2 (m + 1) (hl b (by simp)) (fun p hp => hl p (by simp [hp])) (k2 h) k3 (by omega) (by omega) hr
      rw [show m + (b :: l).length = m + 1 + l.length by simp only [List.length_cons]; omega]
      exact this
    · rw [if_neg h] at hr; cases hr
/-- The walk from a dash that is begun. -/
theorem walk_both {d : List Int} (hd : DashOk d) (pts : List Pt) (closed : Bool) (p0 : Pt) (rest : List Pt) (hp : pts = p0 :: rest) (hn : ∀ p ∈ pts, near p) (hpl : pts.length ≤ 600) (at_ : Nat) (left : Int) (h1 : at_ < d.length) (h2 : 0 < left) (h3 : left ≤ 67108864) :
    ∃ (R S : List Ln × (Bool × Unit)), shut S = R ∧ AnsOk R ∧ Ev (fun k => impl_Dashed.l25 k 1 (at_ : Int) left 0 (bif closed then pts ++ [p0] else pts) d (passP (at_ : Int) [] p0) []) (R, ((), ((), ((), ())))) ∧ Ev (fun k => spec_l10Dashed.l23v1 k 1 pts closed d (at_ : Int) left 0 0 (passP (at_ : Int) [] p0) []) (S, ((), ((), ((), ())))) := by
  have n0 : near p0 := hn p0 (by rw [hp]; simp)
  have hlen : pts.length = rest.length + 1 := by rw [hp]; simp
  have own1 : (passP (at_ : Int) [] p0).length ≤ 1 := by have := passP_le (at_ : Int) [] p0; simpa using this
  have hx : (SI.mk at_ left 0 (passP (at_ : Int) [] p0) []).Ok d 1 := ⟨h1, by simp only []; omega, by simp only []; omega, by simp, by simp, own1, by simp⟩
  have hy : (syn (SI.mk at_ left 0 (passP (at_ : Int) [] p0) [])).Ok d 1 0 := ⟨h1, by simp only [syn]; omega, by simp only [syn]; omega, by simp [syn], by simp [syn], own1, by simp [syn], by simp [syn, tot], by simp [syn, tot], fun _ _ => by simp only [syn]; omega⟩
  have ht : tot ([] : List Ln) ≤ 0 * 1000000 := by simp [tot]
  have hodd : evn at_ = false → passP (at_ : Int) [] p0 = [] := fun h => passP_odd h _ _
  have seS := runS_ev hd pts closed p0 rest hp hn (by omega) rest [] p0 (syn (SI.mk at_ left 0 (passP (at_ : Int) [] p0) [])) 1 0 hp hy (by omega) (by omega) (by omega) (by omega)
  -- the program's list
  obtain ⟨more, hmore, hnm, hml, hS⟩ : ∃ more : List Pt, (bif closed then pts ++ [p0] else pts) = p0 :: (rest ++ more) ∧ (∀ p ∈ more, near p) ∧ more.length ≤ 1 ∧ closeS d closed (lastOf p0 rest) p0 (runS d p0 rest (syn (SI.mk at_ left 0 (passP (at_ : Int) [] p0) []))) = runS d p0 (rest ++ more) (syn (SI.mk at_ left 0 (passP (at_ : Int) [] p0) [])) := by
    cases closed with
    | true => exact ⟨[p0], by rw [hp]; rfl, by simpa using n0, by simp, by rw [runS_append]; rfl⟩
    | false => exact ⟨[], by rw [hp, List.append_nil]; rfl, by simp, by simp, by rw [List.append_nil]; rfl⟩
  have hnr : ∀ p ∈ rest ++ more, near p := fun p hp' => by
    rcases List.mem_append.1 hp' with h | h
    · exact hn p (by rw [hp]; simp [h])
    · exact hnm p h
  have hll : (rest ++ more).length ≤ 601 := by rw [List.length_append]; omega
  have hna : ∀ p ∈ p0 :: (rest ++ more), near p := fun p hp' => (List.mem_cons.1 hp').elim (fun h => h ▸ n0) (hnr p)
  have seI := runI_ev hd (p0 :: (rest ++ more)) hna (by rw [List.length_cons]; omega) (rest ++ more) [] p0 (SI.mk at_ left 0 (passP (at_ : Int) [] p0) []) 1 rfl hx ht (by omega) (by omega)
  have both := run_both hd pts hn (rest ++ more) p0 (SI.mk at_ left 0 (passP (at_ : Int) [] p0) []) n0 hnr h2 (Int.le_refl _) (by simp) (by simp [tot]) hodd (fun a b x _ => segZ_begun a b x)
  have fin := fin_both both
  rw [← hS] at fin
  refine ⟨_, _, fin, ?_, ?_, seS⟩
  · have hok := runI_ok hd (rest ++ more) p0 (SI.mk at_ left 0 (passP (at_ : Int) [] p0) []) 1 n0 hnr hx ht (by omega) (by omega)
    unfold finI
    by_cases hc : (runI d p0 (rest ++ more) (SI.mk at_ left 0 (passP (at_ : Int) [] p0) [])).1 = true ∧ tot (endP (runI d p0 (rest ++ more) (SI.mk at_ left 0 (passP (at_ : Int) [] p0) [])).2.own (runI d p0 (rest ++ more) (SI.mk at_ left 0 (passP (at_ : Int) [] p0) [])).2.out) ≤ 600
    · rw [if_pos hc]
      have ok := hok hc.1
      have b1 := ok.begun1
      have b2 := ok.out
      have b3 := endP_le (runI d p0 (rest ++ more) (SI.mk at_ left 0 (passP (at_ : Int) [] p0) [])).2.own (runI d p0 (rest ++ more) (SI.mk at_ left 0 (passP (at_ : Int) [] p0) [])).2.out
      exact ⟨by simp only []; omega, by have := hc.2; simp only []; omega, fun h => by cases h⟩
    · rw [if_neg hc]
      exact ⟨by simp, by simp [tot], fun _ => rfl⟩
  · rw [hmore]
    exact seI
theorem irem_in {a b : Int} (ha : 0 ≤ a) (hb : 0 < b) : 0 ≤ irem a b ∧ irem a b < b := ⟨Int.tmod_nonneg b ha, Int.tmod_lt_of_pos a hb⟩
theorem both_ev (l : Ln) (d : List Int) (ph : Int) (hl : l.1.length ≤ 1048576) (hd : d.length ≤ 1048576) :
    ∃ R : List Ln × (Bool × Unit), AnsOk R ∧ Ev (fun k => impl_Dashed.f k l d ph) (R, ((), ((), ((), ())))) ∧ Ev (fun k => spec_Dashed.f k l d ph) (R, ((), ((), ((), ())))) := by
  have none_ : AnsOk (([] : List Ln), (false, ())) := ⟨by simp, by simp [tot], fun _ => rfl⟩
  cases c1 : isIn (llen l.1) 1 600 with
  | false =>
    refine ⟨([], (false, ())), none_, .step (fun k => impl_Dashed.eq k _ _ _) (.bind (within_ev _ _ _) ?_), .step (fun k => spec_Dashed.eq k _ _ _) (.bind (inS_ev _ _ _) ?_)⟩
    · rw [c1]; exact .ff rfl (.now _)
    · rw [c1]; exact .ff rfl (.now _)
  | true =>
  have b1 := isIn_t c1
  rw [llen_] at b1
  cases c2 : dashB d ph with
  | false =>
    refine ⟨([], (false, ())), none_, .step (fun k => impl_Dashed.eq k _ _ _) (.bind (within_ev _ _ _) ?_), .step (fun k => spec_Dashed.eq k _ _ _) (.bind (inS_ev _ _ _) ?_)⟩
    · rw [c1]
      refine .tt rfl (.bind (areNear_ev (l.1, l.2) hl) ?_)
      cases hn : allNear l.1 with
      | true => exact .tt rfl (.bind (areDashes_ev d ph hd) (.tt (not_t c2) (.now _)))
      | false => exact .ff rfl (.now _)
    · rw [c1]
      exact .tt rfl (.bind (dashS_ev d ph hd) (.tt (not_t c2) (.now _)))
  | true =>
  cases c3 : allNear l.1 with
  | false =>
    refine ⟨([], (false, ())), none_, .step (fun k => impl_Dashed.eq k _ _ _) (.bind (within_ev _ _ _) ?_), .step (fun k => spec_Dashed.eq k _ _ _) (.bind (inS_ev _ _ _) ?_)⟩
    · rw [c1]
      exact .tt rfl (.bind (areNear_ev (l.1, l.2) hl) (.ff (not_f (not_t c3)) (.now _)))
    · rw [c1]
      refine .tt rfl (.bind (dashS_ev d ph hd) (.ff (not_f c2) ?_))
      exact all_f (fun k i => spec_Dashed.l4 k d ph l.1 (llen l.1) i l.1 l.2) l.1.length (fun i => nearB (lget (t := (.pair (.int .i64) (.int .i64))) l.1 (i : Int))) _
        (fun i r hi hP hr => .step (fun k => spec_Dashed.l4_eq k _ _ _ _ _ _ _) (.tt (ilt_t (by rw [llen_]; omega)) (.tt (in_t (by omega) (by rw [llen_]; omega)) (.bind (pointS_ev _) (.ff (not_f hP) (by rw [wr_succ hi hl]; exact hr))))))
        (fun i hi hP => .step (fun k => spec_Dashed.l4_eq k _ _ _ _ _ _ _) (.tt (ilt_t (by rw [llen_]; omega)) (.tt (in_t (by omega) (by rw [llen_]; omega)) (.bind (pointS_ev _) (.tt (not_t hP) (.now _)))))) c3
  | true =>
  have hn := allNear_t c3
  unfold dashB at c2
  obtain ⟨c4, c5⟩ := Bool.and_eq_true_iff.1 c2
  obtain ⟨c5, c6⟩ := Bool.and_eq_true_iff.1 c5
  have hv := allDash_t c4
  have h8 : (d.length : Int) ≤ 8 := of_decide_eq_true c5
  have hph := isIn_t c6
  suffices H : ∃ R S : List Ln × (Bool × Unit), shut S = R ∧ AnsOk R ∧ Ev (fun k => impl_Dashed.l5 k d ph 0 d (llen d) 0 l.1 l.2) (R, ((), ((), ((), ())))) ∧ Ev (fun k => spec_l10Dashed.f k (l.1, l.2) d ph) (S, ((), ((), ((), ())))) by
    obtain ⟨R, S, hRS, hR, hI, hS⟩ := H
    refine ⟨R, hR, .step (fun k => impl_Dashed.eq k _ _ _) (.bind (within_ev _ _ _) ?_), .step (fun k => spec_Dashed.eq k _ _ _) (.bind (inS_ev _ _ _) ?_)⟩
    · rw [c1]
      exact .tt rfl (.bind (areNear_ev (l.1, l.2) hl) (.tt (not_t (not_f c3)) (.bind (areDashes_ev d ph hd) (.ff (not_f c2) hI))))
    · rw [c1]
      refine .tt rfl (.bind (dashS_ev d ph hd) (.ff (not_f c2) ?_))
      have := all_ev (fun k i => spec_Dashed.l4 k d ph l.1 (llen l.1) i l.1 l.2) l.1.length (fun i => nearB (lget (t := (.pair (.int .i64) (.int .i64))) l.1 (i : Int))) (R, ((), ((), ((), ())))) (([], (false, ())), ((), ((), ((), ()))))
        (fun i r hi hP hr => .step (fun k => spec_Dashed.l4_eq k _ _ _ _ _ _ _) (.tt (ilt_t (by rw [llen_]; omega)) (.tt (in_t (by omega) (by rw [llen_]; omega)) (.bind (pointS_ev _) (.ff (not_f hP) (by rw [wr_succ hi hl]; exact hr))))))
        (fun i hi hP => .step (fun k => spec_Dashed.l4_eq k _ _ _ _ _ _ _) (.tt (ilt_t (by rw [llen_]; omega)) (.tt (in_t (by omega) (by rw [llen_]; omega)) (.bind (pointS_ev _) (.tt (not_t hP) (.now _))))))
        (.step (fun k => spec_Dashed.l4_eq k _ _ _ _ _ _ _) (.ff (ilt_f (by rw [llen_]; omega)) (.bind hS (by
          rw [← hRS]
          unfold shut
          simp only []
          cases S.2.1 with
          | true => exact .ff rfl (.now _)
          | false => exact .tt rfl (.now _)))))
      rw [show ((List.range l.1.length).all fun i => nearB (lget (t := (.pair (.int .i64) (.int .i64))) l.1 (i : Int))) = true from c3] at this
      exact this
  obtain ⟨pts, closed⟩ := l
  simp only [] at hl b1 hn ⊢
  obtain ⟨p0, rest, hp⟩ : ∃ p0 rest, pts = p0 :: rest := by
    cases pts with
    | nil => simp at b1
    | cons p l => exact ⟨p, l, rfl⟩
  have hT := sumD_nn d hv
  have any := any_ev d (by omega) hv
  have l5up : ∀ r, Ev (fun k => impl_Dashed.l5 k d ph (sumD d) d (llen d) (d.length : Int) pts closed) r → Ev (fun k => impl_Dashed.l5 k d ph 0 d (llen d) 0 pts closed) r := fun r hr =>
    up_ev (fun k acc i => impl_Dashed.l5 k d ph acc d (llen d) i pts closed) d (by omega) hv (fun k acc i hi => by
      show impl_Dashed.l5 (k + 1) d ph acc d (llen d) i pts closed = _
      rw [impl_Dashed.l5_eq, in_t (show (0 : Int) ≤ i by omega) (show (i : Int) < llen d by rw [llen_]; omega), ilt_t (show (i : Int) < llen d by rw [llen_]; omega)]; rfl) hr
  have len1 : ile (llen (lapp [] pts)) 8796093022208 = true := ile_t (by show (pts.length : Int) ≤ _; omega)
  by_cases hz : sumD d = 0
  · refine ⟨([(pts, closed)], (true, ())), ([(pts, closed)], (true, ())), rfl, ⟨by simp, by simp only [tot]; omega, fun h => by cases h⟩, l5up _ ?_, ?_⟩
    · exact .step (fun k => impl_Dashed.l5_eq k _ _ _ _ _ _ _ _) (.ff (ilt_f (Int.le_refl _)) (.tt len1 (.tt (ieq_t hz) (.now _))))
    · refine .step (fun k => spec_l10Dashed.eq k _ _ _) (.bind any ?_)
      exact .tt (not_t (ilt_f (by omega))) (.bind (.step (fun k => spec_l10Own.eq k _) (.tt len1 (.now _))) (.now _))
  · obtain ⟨v, dl, hdv⟩ : ∃ v dl, d = v :: dl := by
      cases d with
      | nil => exact absurd rfl hz
      | cons v dl => exact ⟨v, dl, rfl⟩
    have dpos : 0 < d.length := by rw [hdv]; simp
    cases hodd : ieq (irem (llen d) 2) 1 with
    | true =>
      have hv2 : ∀ x ∈ d ++ d, 0 ≤ x ∧ x ≤ 67108864 := fun x hx => (List.mem_append.1 hx).elim (hv x) (hv x)
      have hl2 : (d ++ d).length = d.length + d.length := List.length_append
      have hd2 : DashOk (d ++ d) := ⟨by omega, by omega, hv2⟩
      have hs2 : sumD (d ++ d) = sumD d * 2 := by rw [sumD_append]; omega
      have hdv2 : d ++ d = v :: (dl ++ d) := congrArg (fun z => z ++ d) hdv
      have hf := irem_in hph.1 (show 0 < sumD d * 2 by omega)
      obtain ⟨q1, q2, q3⟩ := startP_ok hv2 (d ++ d) [] (irem ph (sumD d * 2)) rfl hf.1 (by rw [hs2]; exact hf.2)
      obtain ⟨R, S, hRS, hR, hI, hS⟩ := walk_both hd2 pts closed p0 rest hp hn (by omega) _ _ q1 q2 q3
      refine ⟨R, S, hRS, hR, l5up _ ?_, ?_⟩
      · have e2 : wr .i64 (imul (sumD d) 2) = sumD d * 2 := by rw [imul_, wr_id (by omega) (by omega)]
        refine .step (fun k => impl_Dashed.l5_eq k _ _ _ _ _ _ _ _) (.ff (ilt_f (Int.le_refl _)) (.tt len1 (.ff (ieq_f hz) (.tt (ile_t (by show (d.length : Int) ≤ _; omega)) (.tt hodd (.tt (ile_t (by show ((d ++ d).length : Int) ≤ _; omega)) ?_))))))
        rw [e2]
        exact .tt (not_t (ieq_f (by omega))) (startI hd2 pts closed p0 rest hp (by omega) (d ++ d) [] _ rfl hf.1 (by omega) (by rw [hs2]; exact hf.2) hI)
      · refine .step (fun k => spec_l10Dashed.eq k _ _ _) (.bind any (.ff (not_f (ilt_t (by omega))) (.tt hodd (.tt (ile_t (by show (d.length : Int) ≤ _; omega)) (.tt (ile_t (by show ((d ++ d).length : Int) ≤ _; omega)) ?_)))))
        refine up_ev (fun k acc i => spec_l10Dashed.l7 k ph acc (llen (d ++ d)) i pts closed (d ++ d)) (d ++ d) (by omega) hv2 (fun k acc i hi => by
          show spec_l10Dashed.l7 (k + 1) ph acc (llen (d ++ d)) i pts closed (d ++ d) = _
          rw [spec_l10Dashed.l7_eq, in_t (show (0 : Int) ≤ i by omega) (show (i : Int) < llen (d ++ d) by rw [llen_]; omega), ilt_t (show (i : Int) < llen (d ++ d) by rw [llen_]; omega)]; rfl) ?_
        refine .step (fun k => spec_l10Dashed.l7_eq k _ _ _ _ _ _ _) (.ff (ilt_f (Int.le_refl _)) (.tt (not_t (ieq_f (by omega))) (.tt (ilt_t (by rw [llen_]; omega)) ?_)))
        rw [hs2]
        have e0 : (lget (t := (.int .i64)) (d ++ d) 0) = v := by rw [hdv2]; rfl
        rw [e0]
        refine startS hd2 pts closed p0 rest hp (by omega) (dl ++ d) [] v _ hdv2 hf.1 (by omega) (by rw [← hdv2, hs2]; exact hf.2) ?_
        rw [← hdv2]
        exact ev_next (fun k => l23_l23v1 k _ _ _ _ _ _ _ _ _ _) hS
    | false =>
      have hd2 : DashOk d := ⟨dpos, by omega, hv⟩
      have hf := irem_in hph.1 (show 0 < sumD d by omega)
      obtain ⟨q1, q2, q3⟩ := startP_ok hv d [] (irem ph (sumD d)) rfl hf.1 hf.2
      obtain ⟨R, S, hRS, hR, hI, hS⟩ := walk_both hd2 pts closed p0 rest hp hn (by omega) _ _ q1 q2 q3
      refine ⟨R, S, hRS, hR, l5up _ ?_, ?_⟩
      · refine .step (fun k => impl_Dashed.l5_eq k _ _ _ _ _ _ _ _) (.ff (ilt_f (Int.le_refl _)) (.tt len1 (.ff (ieq_f hz) (.tt (ile_t (by show (d.length : Int) ≤ _; omega)) (.ff hodd (.tt (not_t (ieq_f hz)) ?_))))))
        exact startI hd2 pts closed p0 rest hp (by omega) d [] _ rfl hf.1 (by omega) hf.2 hI
      · refine .step (fun k => spec_l10Dashed.eq k _ _ _) (.bind any (.ff (not_f (ilt_t (by omega))) (.ff hodd ?_)))
        refine up_ev (fun k acc i => spec_l10Dashed.l7v1 k d ph acc d (llen d) i pts closed) d (by omega) hv (fun k acc i hi => by
          show spec_l10Dashed.l7v1 (k + 1) d ph acc d (llen d) i pts closed = _
          rw [spec_l10Dashed.l7v1_eq, in_t (show (0 : Int) ≤ i by omega) (show (i : Int) < llen d by rw [llen_]; omega), ilt_t (show (i : Int) < llen d by rw [llen_]; omega)]; rfl) ?_
        refine .step (fun k => spec_l10Dashed.l7v1_eq k _ _ _ _ _ _ _ _) (.ff (ilt_f (Int.le_refl _)) (.tt (not_t (ieq_f hz)) (.tt (ilt_t (by rw [llen_]; omega)) ?_)))
        have e0 : (lget (t := (.int .i64)) d 0) = v := by rw [hdv]; rfl
        rw [e0]
        refine startV hd2 pts closed p0 rest hp (by omega) dl [] v _ hdv hf.1 (by omega) (by rw [← hdv]; exact hf.2) ?_
        rw [← hdv]
        exact hS
end Go.Proofs.Ytigkodlbjimikaa.VFnExactDashed
