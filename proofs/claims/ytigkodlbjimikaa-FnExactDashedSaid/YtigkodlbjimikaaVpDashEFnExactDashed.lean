/- Dashes: all the segments of a line, by both sides. -/
import Derived.Test.YtigkodlbjimikaaVpDashDFnExactDashed
namespace Go.Proofs.Ytigkodlbjimikaa.VFnExactDashed
open Go Go.RowKit Go.Proofs.Ytigkodlbjimikaa.Vc Go.Proofs.Ytigkodlbjimikaa.Vp
set_option linter.unusedVariables false
set_option linter.unusedSimpArgs false

/-! ### places of a list -/
theorem lget_mid {t : Ty} (pre : List t.den) (x : t.den) (l : List t.den) : lget (pre ++ x :: l) (pre.length : Int) = x := by
  rw [lget_nat, List.getD_eq_getElem?_getD, List.getElem?_append_right (Nat.le_refl _), Nat.sub_self]; rfl
theorem lget_mid1 {t : Ty} (pre : List t.den) (x y : t.den) (l : List t.den) : lget (pre ++ x :: y :: l) ((pre.length : Int) + 1) = y := by
  have := lget_mid (pre ++ [x]) y l
  rw [List.append_assoc, List.length_append] at this
  exact this

/-! ### points counted -/
theorem count_ev (out : List Ln) (h1 : out.length ≤ 1000000000) (h2 : tot out ≤ 1000000000000) : Ev (fun k => impl_countPoints.f k out) ((tot out, ()), ((), ())) := by
  have key : ∀ (l pre : List Ln), out = pre ++ l → Ev (fun k => impl_countPoints.l3 k (tot pre) out (llen out) (pre.length : Int)) ((tot out, ()), ((), ())) := by
    intro l
    induction l with
    | nil =>
      intro pre h
      rw [List.append_nil] at h
      subst h
      exact .step (fun k => impl_countPoints.l3_eq k _ _ _ _) (.ff (ilt_f (by rw [llen_]; exact Int.le_refl _)) (.now _))
    | cons x l ih =>
      intro pre h
      have hl : out.length = pre.length + (l.length + 1) := by rw [h]; simp
      have ht : tot out = tot pre + (x.1.length + tot l) := by rw [h, tot_append]; rfl
      have n1 := tot_nn pre
      have n2 := tot_nn l
      refine .step (fun k => impl_countPoints.l3_eq k _ _ _ _) (.tt (ilt_t (by rw [llen_]; omega)) (.tt (in_t (by omega) (by rw [llen_]; omega)) ?_))
      have e1 : (lget (t := (.pair (.sl 85 (.pair (.int .i64) (.int .i64))) .bool)) out (pre.length : Int)) = x := by rw [h]; exact lget_mid _ _ _
      rw [e1, llen_ x.1, iadd_, iadd_, wr_id (by omega) (by omega), wr_id (by omega) (by omega)]
      have := ih (pre ++ [x]) (by rw [h, List.append_assoc]; rfl)
      rw [tot_append, List.length_append] at this
      simpa [tot] using this
  exact .step (fun k => impl_countPoints.eq k _) (key out [] rfl)

/-! ### the program's segments -/
noncomputable def segZ (d : List Int) (a b : Pt) (x : SI) : Bool × SI := if dist a b = 0 then (true, x) else segI d a b (dist a b) 2402 0 x
noncomputable def runI (d : List Int) : Pt → List Pt → SI → Bool × SI
  | _, [], x => (true, x)
  | a, b :: l, x => if (segZ d a b x).1 = true then runI d b l (segZ d a b x).2 else (false, (segZ d a b x).2)
def finI (r : Bool × SI) : (List Ln × (Bool × Unit)) := if r.1 = true ∧ tot (endP r.2.own r.2.out) ≤ 600 then (endP r.2.own r.2.out, (true, ())) else ([], (false, ()))
theorem segI_totb {d : List Int} {a b : Pt} {n : Int} {m : Nat} (hm : 1 ≤ m) (hm2 : m < 1000000) : ∀ (f : Nat) (s : Int) (x : SI), x.own.length ≤ m → tot x.out ≤ x.begun * 1000000 → tot (segI d a b n f s x).2.out ≤ (segI d a b n f s x).2.begun * 1000000
  | 0, s, x, ho, ht => ht
  | f + 1, s, x, ho, ht => by
    unfold segI
    split
    · exact ht
    · have e : ∀ p : Pt, tot (endP (passP x.at_ x.own p) x.out) ≤ (x.begun + 1) * 1000000 := fun p => by
        rw [tot_endP]
        have h1 := (endM_le (passP x.at_ x.own p) (tot x.out)).2
        have h2 := passP_le x.at_ x.own p
        omega
      simp only []
      split
      · exact e _
      · refine segI_totb hm hm2 f _ _ ?_ (e _)
        have := passP_le (nxt d x.at_) [] (if s + x.left < n then ptAt a b (s + x.left) n else b)
        simp only [List.length_nil] at this ⊢
        omega
theorem segZ_ev {d : List Int} (hd : DashOk d) (a b : Pt) (ha : near a) (hb : near b) (m : Nat) (hm : 1 ≤ m) (hm2 : m < 1000000) (x : SI) (hx : x.Ok d m) (ht : tot x.out ≤ x.begun * 1000000) :
    Ev (fun k => impl_dasher_segment.f k (x.tup d) a b) (((segZ d a b x).1, ()), ((segZ d a b x).2.tup d, ((), ((), ())))) ∧ ((segZ d a b x).1 = true → (segZ d a b x).2.Ok d (m + 1)) ∧ tot (segZ d a b x).2.out ≤ (segZ d a b x).2.begun * 1000000 := by
  obtain ⟨_, g1, g2, g3⟩ := dist_ev a b ha hb
  unfold segZ
  by_cases hz : dist a b = 0
  · rw [if_pos hz]
    exact ⟨.step (fun k => impl_dasher_segment.eq k _ _ _) (.bind g1 (.tt (ieq_t hz) (.now _))), fun _ => { hx with own := by have := hx.own; show x.own.length ≤ m + 1; omega }, ht⟩
  · rw [if_neg hz]
    obtain ⟨k1, k2⟩ := segI_ev hd a b (dist a b) (by omega) g3 m hm (by omega) 2402 0 x (Int.le_refl _) g2 hx (by have := hx.begun0; omega)
    exact ⟨.step (fun k => impl_dasher_segment.eq k _ _ _) (.bind g1 (.ff (ieq_f hz) k1)), k2, segI_totb hm hm2 2402 0 x hx.own ht⟩
theorem runI_ev {d : List Int} (hd : DashOk d) (pts : List Pt) (hn : ∀ p ∈ pts, near p) (hpl : pts.length ≤ 100000) : ∀ (l pre : List Pt) (a : Pt) (x : SI) (m : Nat), pts = pre ++ a :: l → x.Ok d m → tot x.out ≤ x.begun * 1000000 → 1 ≤ m → m + l.length < 1000000 →
    Ev (fun k => impl_Dashed.l25 k ((pre.length : Int) + 1) x.at_ x.left x.begun pts d x.own x.out) (finI (runI d a l x), ((), ((), ((), ())))) := by
  intro l
  induction l with
  | nil =>
    intro pre a x m h hx ht hm hm2
    have hl : pts.length = pre.length + 1 := by rw [h]; simp
    have b1 := hx.begun0
    have b2 := hx.begun1
    have b3 := hx.out
    have b4 := hx.own
    have e1 := endP_le x.own x.out
    have e2 : tot (endP x.own x.out) ≤ 1000000000000 := by
      rw [tot_endP]
      have := (endM_le x.own (tot x.out)).2
      omega
    unfold runI finI
    refine .step (fun k => impl_Dashed.l25_eq k _ _ _ _ _ _ _ _) (.ff (ilt_f (by rw [llen_]; omega)) (.bind (end_ev d x.at_ x.left x.begun x.own x.out (by omega)) (.bind (count_ev _ (by simp only []; omega) e2) ?_)))
    simp only []
    by_cases hc : tot (endP x.own x.out) ≤ 600
    · rw [if_pos ⟨trivial, hc⟩]
      exact .ff (ilt_f hc) (.now _)
    · rw [if_neg (fun h => hc h.2)]
      exact .tt (ilt_t (by omega)) (.now _)
  | cons b l ih =>
    intro pre a x m h hx ht hm hm2
    have hl : pts.length = pre.length + (l.length + 2) := by rw [h]; simp
    simp only [List.length_cons] at hm2
    have ha : near a := hn a (by rw [h]; simp)
    have hb : near b := hn b (by rw [h]; simp)
    obtain ⟨k1, k2, k3⟩ := segZ_ev hd a b ha hb m hm (by omega) x hx ht
    have e0 : wr .i64 (isub ((pre.length : Int) + 1) 1) = pre.length := by rw [isub_, wr_id (by omega) (by omega)]; omega
    have ga : (lget (t := (.pair (.int .i64) (.int .i64))) pts (pre.length : Int)) = a := by rw [h]; exact lget_mid _ _ _
    have gb : (lget (t := (.pair (.int .i64) (.int .i64))) pts ((pre.length : Int) + 1)) = b := by rw [h]; exact lget_mid1 _ _ _ _
    refine .step (fun k => impl_Dashed.l25_eq k _ _ _ _ _ _ _ _) (.tt (ilt_t (by rw [llen_]; omega)) ?_)
    rw [e0, ga, gb]
    refine .tt (in_t (by omega) (by rw [llen_]; omega)) (.tt (in_t (by omega) (by rw [llen_]; omega)) (.bind k1 ?_))
    unfold runI
    cases hr : (segZ d a b x).1 with
    | false =>
      rw [if_neg (by simp)]
      refine .tt rfl ?_
      unfold finI
      rw [if_neg (fun h => by cases h.1)]
      exact .now _
    | true =>
      rw [if_pos rfl]
      refine .ff rfl ?_
      have := ih (pre ++ [a]) b (segZ d a b x).2 (m + 1) (by rw [h, List.append_assoc]; rfl) (k2 hr) k3 (by omega) (by omega)
      rw [List.length_append] at this
      rw [iadd_, wr_id (by omega) (by omega)]
      exact this

/-! ### the reference's segments -/
noncomputable def runS (d : List Int) : Pt → List Pt → SS → SS
  | _, [], x => x
  | a, b :: l, x => runS d b l (segS d a b (dist a b) 2403 0 x)
def lastOf : Pt → List Pt → Pt
  | a, [] => a
  | _, b :: l => lastOf b l
theorem runS_append {d : List Int} (c : Pt) : ∀ (l : List Pt) (a : Pt) (x : SS), runS d a (l ++ [c]) x = segS d (lastOf a l) c (dist (lastOf a l) c) 2403 0 (runS d a l x)
  | [], a, x => rfl
  | b :: l, a, x => runS_append c l b _
def endX (x : SS) : SS := if evn x.at_ = true then { x with own := [], out := endS x.own x.out x.many, many := endM x.own x.many } else x
def finS (y : SS) : (List Ln × (Bool × Unit)) := bif ile y.many 600 then (y.out, (ile y.begun 2400, ())) else (y.out, (false, ()))
theorem segF_ev {d : List Int} (hd : DashOk d) (a b : Pt) (ha : near a) (hb : near b) (m : Nat) {B : Int} (hB : 0 ≤ B) (hB2 : B ≤ 1000000000000) (hm : 1 ≤ m) (hm2 : m < 1000000) (x : SS) (hx : x.Ok d m B) :
    Ev (fun k => spec_l10Walk_segment.f k (x.tup d) a b) ((), ((segS d a b (dist a b) 2403 0 x).tup d, ((), ((), ())))) ∧ (segS d a b (dist a b) 2403 0 x).Ok d (m + 1) (B + 268435456) := by
  obtain ⟨g0, _, g2, g3⟩ := dist_ev a b ha hb
  obtain ⟨k1, k2⟩ := segS_ev hd a b (dist a b) g2 g3 m hB hB2 hm hm2 2403 0 x (Int.le_refl _) g2 hx (by have := hx.begun0; omega)
  exact ⟨.step (fun k => spec_l10Walk_segment.eq k _ _ _) (.bind g0 k1), k2⟩
/-- What stands behind the segments. -/
theorem tailS_ev {d : List Int} {m : Nat} {B : Int} (hm2 : m ≤ 1000000) (x : SS) (hx : x.Ok d m B) : Ev (fun k => bif ieq (irem (x.at_ : Int) 2) 0 then ((spec_l10Walk_end.f k (d, ((x.at_ : Int), (x.left, (x.own, (x.out, (x.many, (x.begun, ())))))))).bind fun r0 => (bif (ile r0.2.1.2.2.2.2.2.1 600) then some ((r0.2.1.2.2.2.2.1, ((ile r0.2.1.2.2.2.2.2.2.1 2400), ())), ((), ((), ((), ())))) else some ((r0.2.1.2.2.2.2.1, (false, ())), ((), ((), ((), ())))))) else (bif (ile x.many 600) then some ((x.out, ((ile x.begun 2400), ())), ((), ((), ((), ())))) else some ((x.out, (false, ())), ((), ((), ((), ()))))))
    (finS (endX x), ((), ((), ((), ())))) := by
  have b1 := hx.begun0
  have b2 := hx.begun1
  have b3 := hx.out
  have b4 := hx.own
  have b5 := hx.many0
  have b6 := hx.many1
  unfold endX finS
  cases he : evn x.at_ with
  | true =>
    rw [if_pos rfl]
    refine .tt he (.bind (endS_ev d x.at_ x.left x.own x.out x.many x.begun (by omega) (by omega) b5 (by omega)) ?_)
    simp only []
    cases ile (endM x.own x.many) 600 with
    | true => exact .now _
    | false => exact .now _
  | false =>
    rw [if_neg (by simp)]
    refine .ff he ?_
    cases ile x.many 600 with
    | true => exact .now _
    | false => exact .now _
noncomputable def closeS (d : List Int) (closed : Bool) (a b : Pt) (x : SS) : SS := if closed = true then segS d a b (dist a b) 2403 0 x else x
theorem runS_ev {d : List Int} (hd : DashOk d) (pts : List Pt) (closed : Bool) (p0 : Pt) (rest : List Pt) (hp0 : pts = p0 :: rest) (hn : ∀ p ∈ pts, near p) (hpl : pts.length ≤ 1000) : ∀ (l pre : List Pt) (a : Pt) (x : SS) (m : Nat) (B : Int), pts = pre ++ a :: l → x.Ok d m B → 1 ≤ m → m + l.length < 100000 → 0 ≤ B → B + 268435456 * l.length ≤ 500000000000 →
    Ev (fun k => spec_l10Dashed.l23v1 k ((pre.length : Int) + 1) pts closed d x.at_ x.left x.many x.begun x.own x.out) (finS (endX (closeS d closed (lastOf a l) p0 (runS d a l x))), ((), ((), ((), ())))) := by
  intro l
  induction l with
  | nil =>
    intro pre a x m B h hx hm hm2 hB hB2
    have hl : pts.length = pre.length + 1 := by rw [h]; simp
    simp only [List.length_nil] at hm2 hB2
    refine .step (fun k => spec_l10Dashed.l23v1_eq k _ _ _ _ _ _ _ _ _ _) (.ff (ilt_f (by rw [llen_]; omega)) ?_)
    unfold runS lastOf closeS
    cases closed with
    | true =>
      have ha : near a := hn a (by rw [h]; simp)
      have hb : near p0 := hn p0 (by rw [hp0]; simp)
      have e0 : wr .i64 (isub (llen pts) 1) = pre.length := by rw [isub_, llen_, wr_id (by omega) (by omega)]; omega
      have ga : (lget (t := (.pair (.int .i64) (.int .i64))) pts (pre.length : Int)) = a := by rw [h]; exact lget_mid _ _ _
      have gb : (lget (t := (.pair (.int .i64) (.int .i64))) pts 0) = p0 := by rw [hp0]; rfl
      obtain ⟨k1, k2⟩ := segF_ev hd a p0 ha hb m hB (by omega) hm (by omega) x hx
      refine .tt rfl ?_
      rw [e0, ga, gb, if_pos rfl]
      exact .tt (in_t (by omega) (by rw [llen_]; omega)) (.tt (ilt_t (by rw [llen_]; omega)) (.bind k1 (tailS_ev (by omega) _ k2)))
    | false =>
      rw [if_neg (by simp)]
      exact .ff rfl (tailS_ev (by omega) x hx)
  | cons b l ih =>
    intro pre a x m B h hx hm hm2 hB hB2
    have hl : pts.length = pre.length + (l.length + 2) := by rw [h]; simp
    simp only [List.length_cons] at hm2 hB2
    have ha : near a := hn a (by rw [h]; simp)
    have hb : near b := hn b (by rw [h]; simp)
    obtain ⟨k1, k2⟩ := segF_ev hd a b ha hb m hB (by omega) hm (by omega) x hx
    have e0 : wr .i64 (isub ((pre.length : Int) + 1) 1) = pre.length := by rw [isub_, wr_id (by omega) (by omega)]; omega
    have ga : (lget (t := (.pair (.int .i64) (.int .i64))) pts (pre.length : Int)) = a := by rw [h]; exact lget_mid _ _ _
    have gb : (lget (t := (.pair (.int .i64) (.int .i64))) pts ((pre.length : Int) + 1)) = b := by rw [h]; exact lget_mid1 _ _ _ _
    refine .step (fun k => spec_l10Dashed.l23v1_eq k _ _ _ _ _ _ _ _ _ _) (.tt (ilt_t (by rw [llen_]; omega)) ?_)
    rw [e0, ga, gb]
    refine .tt (in_t (by omega) (by rw [llen_]; omega)) (.tt (in_t (by omega) (by rw [llen_]; omega)) (.bind k1 ?_))
    have := ih (pre ++ [a]) b (segS d a b (dist a b) 2403 0 x) (m + 1) (B + 268435456) (by rw [h, List.append_assoc]; rfl) k2 (by omega) (by omega) (by omega) (by omega)
    rw [List.length_append] at this
    rw [iadd_, wr_id (by omega) (by omega)]
    exact this
/-- .. of a dash laid twice: the first round alone is its own. -/
theorem l23_l23v1 (k : Nat) (x0 : Int) (x1 : List Pt) (x2 : Bool) (x3 x4 x5 x6 : Int) (x7 : List Int) (x8 : List Pt) (x9 : List Ln) : spec_l10Dashed.l23 (k + 1) x0 x1 x2 x3 x4 x5 x6 x7 x8 x9 = spec_l10Dashed.l23v1 (k + 1) x0 x1 x2 x7 x3 x4 x5 x6 x8 x9 := by
  rw [spec_l10Dashed.l23_eq, spec_l10Dashed.l23v1_eq]

/-! ### both sides -/
theorem bad_seg {d : List Int} {a b : Pt} {n : Int} {f : Nat} {s : Int} {x : SS} (h : bad x) : bad (segS d a b n f s x) := bad_of (segS_mono f s x) h
theorem bad_run {d : List Int} : ∀ (l : List Pt) (a : Pt) (x : SS), bad x → bad (runS d a l x)
  | [], a, x, h => h
  | b :: l, a, x, h => bad_run l b _ (bad_seg h)
theorem segZ_tot {d : List Int} {a b : Pt} (x : SI) : tot x.out ≤ tot (segZ d a b x).2.out := by
  unfold segZ
  split
  · exact Int.le_refl _
  · exact segI_tot _ _ _
theorem runI_tot {d : List Int} : ∀ (l : List Pt) (a : Pt) (x : SI), tot x.out ≤ tot (runI d a l x).2.out
  | [], a, x => Int.le_refl _
  | b :: l, a, x => by
    unfold runI
    split
    · exact Int.le_trans (segZ_tot x) (runI_tot l b _)
    · exact segZ_tot x
theorem run_both {d : List Int} (hd : DashOk d) (pts : List Pt) (hn : ∀ p ∈ pts, near p) : ∀ (l : List Pt) (a : Pt) (x : SI), near a → (∀ p ∈ l, near p) → 0 < x.left → 0 ≤ x.begun → x.begun ≤ 2400 → tot x.out ≤ 600 → (evn x.at_ = false → x.own = []) →
    (∀ a b x, (segZ d a b x).1 = true → x.begun ≤ (segZ d a b x).2.begun) → Both (runI d a l x) (runS d a l (syn x))
  | [], a, x, na, nl, hl, hb0, hb, ht, ho, hmono => .inl ⟨rfl, rfl, ht, hb, hl, ho⟩
  | b :: l, a, x, na, nl, hl, hb0, hb, ht, ho, hmono => by
    have hs : Both (segZ d a b x) (segS d a b (dist a b) 2403 0 (syn x)) := by
      unfold segZ
      by_cases hz : dist a b = 0
      · rw [if_pos hz, hz, segS, if_neg (fun h => by have h := h.1; simp only [syn] at h; omega), if_neg (by omega)]
        exact .inl ⟨rfl, by simp [syn], ht, hb, hl, ho⟩
      · rw [if_neg hz]
        have := (dist_ev a b na (nl b (by simp))).2.2.1
        exact sim_seg hd a b (by omega) x hl hb0 hb ht ho
    unfold runI runS
    rcases hs with ⟨h1, h2, h3, h4, h5, h6⟩ | ⟨h1, h2⟩
    · rw [if_pos h1, h2]
      exact run_both hd pts hn l b _ (nl b (by simp)) (fun p hp => nl p (by simp [hp])) h5 (by have := hmono a b x h1; omega) h4 h3 h6 hmono
    · refine .inr ⟨bad_run l b _ h1, fun e => ?_⟩
      by_cases h : (segZ d a b x).1 = true
      · rw [if_pos h]
        have := runI_tot (d := d) l b (segZ d a b x).2
        have := h2 h
        omega
      · rw [if_neg h] at e
        cases e
theorem segI_begun {d : List Int} {a b : Pt} {n : Int} : ∀ (f : Nat) (s : Int) (x : SI), x.begun ≤ (segI d a b n f s x).2.begun
  | 0, s, x => Int.le_refl _
  | f + 1, s, x => by
    unfold segI
    split
    · exact Int.le_refl _
    · simp only []
      split
      · simp only []; omega
      · refine Int.le_trans ?_ (segI_begun f _ _)
        simp only []; omega
theorem segZ_begun {d : List Int} (a b : Pt) (x : SI) : x.begun ≤ (segZ d a b x).2.begun := by
  unfold segZ
  split
  · exact Int.le_refl _
  · exact segI_begun _ _ _
/-- What both sides answer. -/
def shut (r : List Ln × (Bool × Unit)) : List Ln × (Bool × Unit) := bif not_ r.2.1 then ([], (false, ())) else (r.1, (true, ()))
theorem fin_both {r : Bool × SI} {s : SS} (h : Both r s) : shut (finS (endX s)) = finI r := by
  rcases h with ⟨h1, rfl, h3, h4, h5, h6⟩ | ⟨h1, h2⟩
  · unfold finI finS endX syn
    cases he : evn r.2.at_ with
    | true =>
      simp only [if_true]
      rw [← tot_endP, h1]
      by_cases hc : tot (endP r.2.own r.2.out) ≤ 600
      · rw [if_pos ⟨rfl, hc⟩, ile_t hc, ile_t h4, endS_endP _ _ hc]; rfl
      · rw [if_neg (fun h => hc h.2), ile_f (by omega)]; rfl
    | false =>
      simp only [Bool.false_eq_true, if_false]
      rw [h6 he, endP_short (by simp), if_pos ⟨h1, h3⟩, ile_t h3, ile_t h4]; rfl
  · have hb : bad (endX s) := by
      refine bad_of ?_ h1
      unfold endX
      split
      · exact ⟨(endM_le _ _).1, Int.le_refl _⟩
      · exact ⟨Int.le_refl _, Int.le_refl _⟩
    have e1 : shut (finS (endX s)) = ([], (false, ())) := by
      unfold finS
      rcases hb with hb | hb
      · rw [ile_f hb]; rfl
      · rw [ile_f hb]
        cases ile (endX s).many 600 <;> rfl
    rw [e1]
    unfold finI
    rw [if_neg (fun h => ?_)]
    have := h2 h.1
    have := h.2
    rw [tot_endP] at this
    have := (endM_le r.2.own (tot r.2.out)).1
    omega
end Go.Proofs.Ytigkodlbjimikaa.VFnExactDashed
