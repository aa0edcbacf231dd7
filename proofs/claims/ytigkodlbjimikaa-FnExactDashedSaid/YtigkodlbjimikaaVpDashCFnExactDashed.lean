/- Dashes: the reference's segment. -/
import Derived.Test.YtigkodlbjimikaaVpDashBFnExactDashed
namespace Go.Proofs.Ytigkodlbjimikaa.VFnExactDashed
open Go Go.RowKit Go.Proofs.Ytigkodlbjimikaa.Vc Go.Proofs.Ytigkodlbjimikaa.Vp
set_option linter.unusedVariables false
set_option linter.unusedSimpArgs false

structure SS where
  at_ : Nat
  left : Int
  own : List Pt
  out : List Ln
  many : Int
  begun : Int
def evn (at_ : Nat) : Bool := ieq (irem (at_ : Int) 2) 0
def stepS (d : List Int) (p : Pt) (x : SS) : SS :=
  ⟨nxt d x.at_, dv d (nxt d x.at_), bif evn (nxt d x.at_) && ilt 0 (dv d (nxt d x.at_)) then [p] else bif evn x.at_ then [] else x.own,
    bif evn x.at_ then endS x.own x.out x.many else x.out, bif evn x.at_ then endM x.own x.many else x.many, x.begun + 1⟩
def nextS (d : List Int) (p : Pt) : Nat → SS → SS
  | 0, x => x
  | f + 1, x => if x.left = 0 ∧ x.begun ≤ 2400 then nextS d p f (stepS d p x) else x
def SS.tup (d : List Int) (x : SS) : (List Int × (Int × (Int × (List Pt × (List Ln × (Int × (Int × Unit))))))) := (d, ((x.at_ : Int), (x.left, (x.own, (x.out, (x.many, (x.begun, ())))))))
structure SS.Ok (d : List Int) (x : SS) (m : Nat) (B : Int) : Prop where
  at_ : x.at_ < d.length
  left0 : -B ≤ x.left
  left1 : x.left ≤ 67108864
  begun0 : 0 ≤ x.begun
  begun1 : x.begun ≤ 2401
  own : x.own.length ≤ m
  out : (x.out.length : Int) ≤ x.begun
  many0 : 0 ≤ x.many
  many1 : x.many ≤ x.begun * 1000000
  good : x.many ≤ 600 → x.begun ≤ 2400 → 0 ≤ x.left
theorem endS_le (own : List Pt) (out : List Ln) (many : Int) : (endS own out many).length ≤ out.length + 1 := by unfold endS; split <;> simp
theorem endM_le (own : List Pt) (many : Int) : many ≤ endM own many ∧ endM own many ≤ many + own.length := by unfold endM; split <;> omega
theorem stepS_ok {d : List Int} (hd : DashOk d) {p : Pt} {x : SS} {m : Nat} {B : Int} (hB : 0 ≤ B) (hm : 1 ≤ m) (hm2 : m ≤ 1000000) (hx : x.Ok d m B) (hb : x.begun ≤ 2400) : (stepS d p x).Ok d m B := by
  have hn := hd.nlt x.at_
  have hv := hd.dvr hn
  have b3 := hx.begun0
  have b5 := hx.own
  have b6 := hx.out
  have b7 := hx.many0
  have b8 := hx.many1
  have e1 := endS_le x.own x.out x.many
  have e2 := endM_le x.own x.many
  refine ⟨hn, ?_, hv.2, ?_, ?_, ?_, ?_, ?_, ?_, fun _ _ => hv.1⟩
  · show -B ≤ dv d (nxt d x.at_); omega
  · show 0 ≤ x.begun + 1; omega
  · show x.begun + 1 ≤ 2401; omega
  · show (bif evn (nxt d x.at_) && ilt 0 (dv d (nxt d x.at_)) then [p] else bif evn x.at_ then [] else x.own).length ≤ m
    cases evn (nxt d x.at_) && ilt 0 (dv d (nxt d x.at_)) with
    | true => simpa using hm
    | false => cases evn x.at_ with
      | true => simp
      | false => exact b5
  · show ((bif evn x.at_ then endS x.own x.out x.many else x.out).length : Int) ≤ x.begun + 1
    cases evn x.at_ with
    | true => simp only [cond_true]; omega
    | false => simp only [cond_false]; omega
  · show 0 ≤ bif evn x.at_ then endM x.own x.many else x.many
    cases evn x.at_ with
    | true => simp only [cond_true]; omega
    | false => exact b7
  · show (bif evn x.at_ then endM x.own x.many else x.many) ≤ (x.begun + 1) * 1000000
    cases evn x.at_ with
    | true => simp only [cond_true]; omega
    | false => simp only [cond_false]; omega
theorem nextS_ok {d : List Int} (hd : DashOk d) {p : Pt} {m : Nat} {B : Int} (hB : 0 ≤ B) (hm : 1 ≤ m) (hm2 : m ≤ 1000000) : ∀ (f : Nat) {x : SS}, x.Ok d m B → (nextS d p f x).Ok d m B
  | 0, x, hx => hx
  | f + 1, x, hx => by
    unfold nextS
    by_cases hc : x.left = 0 ∧ x.begun ≤ 2400
    · rw [if_pos hc]; exact nextS_ok hd hB hm hm2 f (stepS_ok hd hB hm hm2 hx hc.2)
    · rw [if_neg hc]; exact hx
theorem nextS_ev {d : List Int} (hd : DashOk d) (p : Pt) {m : Nat} {B : Int} (hB : 0 ≤ B) (hm : 1 ≤ m) (hm2 : m ≤ 1000000) : ∀ (f : Nat) (x : SS), x.Ok d m B → (2401 - x.begun : Int) ≤ f →
    Ev (fun k => spec_l10Walk_next.l1 k d x.at_ x.left x.many x.begun p.1 p.2 x.own x.out) ((), ((nextS d p f x).tup d, ((), ()))) := by
  intro f
  induction f with
  | zero =>
    intro x hx hf
    have b1 := hx.begun1
    unfold nextS
    refine .step (fun k => spec_l10Walk_next.l1_eq k _ _ _ _ _ _ _ _ _) ?_
    by_cases hl : x.left = 0
    · exact .tt (ieq_t hl) (.ff (ile_f (by omega)) (.now _))
    · exact .ff (ieq_f hl) (.now _)
  | succ f ih =>
    intro x hx hf
    have b1 := hx.begun1
    unfold nextS
    refine .step (fun k => spec_l10Walk_next.l1_eq k _ _ _ _ _ _ _ _ _) ?_
    by_cases hl : x.left = 0
    · refine .tt (ieq_t hl) ?_
      by_cases hb : x.begun ≤ 2400
      · rw [if_pos ⟨hl, hb⟩]
        refine .tt (ile_t hb) ?_
        have hn := hd.nlt x.at_
        have b3 := hx.begun0
        have b5 := hx.own
        have b6 := hx.out
        have b7 := hx.many0
        have b8 := hx.many1
        have o1 : x.out.length ≤ 1000000000 := by omega
        have o2 : x.own.length ≤ 1000000000 := by omega
        have o3 : x.many ≤ 1000000000000 := by omega
        have hsucc := ih (stepS d p x) (stepS_ok hd hB hm hm2 hx hb) (by show (2401 - (x.begun + 1) : Int) ≤ f; omega)
        have hrem := hd.rem hx.at_
        have ebg : wr .i64 (iadd x.begun 1) = x.begun + 1 := by rw [iadd_, wr_id (by omega) (by omega)]
        have hlen : not_ (ieq (llen d) 0) = true := not_t (ieq_f (by rw [llen_]; have := hd.pos; omega))
        have hin : and_ (ile 0 ((nxt d x.at_ : Nat) : Int)) (ilt ((nxt d x.at_ : Nat) : Int) (llen d)) = true := in_t (Int.natCast_nonneg _) (Int.ofNat_lt.2 hn)
        cases he : evn x.at_ with
        | true =>
          refine .tt he (.bind (endS_ev d x.at_ x.left x.own x.out x.many x.begun o1 o2 b7 o3) ?_)
          simp only []
          rw [hrem, dv_get, ebg]
          refine .tt hlen (.tt hin ?_)
          unfold stepS at hsucc ⊢
          rw [he] at hsucc ⊢
          simp only [cond_true] at hsucc ⊢
          cases he2 : evn (nxt d x.at_) with
          | true =>
            refine .tt he2 ?_
            rw [he2, Bool.true_and] at hsucc
            cases hd0 : ilt 0 (dv d (nxt d x.at_)) with
            | true => rw [hd0] at hsucc; refine .tt rfl ?_; simpa only [cond_true, Bool.true_and, hd0] using hsucc
            | false => rw [hd0] at hsucc; refine .ff rfl ?_; simpa only [cond_false, Bool.true_and, hd0] using hsucc
          | false =>
            refine .ff he2 ?_
            rw [he2, Bool.false_and] at hsucc
            simpa only [cond_false, Bool.false_and] using hsucc
        | false =>
          refine .ff he ?_
          rw [hrem, dv_get, ebg]
          refine .tt hlen (.tt hin ?_)
          unfold stepS at hsucc ⊢
          rw [he] at hsucc ⊢
          simp only [cond_false] at hsucc ⊢
          cases he2 : evn (nxt d x.at_) with
          | true =>
            refine .tt he2 ?_
            rw [he2, Bool.true_and] at hsucc
            cases hd0 : ilt 0 (dv d (nxt d x.at_)) with
            | true => rw [hd0] at hsucc; refine .tt rfl ?_; simpa only [cond_true, Bool.true_and, hd0] using hsucc
            | false => rw [hd0] at hsucc; refine .ff rfl ?_; simpa only [cond_false, Bool.true_and, hd0] using hsucc
          | false =>
            refine .ff he2 ?_
            rw [he2, Bool.false_and] at hsucc
            simpa only [cond_false, Bool.false_and] using hsucc
      · rw [if_neg (fun h => hb h.2)]
        exact .ff (ile_f (by omega)) (.now _)
    · rw [if_neg (fun h => hl h.1)]
      exact .ff (ieq_f hl) (.now _)
/-- .. of the function itself. -/
theorem nextF_ev {d : List Int} (hd : DashOk d) (p : Pt) {m : Nat} {B : Int} (hB : 0 ≤ B) (hm : 1 ≤ m) (hm2 : m ≤ 1000000) (x : SS) (hx : x.Ok d m B) : Ev (fun k => spec_l10Walk_next.f k (x.tup d) p) ((), ((nextS d p 2402 x).tup d, ((), ()))) :=
  .step (fun k => spec_l10Walk_next.eq k _ _) (nextS_ev hd p hB hm hm2 2402 x hx (by have := hx.begun0; omega))
/-- The step from a number that is used up goes on. -/
theorem nextS_zero {d : List Int} {p : Pt} {f : Nat} {x : SS} (h0 : x.left = 0) (hb : x.begun ≤ 2400) : nextS d p (f + 1) x = nextS d p f (stepS d p x) := by
  rw [nextS, if_pos ⟨h0, hb⟩]
theorem nextS_mono {d : List Int} {p : Pt} : ∀ (f : Nat) (x : SS), x.many ≤ (nextS d p f x).many ∧ x.begun ≤ (nextS d p f x).begun
  | 0, x => ⟨Int.le_refl _, Int.le_refl _⟩
  | f + 1, x => by
    unfold nextS
    by_cases hc : x.left = 0 ∧ x.begun ≤ 2400
    · rw [if_pos hc]
      obtain ⟨h1, h2⟩ := nextS_mono (d := d) (p := p) f (stepS d p x)
      have e := endM_le x.own x.many
      have h3 : x.many ≤ (stepS d p x).many := by
        show x.many ≤ bif evn x.at_ then endM x.own x.many else x.many
        cases evn x.at_ with
        | true => exact e.1
        | false => exact Int.le_refl _
      have h4 : (stepS d p x).begun = x.begun + 1 := rfl
      omega
    · rw [if_neg hc]; exact ⟨Int.le_refl _, Int.le_refl _⟩
theorem own_le_nextS {d : List Int} {p : Pt} (m : Nat) (hm : 1 ≤ m) : ∀ (f : Nat) (x : SS), x.own.length ≤ m → (nextS d p f x).own.length ≤ m
  | 0, x, h => h
  | f + 1, x, h => by
    unfold nextS
    by_cases hc : x.left = 0 ∧ x.begun ≤ 2400
    · rw [if_pos hc]
      refine own_le_nextS m hm f _ ?_
      show (bif evn (nxt d x.at_) && ilt 0 (dv d (nxt d x.at_)) then [p] else bif evn x.at_ then [] else x.own).length ≤ m
      cases evn (nxt d x.at_) && ilt 0 (dv d (nxt d x.at_)) with
      | true => simpa using hm
      | false => cases evn x.at_ with
        | true => simp
        | false => exact h
    · rw [if_neg hc]; exact h
def segS (d : List Int) (a b : Pt) (n : Int) : Nat → Int → SS → SS
  | 0, s, x => x
  | f + 1, s, x =>
    if x.left < n - s ∧ x.many ≤ 600 ∧ x.begun ≤ 2400 then
      segS d a b n f (s + x.left) (nextS d (ptAt a b (s + x.left) n) 2402 { x with left := 0, own := passP x.at_ x.own (ptAt a b (s + x.left) n) })
    else if 0 < n then nextS d b 2402 { x with left := x.left - (n - s), own := passP x.at_ x.own b }
    else { x with left := x.left - (n - s) }
theorem segS_ev {d : List Int} (hd : DashOk d) (a b : Pt) (n : Int) (hn : 0 ≤ n) (hn2 : n ≤ 268435456) (m : Nat) {B : Int} (hB : 0 ≤ B) (hB2 : B ≤ 1000000000000) (hm : 1 ≤ m) (hm2 : m < 1000000) : ∀ (f : Nat) (s : Int) (x : SS), 0 ≤ s → s ≤ n → x.Ok d m B → (2402 - x.begun : Int) ≤ f →
    Ev (fun k => spec_l10Walk_segment.l3 k n s d x.at_ x.left x.many x.begun a.1 a.2 b.1 b.2 x.own x.out) ((), ((segS d a b n f s x).tup d, ((), ((), ())))) ∧ (segS d a b n f s x).Ok d (m + 1) (B + 268435456) := by
  intro f
  induction f with
  | zero => intro s x h0 h1 hx hf; have := hx.begun1; omega
  | succ f ih =>
    intro s x h0 h1 hx hf
    have b0 := hx.left0
    have b1 := hx.left1
    have b3 := hx.begun0
    have b4 := hx.begun1
    have b5 := hx.own
    have b6 := hx.out
    have e1 : wr .i64 (isub n s) = n - s := by rw [isub_, wr_id (by omega) (by omega)]
    have e2 : wr .i64 (isub x.left (n - s)) = x.left - (n - s) := by rw [isub_, wr_id (by omega) (by omega)]
    have e3 : wr .i64 (iadd s x.left) = s + x.left := by rw [iadd_, wr_id (by omega) (by omega)]
    unfold segS
    by_cases hc : x.left < n - s ∧ x.many ≤ 600 ∧ x.begun ≤ 2400
    · rw [if_pos hc]
      obtain ⟨c1, c2, c3⟩ := hc
      have hl0 := hx.good c2 c3
      have hn0 : 0 < n := by omega
      have hpl := passP_le x.at_ x.own (ptAt a b (s + x.left) n)
      have hy : (SS.mk x.at_ 0 (passP x.at_ x.own (ptAt a b (s + x.left) n)) x.out x.many x.begun).Ok d (m + 1) B :=
        ⟨hx.at_, by simp only []; omega, by simp only []; omega, b3, b4, by simp only []; omega, b6, hx.many0, hx.many1, fun _ _ => Int.le_refl _⟩
      have hnx := nextS_ok hd (p := ptAt a b (s + x.left) n) hB (by omega) (by omega) 2402 hy
      -- behind the step the place is told anew: it is short
      have hown : (nextS d (ptAt a b (s + x.left) n) 2402 (SS.mk x.at_ 0 (passP x.at_ x.own (ptAt a b (s + x.left) n)) x.out x.many x.begun)).own.length ≤ m := by
        have h0s : (nextS d (ptAt a b (s + x.left) n) 2402 (SS.mk x.at_ 0 (passP x.at_ x.own (ptAt a b (s + x.left) n)) x.out x.many x.begun)) = _ := nextS_zero (f := 2401) rfl c3
        rw [h0s]
        refine own_le_nextS m hm 2401 _ ?_
        show (bif evn (nxt d x.at_) && ilt 0 (dv d (nxt d x.at_)) then [ptAt a b (s + x.left) n] else bif evn x.at_ then [] else passP x.at_ x.own (ptAt a b (s + x.left) n)).length ≤ m
        cases evn (nxt d x.at_) && ilt 0 (dv d (nxt d x.at_)) with
        | true => simpa using hm
        | false =>
          cases he : evn x.at_ with
          | true => simp
          | false =>
            have : passP x.at_ x.own (ptAt a b (s + x.left) n) = x.own := by unfold passP; rw [show ieq (irem (x.at_ : Int) 2) 0 = false from he]; rfl
            simp only [cond_false]; rw [this]; exact b5
      have hx2 : (nextS d (ptAt a b (s + x.left) n) 2402 (SS.mk x.at_ 0 (passP x.at_ x.own (ptAt a b (s + x.left) n)) x.out x.many x.begun)).Ok d m B :=
        { hnx with own := hown }
      have hbg : x.begun + 1 ≤ (nextS d (ptAt a b (s + x.left) n) 2402 (SS.mk x.at_ 0 (passP x.at_ x.own (ptAt a b (s + x.left) n)) x.out x.many x.begun)).begun := by
        have h0s : (nextS d (ptAt a b (s + x.left) n) 2402 (SS.mk x.at_ 0 (passP x.at_ x.own (ptAt a b (s + x.left) n)) x.out x.many x.begun)) = _ := nextS_zero (f := 2401) rfl c3
        rw [h0s]
        exact (nextS_mono 2401 _).2
      obtain ⟨k1, k2⟩ := ih (s + x.left) _ (by omega) (by omega) hx2 (by omega)
      refine ⟨.step (fun k => spec_l10Walk_segment.l3_eq k _ _ _ _ _ _ _ _ _ _ _ _ _) ?_, k2⟩
      rw [e1, e3]
      exact .tt (ilt_t c1) (.tt (ile_t c2) (.tt (ile_t c3) (.bind (downS_ev hn0) (.bind (downS_ev hn0) (.bind (add_ev d x.at_ 0 x.own x.out x.many x.begun (ptAt a b (s + x.left) n) (by omega)) (.bind (nextF_ev hd (ptAt a b (s + x.left) n) hB (by omega) (by omega) _ hy) k1))))))
    · rw [if_neg hc]
      have good : x.many ≤ 600 → x.begun ≤ 2400 → 0 ≤ x.left - (n - s) := fun g1 g2 => by
        have : ¬ x.left < n - s := fun h => hc ⟨h, g1, g2⟩
        omega
      have tail : Ev (fun k => bif ilt 0 n then ((spec_l10Walk_add.f k (d, ((x.at_ : Int), (x.left - (n - s), (x.own, (x.out, (x.many, (x.begun, ()))))))) (b.1, b.2)).bind fun r0 => ((spec_l10Walk_next.f k (r0.2.1.1, (r0.2.1.2.1, (r0.2.1.2.2.1, (r0.2.1.2.2.2.1, (r0.2.1.2.2.2.2.1, (r0.2.1.2.2.2.2.2.1, (r0.2.1.2.2.2.2.2.2.1, ()))))))) (b.1, b.2)).bind fun r1 => some ((), ((r1.2.1.1, (r1.2.1.2.1, (r1.2.1.2.2.1, (r1.2.1.2.2.2.1, (r1.2.1.2.2.2.2.1, (r1.2.1.2.2.2.2.2.1, (r1.2.1.2.2.2.2.2.2.1, ()))))))), ((), ((), ())))))) else some ((), ((d, ((x.at_ : Int), (x.left - (n - s), (x.own, (x.out, (x.many, (x.begun, ()))))))), ((), ((), ())))))
          ((), ((if 0 < n then nextS d b 2402 { x with left := x.left - (n - s), own := passP x.at_ x.own b } else { x with left := x.left - (n - s) }).tup d, ((), ((), ())))) ∧ (if 0 < n then nextS d b 2402 { x with left := x.left - (n - s), own := passP x.at_ x.own b } else { x with left := x.left - (n - s) }).Ok d (m + 1) (B + 268435456) := by
        by_cases hn0 : 0 < n
        · rw [if_pos hn0]
          have hpl := passP_le x.at_ x.own b
          have hy : (SS.mk x.at_ (x.left - (n - s)) (passP x.at_ x.own b) x.out x.many x.begun).Ok d (m + 1) (B + 268435456) :=
            ⟨hx.at_, by simp only []; omega, by simp only []; omega, b3, b4, by simp only []; omega, b6, hx.many0, hx.many1, good⟩
          exact ⟨.tt (ilt_t hn0) (.bind (add_ev d x.at_ _ x.own x.out x.many x.begun b (by omega)) (.bind (nextF_ev hd b (by omega) (by omega) (by omega) _ hy) (.now _))), nextS_ok hd (by omega) (by omega) (by omega) 2402 hy⟩
        · rw [if_neg hn0]
          exact ⟨.ff (ilt_f (by omega)) (.now _), ⟨hx.at_, by simp only []; omega, by simp only []; omega, b3, b4, by simp only []; omega, b6, hx.many0, hx.many1, good⟩⟩
      refine ⟨.step (fun k => spec_l10Walk_segment.l3_eq k _ _ _ _ _ _ _ _ _ _ _ _ _) ?_, tail.2⟩
      rw [e1, e2]
      by_cases c1 : x.left < n - s
      · refine .tt (ilt_t c1) ?_
        by_cases c2 : x.many ≤ 600
        · refine .tt (ile_t c2) ?_
          by_cases c3 : x.begun ≤ 2400
          · exact absurd ⟨c1, c2, c3⟩ hc
          · exact .ff (ile_f (by omega)) tail.1
        · exact .ff (ile_f (by omega)) tail.1
      · exact .ff (ilt_f (by omega)) tail.1

end Go.Proofs.Ytigkodlbjimikaa.VFnExactDashed
