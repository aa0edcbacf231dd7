/- FnCodes, as numbers: no code of a complete row begins another one. -/
import Derived.Test.YtdmndbehfdnneaaCurFnCodes
import Derived.Test.YtdmndbehfdnneaaInFnCodes
import Derived.Test.YtdmndbehfdnneaaSteps
namespace Go.Proofs.Ytdmndbehfdnneaa.Pure
open Go.RowKit Go.Proofs.Ytdmndbehfdnneaa.HFnCodes Go.Proofs.YtdmndbehfdnneaaW.PrintWords Go.Proofs.YtdmndbehfdnneaaW.PrintLast Go.Proofs.Ytdmndbehfdnneaa.Plain
set_option linter.unusedSimpArgs false
set_option linter.unusedVariables false

/-! ### lengths are drawn -/
theorem draw1 {c : List Int} (hc : Bytes c) : ∀ (d : Nat) (l : List Int) (i : Nat) (a s : Int), i + d = l.length → l.length ≤ 40 → 0 < l.length → At a (1000 + 10 * i) → ∃ r, Ev (fun k => spec_DrawCodesOf.l1 k l l.length i c a s) r ∧ r.length ≤ 400 := by
  intro d
  induction d with
  | zero =>
    intro l i a s hi hl h0 ha
    obtain ⟨p, a1, s1, e1, hp, ha1⟩ := pick_ hc s 12 ha (by omega)
    by_cases h1 : p = 0
    · obtain ⟨q, a2, s2, e2, hq, ha2⟩ := pick_ hc s1 18 ha1 (by omega)
      exact ⟨_, ev_some fun k => by rw [spec_DrawCodesOf.l1, if_neg (by omega), e1, Option.bind_some, if_pos h1, e2, Option.bind_some, if_pos (by omega)], by simp; omega⟩
    · by_cases h2 : p = 1
      · obtain ⟨q, a2, s2, e2, hq, ha2⟩ := pick_ hc s1 2 ha1 (by omega)
        have hq2 := hq.2 (by omega)
        have w : wrap64 ((wrap64 (300 - (l.length : Int))) + q) = 300 - l.length + q := by rw [wrap_id (n := 300 - (l.length : Int)) (by omega) (by omega), wrap_id (by omega) (by omega)]
        refine ⟨_, ev_some fun k => by rw [spec_DrawCodesOf.l1, if_neg (by omega), e1, Option.bind_some, if_neg h1, if_pos h2, e2, Option.bind_some, w, if_pos (by omega), if_pos (by omega)], ?_⟩
        rw [List.length_append, List.length_replicate]; omega
      · exact ⟨_, ev_some fun k => by rw [spec_DrawCodesOf.l1, if_neg (by omega), e1, Option.bind_some, if_neg h1, if_neg h2], by omega⟩
  | succ d ih =>
    intro l i a s hi hl h0 ha
    have wi : wrap64 ((i : Int) + 1) = ((i + 1 : Nat) : Int) := by rw [wrap_id (by omega) (by omega)]; rfl
    by_cases hz : rd l i = 0
    · obtain ⟨r, h1, h2⟩ := ih l (i + 1) a s (by omega) hl h0 (at_le ha (by omega))
      refine ⟨r, Ev.step (f := fun k => spec_DrawCodesOf.l1 k l l.length ((i + 1 : Nat) : Int) c a s) (fun k => ?_) h1, h2⟩
      rw [spec_DrawCodesOf.l1, if_pos (by omega), if_pos (by omega), if_pos (by omega), if_pos hz, wi]
    · obtain ⟨p, a1, s1, e1, hp, ha1⟩ := pick_ hc s (l.length : Int) ha (by omega)
      have hp2 := hp.2 (by omega)
      obtain ⟨b, a2, s2, e2, ha2⟩ := one_ hc s1 2 ha1 (by omega)
      cases b with
      | false =>
        obtain ⟨r, h1, h2⟩ := ih l (i + 1) a2 s2 (by omega) hl h0 (at_le ha2 (by omega))
        refine ⟨r, Ev.step (f := fun k => spec_DrawCodesOf.l1 k l l.length ((i + 1 : Nat) : Int) c a2 s2) (fun k => ?_) h1, h2⟩
        rw [spec_DrawCodesOf.l1, if_pos (by omega), if_pos (by omega), if_pos (by omega), if_neg hz, e1, Option.bind_some]
        simp only [e2, Option.bind_some, Bool.false_eq_true, if_false, wi]
      | true =>
        have hlen : ((l.set (i : Int).toNat (rd l p)).set p.toNat (rd l i)).length = l.length := by simp
        obtain ⟨r, h1, h2⟩ := ih ((l.set (i : Int).toNat (rd l p)).set p.toNat (rd l i)) (i + 1) a2 s2 (by omega) (by omega) (by omega) (at_le ha2 (by omega))
        rw [hlen] at h1
        refine ⟨r, Ev.step (f := fun k => spec_DrawCodesOf.l1 k ((l.set (i : Int).toNat (rd l p)).set p.toNat (rd l i)) l.length ((i + 1 : Nat) : Int) c a2 s2) (fun k => ?_) h1, h2⟩
        rw [spec_DrawCodesOf.l1, if_pos (by omega), if_pos (by omega), if_pos (by omega), if_neg hz, e1, Option.bind_some]
        simp only [e2, Option.bind_some, if_true, if_pos hp.1, if_pos hp2, wi]
theorem draw0 {c : List Int} (hc : Bytes c) : ∀ (d : Nat) (l : List Int) (a s : Int), l.length + 2 * d ≤ 40 → 0 < l.length → At a (1000 - 10 * d) → d ≤ 20 → ∃ r, Ev (fun k => spec_DrawCodesOf.l0 k l d c a s) r ∧ r.length ≤ 400 := by
  intro d
  induction d with
  | zero =>
    intro l a s hl h0 ha hd
    obtain ⟨r, h1, h2⟩ := draw1 hc l.length l 0 a s (by omega) (by omega) h0 (at_le ha (by omega))
    exact ⟨r, Ev.step (f := fun k => spec_DrawCodesOf.l1 k l l.length 0 c a s) (fun k => by rw [spec_DrawCodesOf.l0, if_neg (by simp)]) h1, h2⟩
  | succ d ih =>
    intro l a s hl h0 ha hd
    have wd : wrap64 (((d + 1 : Nat) : Int) - 1) = (d : Int) := by rw [wrap_id (by omega) (by omega)]; omega
    obtain ⟨p, a1, s1, e1, hp, ha1⟩ := pick_ hc s (l.length : Int) ha (by omega)
    have hp2 := hp.2 (by omega)
    obtain ⟨b, a2, s2, e2, ha2⟩ := one_ hc s1 4 ha1 (by omega)
    have hd0 : ((d + 1 : Nat) : Int) > 0 := by omega
    by_cases h15 : rd l p < 15
    · obtain ⟨y, hy⟩ : ∃ y : List Int, y = l.set p.toNat (wrap64 (rd l p + 1)) := ⟨_, rfl⟩
      have n1 : y.length = l.length := by rw [hy]; simp
      cases b with
      | false =>
        obtain ⟨r, h1, h2⟩ := ih (y ++ [rd y p]) a2 s2 (by simp; omega) (by simp) (at_le ha2 (by omega)) (by omega)
        refine ⟨r, Ev.step (f := fun k => spec_DrawCodesOf.l0 k (y ++ [rd y p]) d c a2 s2) (fun k => ?_) h1, h2⟩
        rw [spec_DrawCodesOf.l0, if_pos hd0, e1, Option.bind_some, if_pos hp.1, if_pos hp2, if_pos h15]
        simp only [Option.bind_some, ← hy]
        rw [if_pos (by omega)]
        simp only [Option.bind_some, e2, Bool.false_eq_true, if_false, wd]
      | true =>
        obtain ⟨r, h1, h2⟩ := ih (y ++ [rd y p] ++ [0]) a2 s2 (by simp; omega) (by simp) (at_le ha2 (by omega)) (by omega)
        refine ⟨r, Ev.step (f := fun k => spec_DrawCodesOf.l0 k (y ++ [rd y p] ++ [0]) d c a2 s2) (fun k => ?_) h1, h2⟩
        rw [spec_DrawCodesOf.l0, if_pos hd0, e1, Option.bind_some, if_pos hp.1, if_pos hp2, if_pos h15]
        simp only [Option.bind_some, ← hy]
        rw [if_pos (by omega)]
        simp only [Option.bind_some, e2, if_true, wd]
        rw [if_pos (by simp; omega)]
    · cases b with
      | false =>
        obtain ⟨r, h1, h2⟩ := ih l a2 s2 (by omega) h0 (at_le ha2 (by omega)) (by omega)
        refine ⟨r, Ev.step (f := fun k => spec_DrawCodesOf.l0 k l d c a2 s2) (fun k => ?_) h1, h2⟩
        rw [spec_DrawCodesOf.l0, if_pos hd0, e1, Option.bind_some, if_pos hp.1, if_pos hp2, if_neg h15]
        simp only [Option.bind_some, e2, Bool.false_eq_true, if_false, wd]
      | true =>
        obtain ⟨r, h1, h2⟩ := ih (l ++ [0]) a2 s2 (by simp; omega) (by simp) (at_le ha2 (by omega)) (by omega)
        refine ⟨r, Ev.step (f := fun k => spec_DrawCodesOf.l0 k (l ++ [0]) d c a2 s2) (fun k => ?_) h1, h2⟩
        rw [spec_DrawCodesOf.l0, if_pos hd0, e1, Option.bind_some, if_pos hp.1, if_pos hp2, if_neg h15]
        simp only [Option.bind_some, e2, if_true, wd]
        rw [if_pos (by omega)]
theorem drawn {c : List Int} (hc : Bytes c) : ∃ r, Ev (fun k => spec_DrawCodesOf.f k c) r ∧ r.length ≤ 400 := by
  obtain ⟨p, a1, s1, e1, hp, ha1⟩ := pick_ hc (a := 0) (n := 0) 0 20 ⟨by omega, by omega⟩ (by omega)
  have hp2 := hp.2 (by omega)
  obtain ⟨d, rfl⟩ := Int.eq_ofNat_of_zero_le hp.1
  obtain ⟨r, h1, h2⟩ := draw0 hc d [1, 1] a1 s1 (by simp; omega) (by simp) (at_le ha1 (by omega)) (by omega)
  refine ⟨r, ?_, h2⟩
  unfold spec_DrawCodesOf.f
  simp only [Option.bind_some, e1]
  exact h1

/-! ### codes -/
/-- The i-th length. -/
def lv (l : List Int) (i : Nat) : Int := rd l (i : Int)
/-- How many of the first i lengths are b. -/
def cnt (l : List Int) (b : Nat) : Nat → Nat
  | 0 => 0
  | i + 1 => cnt l b i + (if lv l i = b then 1 else 0)
/-- The code behind all of length b. -/
def cod (l : List Int) : Nat → Nat
  | 0 => 0
  | b + 1 => 2 * cod l b + cnt l (b + 1) l.length
/-- The code of the i-th. -/
def own (l : List Int) (i : Nat) : Nat := 2 * cod l ((lv l i).toNat - 1) + cnt l (lv l i).toNat i
def done (l : List Int) (b i j : Nat) : Prop := 1 ≤ lv l j ∧ (lv l j < b ∨ lv l j = b ∧ j < i)
instance (l : List Int) (b i j : Nat) : Decidable (done l b i j) := by unfold done; exact inferInstance
def row (l : List Int) (b i : Nat) : List Int := (List.range l.length).map fun j => if done l b i j then ((own l j : Nat) : Int) else 0
theorem cnt_le (l : List Int) (b i : Nat) : cnt l b i ≤ i := by
  induction i with
  | zero => exact Nat.le_refl _
  | succ i ih => simp only [cnt]; split <;> omega
theorem cod_le (l : List Int) (hl : l.length ≤ 300) : ∀ b, b ≤ 15 → cod l b + 300 ≤ 300 * 2 ^ b := by
  intro b
  induction b with
  | zero => intro _; simp [cod]
  | succ b ih =>
    intro hb
    have := ih (by omega)
    have h2 := cnt_le l (b + 1) l.length
    have h3 : 1 ≤ 2 ^ b := Nat.one_le_two_pow
    simp only [cod, Nat.pow_succ]
    omega
theorem row_len (l : List Int) (b i : Nat) : (row l b i).length = l.length := by simp [row]
theorem row_set (l : List Int) (b i : Nat) (hi : i < l.length) (h : lv l i = b) (hb : 1 ≤ b) : (row l b i).set i ((own l i : Nat) : Int) = row l b (i + 1) := by
  apply List.ext_getElem
  · simp [row_len]
  · intro j h1 h2
    rw [List.getElem_set]
    simp only [row, List.getElem_map, List.getElem_range]
    by_cases e : i = j
    · subst e
      rw [if_pos rfl, if_pos (show done l b (i + 1) i from ⟨by omega, .inr ⟨h, by omega⟩⟩)]
    · rw [if_neg e]
      have : done l b i j ↔ done l b (i + 1) j := ⟨fun g => ⟨g.1, g.2.imp id fun q => ⟨q.1, by omega⟩⟩, fun g => ⟨g.1, g.2.imp id fun q => ⟨q.1, by omega⟩⟩⟩
      by_cases g : done l b i j
      · rw [if_pos g, if_pos (this.1 g)]
      · rw [if_neg g, if_neg (fun q => g (this.2 q))]
theorem row_same (l : List Int) (b i : Nat) (h : ¬ lv l i = b) : row l b i = row l b (i + 1) := by
  unfold row
  refine List.map_congr_left fun j hj => ?_
  have : done l b i j ↔ done l b (i + 1) j := by
    refine ⟨fun g => ⟨g.1, g.2.imp id fun q => ⟨q.1, by omega⟩⟩, fun g => ⟨g.1, g.2.imp id fun q => ⟨q.1, ?_⟩⟩⟩
    rcases Nat.lt_or_ge j i with c | c
    · exact c
    · have : j = i := by omega
      subst this
      exact absurd q.1 h
  by_cases g : done l b i j
  · rw [if_pos g, if_pos (this.1 g)]
  · rw [if_neg g, if_neg (fun q => g (this.2 q))]
theorem row_next (l : List Int) (b : Nat) : row l b l.length = row l (b + 1) 0 := by
  unfold row
  refine List.map_congr_left fun j hj => ?_
  have hj' := List.mem_range.1 hj
  have : done l b l.length j ↔ done l (b + 1) 0 j := by
    refine ⟨fun g => ⟨g.1, .inl ?_⟩, fun g => ⟨g.1, ?_⟩⟩
    · rcases g.2 with q | q
      · omega
      · have := q.1; omega
    · rcases g.2 with q | q
      · rcases (by omega : lv l j < b ∨ lv l j = b) with c | c
        · exact .inl c
        · exact .inr ⟨c, hj'⟩
      · exact absurd q.2 (by omega)
  by_cases g : done l b l.length j
  · rw [if_pos g, if_pos (this.1 g)]
  · rw [if_neg g, if_neg (fun q => g (this.2 q))]
theorem row_first (l : List Int) : row l 1 0 = List.replicate l.length 0 := by
  apply List.ext_getElem
  · simp [row_len]
  · intro j h1 h2
    simp only [row, List.getElem_map, List.getElem_range, List.getElem_replicate]
    rw [if_neg]
    intro g
    rcases g.2 with q | q
    · have := g.1; omega
    · exact absurd q.2 (by omega)

/-! ### no code begins another one -/
theorem cnt_mono (l : List Int) (b : Nat) {i j : Nat} (h : i ≤ j) : cnt l b i ≤ cnt l b j := by
  induction j with
  | zero => rw [show i = 0 by omega]; exact Nat.le_refl _
  | succ j ih =>
    rcases Nat.lt_or_ge i (j + 1) with c | c
    · have := ih (by omega); simp only [cnt]; omega
    · rw [show i = j + 1 by omega]; exact Nat.le_refl _
theorem own_lt (l : List Int) {i : Nat} (hi : i < l.length) (h1 : 1 ≤ lv l i) : own l i < cod l (lv l i).toNat := by
  obtain ⟨b, hb⟩ : ∃ b : Nat, (lv l i).toNat = b + 1 := ⟨(lv l i).toNat - 1, by omega⟩
  unfold own
  rw [hb]
  show 2 * cod l (b + 1 - 1) + cnt l (b + 1) i < 2 * cod l b + cnt l (b + 1) l.length
  have := cnt_mono l (b + 1) (show i + 1 ≤ l.length from hi)
  have e : cnt l (b + 1) (i + 1) = cnt l (b + 1) i + 1 := by simp only [cnt]; rw [if_pos (by omega)]
  rw [show b + 1 - 1 = b by omega]
  omega
theorem cod_grow (l : List Int) (b d : Nat) : cod l b * 2 ^ d ≤ cod l (b + d) := by
  induction d with
  | zero => simp
  | succ d ih =>
    show cod l b * 2 ^ (d + 1) ≤ 2 * cod l (b + d) + cnt l (b + d + 1) l.length
    rw [Nat.pow_succ, ← Nat.mul_assoc]
    omega
theorem no_front (l : List Int) {i j : Nat} (hi : i < l.length) (hj : j < l.length) (hne : i ≠ j) (h1 : 1 ≤ lv l i) (h2 : lv l i ≤ lv l j) : own l j / 2 ^ ((lv l j).toNat - (lv l i).toNat) ≠ own l i := by
  have hlt := own_lt l hi h1
  obtain ⟨d, hd⟩ : ∃ d : Nat, (lv l j).toNat = (lv l i).toNat + d := ⟨(lv l j).toNat - (lv l i).toNat, by omega⟩
  rw [show (lv l j).toNat - (lv l i).toNat = d by omega]
  cases d with
  | zero =>
    have e : lv l j = lv l i := by omega
    rw [Nat.pow_zero, Nat.div_one]
    unfold own
    rw [e]
    intro h
    have hc : ∀ u v : Nat, u < v → lv l u = lv l i → cnt l (lv l i).toNat u < cnt l (lv l i).toNat v := by
      intro u v huv hu
      have := cnt_mono l (lv l i).toNat (show u + 1 ≤ v from huv)
      have e2 : cnt l (lv l i).toNat (u + 1) = cnt l (lv l i).toNat u + 1 := by simp only [cnt]; rw [if_pos (by omega)]
      omega
    rcases Nat.lt_or_ge i j with c | c
    · have := hc i j c rfl; omega
    · have := hc j i (by omega) e; omega
  | succ d =>
    have hg := cod_grow l (lv l i).toNat d
    have hown : 2 * cod l ((lv l i).toNat + d) ≤ own l j := by
      unfold own
      rw [hd, show (lv l i).toNat + (d + 1) - 1 = (lv l i).toNat + d by omega]
      omega
    have : cod l (lv l i).toNat ≤ own l j / 2 ^ (d + 1) := by
      rw [Nat.le_div_iff_mul_le (Nat.two_pow_pos _), Nat.pow_succ, ← Nat.mul_assoc]
      omega
    omega

/-! ### the loops -/
theorem shl_fin : ∀ m : Fin 15, shl .i64 1 (m.val : Int) = ((2 ^ m.val : Nat) : Int) := by decide
theorem shl_pow {m : Nat} (h : m ≤ 14) : shl .i64 1 (m : Int) = ((2 ^ m : Nat) : Int) := shl_fin ⟨m, by omega⟩
/-- How much all of length at most B take, of the first i. -/
def lev (l : List Int) (i : Nat) : Nat → Nat
  | 0 => 0
  | b + 1 => lev l i b + cnt l (b + 1) i * 2 ^ (15 - (b + 1))
theorem lev_step (l : List Int) (i : Nat) : ∀ B, lev l (i + 1) B = lev l i B + (if 1 ≤ lv l i ∧ lv l i ≤ B then 2 ^ (15 - (lv l i).toNat) else 0) := by
  intro B
  induction B with
  | zero => simp only [lev]; rw [if_neg (by omega)]
  | succ B ih =>
    simp only [lev, ih, cnt]
    by_cases h : lv l i = ((B + 1 : Nat) : Int)
    · rw [if_pos h, if_neg (by omega), if_pos (by omega), Nat.add_mul, show (lv l i).toNat = B + 1 by omega]; omega
    · rw [if_neg h, Nat.add_zero]
      by_cases g : 1 ≤ lv l i ∧ lv l i ≤ B
      · rw [if_pos g, if_pos (by omega)]; omega
      · rw [if_neg g, if_neg (by omega)]; omega
theorem lev_zero (l : List Int) : ∀ B, lev l 0 B = 0 := by
  intro B
  induction B with
  | zero => rfl
  | succ B ih => simp only [lev, ih, cnt]; omega
theorem pow_le {m : Nat} (h : m ≤ 14) : 2 ^ m ≤ 16384 := Nat.pow_le_pow_right (by omega) (show m ≤ 14 from h)
theorem lev_le (l : List Int) (i : Nat) : ∀ B, lev l i B ≤ B * (i * 16384) := by
  intro B
  induction B with
  | zero => simp [lev]
  | succ B ih =>
    have h1 := cnt_le l (B + 1) i
    have h2 : cnt l (B + 1) i * 2 ^ (15 - (B + 1)) ≤ i * 16384 := Nat.mul_le_mul h1 (pow_le (by omega))
    simp only [lev, Nat.add_mul]
    omega
theorem wi_ {i n : Nat} (h : i < n) (hn : n ≤ 1048576) : wrap64 ((i : Int) + 1) = ((i + 1 : Nat) : Int) := by rw [wrap_id (by omega) (by omega)]; rfl
theorem cod16 (l : List Int) (hl : l.length ≤ 300) {b : Nat} (hb : b ≤ 15) : cod l b ≤ 9830400 := by
  have h := cod_le l hl b hb
  have : 2 ^ b ≤ 2 ^ 15 := Nat.pow_le_pow_right (by omega) hb
  omega
theorem own_at (l : List Int) {i b : Nat} (h : lv l i = ((b + 1 : Nat) : Int)) : own l i = 2 * cod l b + cnt l (b + 1) i := by
  unfold own
  rw [h]
  show 2 * cod l (b + 1 - 1) + cnt l (b + 1) i = _
  rw [show b + 1 - 1 = b by omega]
theorem cnt_yes (l : List Int) {i b : Nat} (h : lv l i = (b : Int)) : cnt l b (i + 1) = cnt l b i + 1 := by simp only [cnt]; rw [if_pos h]
theorem cnt_no (l : List Int) {i b : Nat} (h : ¬ lv l i = (b : Int)) : cnt l b (i + 1) = cnt l b i := by simp only [cnt]; rw [if_neg h, Nat.add_zero]
/-- One level, by both sides. -/
theorem implLevel (l : List Int) (hl : l.length ≤ 300) (b : Nat) (hb : b < 15) (R : List Int × Int)
    (h : Ev (fun k => impl_codesBy.l0 k l (row l (b + 1 + 1) 0) ((lev l l.length (b + 1) : Nat) : Int) ((cod l (b + 1) : Nat) : Int) ((b + 1 + 1 : Nat) : Int)) R) :
    Ev (fun k => impl_codesBy.l0 k l (row l (b + 1) 0) ((lev l l.length b : Nat) : Int) ((cod l b : Nat) : Int) ((b + 1 : Nat) : Int)) R := by
  have hc := cod16 l hl (show b ≤ 15 by omega)
  have key : ∀ i, i ≤ l.length → Ev (fun k => impl_codesBy.l1 k l (row l (b + 1) i) ((lev l l.length b + cnt l (b + 1) i * 2 ^ (15 - (b + 1)) : Nat) : Int) ((2 * cod l b + cnt l (b + 1) i : Nat) : Int) ((b + 1 : Nat) : Int) l l.length (i : Nat)) R := by
    refine up (p := fun i => Ev (fun k => impl_codesBy.l1 k l (row l (b + 1) i) ((lev l l.length b + cnt l (b + 1) i * 2 ^ (15 - (b + 1)) : Nat) : Int) ((2 * cod l b + cnt l (b + 1) i : Nat) : Int) ((b + 1 : Nat) : Int) l l.length (i : Nat)) R) l.length ?_ ?_
    · refine Ev.step (f := fun k => impl_codesBy.l0 k l (row l (b + 1 + 1) 0) ((lev l l.length (b + 1) : Nat) : Int) ((cod l (b + 1) : Nat) : Int) ((b + 1 + 1 : Nat) : Int)) (fun k => ?_) h
      rw [impl_codesBy.l1, if_neg (by omega), row_next, wrap_id (n := ((b + 1 : Nat) : Int) + 1) (by omega) (by omega)]
      rfl
    · intro i hi ih
      have w := wi_ hi (by omega)
      have hle := cnt_le l (b + 1) i
      have e : rd l (i : Int) = lv l i := rfl
      by_cases hv : lv l i = ((b + 1 : Nat) : Int)
      · refine Ev.step (f := fun k => impl_codesBy.l1 k l (row l (b + 1) (i + 1)) ((lev l l.length b + cnt l (b + 1) (i + 1) * 2 ^ (15 - (b + 1)) : Nat) : Int) ((2 * cod l b + cnt l (b + 1) (i + 1) : Nat) : Int) ((b + 1 : Nat) : Int) l l.length ((i + 1 : Nat) : Int)) (fun k => ?_) ih
        have hp := pow_le (m := 15 - (b + 1)) (by omega)
        have h15 : wrap64 (15 - ((b + 1 : Nat) : Int)) = ((15 - (b + 1) : Nat) : Int) := by rw [wrap_id (by omega) (by omega)]; omega
        have hb2 : cnt l (b + 1) i * 2 ^ (15 - (b + 1)) ≤ 300 * 16384 := Nat.mul_le_mul (by omega) hp
        have hl2 := lev_le l l.length b
        have hl3 : b * (l.length * 16384) ≤ 15 * (300 * 16384) := Nat.mul_le_mul (by omega) (Nat.mul_le_mul hl (Nat.le_refl _))
        have hS : ∀ L c P : Nat, L ≤ 73728000 → P ≤ 16384 → c * P ≤ 300 * 16384 → wrap64 (((L + c * P : Nat) : Int) + (P : Int)) = ((L + (c + 1) * P : Nat) : Int) := by
          intro L c P h0 h1 h2
          rw [Nat.add_mul, Nat.one_mul]
          generalize c * P = Q at *
          rw [wrap_id (by omega) (by omega)]
          omega
        have hC : wrap64 (((2 * cod l b + cnt l (b + 1) i : Nat) : Int) + 1) = ((2 * cod l b + (cnt l (b + 1) i + 1) : Nat) : Int) := by rw [wrap_id (by omega) (by omega)]; omega
        rw [impl_codesBy.l1, if_pos (by omega), if_pos (by omega), if_pos (by omega), e, if_pos hv, if_pos (by rw [row_len]; omega), h15, if_pos (by omega), shl_pow (by omega), w, Int.toNat_natCast, hC, hS _ _ _ (by omega) hp hb2, ← row_set l (b + 1) i hi hv (by omega), own_at l hv, cnt_yes l hv]
      · refine Ev.step (f := fun k => impl_codesBy.l1 k l (row l (b + 1) (i + 1)) ((lev l l.length b + cnt l (b + 1) (i + 1) * 2 ^ (15 - (b + 1)) : Nat) : Int) ((2 * cod l b + cnt l (b + 1) (i + 1) : Nat) : Int) ((b + 1 : Nat) : Int) l l.length ((i + 1 : Nat) : Int)) (fun k => ?_) ih
        rw [impl_codesBy.l1, if_pos (by omega), if_pos (by omega), if_pos (by omega), e, if_neg hv, w, ← row_same l (b + 1) i hv, cnt_no l hv]
  refine Ev.step (f := fun k => impl_codesBy.l1 k l (row l (b + 1) 0) ((lev l l.length b + cnt l (b + 1) 0 * 2 ^ (15 - (b + 1)) : Nat) : Int) ((2 * cod l b + cnt l (b + 1) 0 : Nat) : Int) ((b + 1 : Nat) : Int) l l.length ((0 : Nat) : Int)) (fun k => ?_) (key 0 (Nat.zero_le _))
  rw [impl_codesBy.l0, if_pos (by omega), wrap_id (n := ((cod l b : Nat) : Int) * 2) (by omega) (by omega)]
  simp only [cnt]
  congr 1 <;> omega
/-- One level of the reference's. -/
theorem specLevel (l : List Int) (hl : l.length ≤ 300) (b : Nat) (hb : b < 15) (R : List Int)
    (h : Ev (fun k => spec_l2Codes.l0 k l (row l (b + 1 + 1) 0) ((cod l (b + 1) : Nat) : Int) ((b + 1 + 1 : Nat) : Int)) R) :
    Ev (fun k => spec_l2Codes.l0 k l (row l (b + 1) 0) ((cod l b : Nat) : Int) ((b + 1 : Nat) : Int)) R := by
  have hc := cod16 l hl (show b ≤ 15 by omega)
  have key : ∀ i, i ≤ l.length → Ev (fun k => spec_l2Codes.l1 k l (row l (b + 1) i) ((2 * cod l b + cnt l (b + 1) i : Nat) : Int) ((b + 1 : Nat) : Int) l l.length (i : Nat)) R := by
    refine up (p := fun i => Ev (fun k => spec_l2Codes.l1 k l (row l (b + 1) i) ((2 * cod l b + cnt l (b + 1) i : Nat) : Int) ((b + 1 : Nat) : Int) l l.length (i : Nat)) R) l.length ?_ ?_
    · refine Ev.step (f := fun k => spec_l2Codes.l0 k l (row l (b + 1 + 1) 0) ((cod l (b + 1) : Nat) : Int) ((b + 1 + 1 : Nat) : Int)) (fun k => ?_) h
      rw [spec_l2Codes.l1, if_neg (by omega), row_next, wrap_id (n := ((b + 1 : Nat) : Int) + 1) (by omega) (by omega)]
      rfl
    · intro i hi ih
      have w := wi_ hi (by omega)
      have hle := cnt_le l (b + 1) i
      have e : rd l (i : Int) = lv l i := rfl
      by_cases hv : lv l i = ((b + 1 : Nat) : Int)
      · refine Ev.step (f := fun k => spec_l2Codes.l1 k l (row l (b + 1) (i + 1)) ((2 * cod l b + cnt l (b + 1) (i + 1) : Nat) : Int) ((b + 1 : Nat) : Int) l l.length ((i + 1 : Nat) : Int)) (fun k => ?_) ih
        have hC : wrap64 (((2 * cod l b + cnt l (b + 1) i : Nat) : Int) + 1) = ((2 * cod l b + (cnt l (b + 1) i + 1) : Nat) : Int) := by rw [wrap_id (by omega) (by omega)]; omega
        rw [spec_l2Codes.l1, if_pos (by omega), if_pos (by omega), if_pos (by omega), e, if_pos hv, if_pos (by rw [row_len]; omega), w, Int.toNat_natCast, hC, ← row_set l (b + 1) i hi hv (by omega), own_at l hv, cnt_yes l hv]
      · refine Ev.step (f := fun k => spec_l2Codes.l1 k l (row l (b + 1) (i + 1)) ((2 * cod l b + cnt l (b + 1) (i + 1) : Nat) : Int) ((b + 1 : Nat) : Int) l l.length ((i + 1 : Nat) : Int)) (fun k => ?_) ih
        rw [spec_l2Codes.l1, if_pos (by omega), if_pos (by omega), if_pos (by omega), e, if_neg hv, w, ← row_same l (b + 1) i hv, cnt_no l hv]
  refine Ev.step (f := fun k => spec_l2Codes.l1 k l (row l (b + 1) 0) ((2 * cod l b + cnt l (b + 1) 0 : Nat) : Int) ((b + 1 : Nat) : Int) l l.length ((0 : Nat) : Int)) (fun k => ?_) (key 0 (Nat.zero_le _))
  rw [spec_l2Codes.l0, if_pos (by omega), wrap_id (n := ((cod l b : Nat) : Int) * 2) (by omega) (by omega)]
  simp only [cnt]
  congr 1 <;> omega
theorem implCodes (l : List Int) (hl : l.length ≤ 300) : Ev (fun k => impl_codesBy.f k l) (row l 16 0, ((lev l l.length 15 : Nat) : Int)) := by
  have key : ∀ d b, b + d = 15 → Ev (fun k => impl_codesBy.l0 k l (row l (b + 1) 0) ((lev l l.length b : Nat) : Int) ((cod l b : Nat) : Int) ((b + 1 : Nat) : Int)) (row l 16 0, ((lev l l.length 15 : Nat) : Int)) := by
    intro d
    induction d with
    | zero =>
      intro b hb
      obtain rfl : b = 15 := by omega
      exact ev_some fun k => by rw [impl_codesBy.l0, if_neg (by omega)]
    | succ d ih => intro b hb; exact implLevel l hl b (by omega) _ (ih (b + 1) (by omega))
  have h := key 15 0 rfl
  unfold impl_codesBy.f
  simp only [if_pos (show (0 : Int) ≤ l.length by omega), if_pos (show (l.length : Int).toNat ≤ 35184372088832 by omega)]
  rw [row_first] at h
  exact h
theorem specCodes (l : List Int) (hl : l.length ≤ 300) : Ev (fun k => spec_l2Codes.f k l) (row l 16 0) := by
  have key : ∀ d b, b + d = 15 → Ev (fun k => spec_l2Codes.l0 k l (row l (b + 1) 0) ((cod l b : Nat) : Int) ((b + 1 : Nat) : Int)) (row l 16 0) := by
    intro d
    induction d with
    | zero =>
      intro b hb
      obtain rfl : b = 15 := by omega
      exact ev_some fun k => by rw [spec_l2Codes.l0, if_neg (by omega)]
    | succ d ih => intro b hb; exact specLevel l hl b (by omega) _ (ih (b + 1) (by omega))
  have h := key 15 0 rfl
  unfold spec_l2Codes.f
  simp only [if_pos (show (0 : Int) ≤ l.length by omega), if_pos (show (l.length : Int).toNat ≤ 35184372088832 by omega)]
  rw [row_first] at h
  exact h
def goodLen (l : List Int) (i : Nat) : Bool := decide (0 ≤ lv l i ∧ lv l i ≤ 15)
theorem specFull (l : List Int) (hl : l.length ≤ 300) (hg : ∀ i, i < l.length → 0 ≤ lv l i ∧ lv l i ≤ 15) : Ev (fun k => spec_l2Full.f k l) (((lev l l.length 15 : Nat) : Int) == 32768) := by
  have key : ∀ i, i ≤ l.length → Ev (fun k => spec_l2Full.l0 k ((lev l i 15 : Nat) : Int) l l.length (i : Nat)) (((lev l l.length 15 : Nat) : Int) == 32768) := by
    refine up (p := fun i => Ev (fun k => spec_l2Full.l0 k ((lev l i 15 : Nat) : Int) l l.length (i : Nat)) (((lev l l.length 15 : Nat) : Int) == 32768)) l.length ?_ ?_
    · exact ev_some fun k => by rw [spec_l2Full.l0, if_neg (by omega)]
    · intro i hi ih
      have w := wi_ hi (by omega)
      have e : rd l (i : Int) = lv l i := rfl
      have g := hg i hi
      refine Ev.step (f := fun k => spec_l2Full.l0 k ((lev l (i + 1) 15 : Nat) : Int) l l.length ((i + 1 : Nat) : Int)) (fun k => ?_) ih
      rw [spec_l2Full.l0, if_pos (by omega), if_pos (by omega), if_pos (by omega), e, w, lev_step]
      by_cases h : lv l i > 0
      · obtain ⟨m, hm⟩ : ∃ m : Nat, (15 - (lv l i).toNat) = m := ⟨_, rfl⟩
        have hs : IntKind.u64.wrap (wrap64 (15 - lv l i)) = (m : Int) := by rw [wrap_id (by omega) (by omega), IntKind.wrap_u64]; omega
        have hp := pow_le (m := m) (by omega)
        have hle := lev_le l i 15
        rw [if_pos h, hs, if_pos (by omega), shl_pow (by omega), if_pos (by omega), hm]
        generalize 2 ^ m = P at hp ⊢
        rw [wrap_id (by omega) (by omega)]
        rfl
      · rw [if_neg h, if_neg (by omega)]
        rfl
  have := key 0 (Nat.zero_le _)
  rw [lev_zero] at this
  exact this
theorem guard_ev {ρ : Type} (P : Nat → Bool) (n : Nat) (hn : n ≤ 9223372036854775806) (g : Nat → Int → Option ρ) (bad R : ρ)
    (h : ∀ k (i : Nat), i < n → g (k + 1) i = if P i = true then g k (wrap64 ((i : Int) + 1)) else some bad) (he : (∀ i, i < n → P i = true) → Ev (fun k => g k n) R) : Ev (fun k => g k 0) (if (List.range n).all P = true then R else bad) := by
  by_cases hc : ∀ i, i < n → P i = true
  · rw [if_pos (by rw [List.all_eq_true]; intro i hi; exact hc i (List.mem_range.1 hi))]
    have key : ∀ i, i ≤ n → Ev (fun k => g k (i : Nat)) R := by
      refine up (p := fun i => Ev (fun k => g k (i : Nat)) R) n (he hc) ?_
      intro i hi ih
      refine Ev.step (f := fun k => g k ((i + 1 : Nat) : Int)) (fun k => ?_) ih
      rw [h k i hi, if_pos (hc i hi), wrap_id (by omega) (by omega)]; rfl
    exact key 0 (Nat.zero_le _)
  · rw [if_neg (by rw [List.all_eq_true]; exact fun q => hc fun i hi => q i (List.mem_range.2 hi))]
    have key : ∀ d i, i + d = n → (¬ ∀ j, i ≤ j → j < n → P j = true) → Ev (fun k => g k (i : Nat)) bad := by
      intro d
      induction d with
      | zero => intro i hi hq; exact absurd (fun j a b => by omega) hq
      | succ d ih =>
        intro i hi hq
        cases hP : P i
        · exact ev_some fun k => by rw [h k i (by omega), hP]; rfl
        · refine Ev.step (f := fun k => g k ((i + 1 : Nat) : Int)) (fun k => ?_) (ih (i + 1) (by omega) fun q => hq fun j a b => ?_)
          · rw [h k i (by omega), hP, if_pos rfl, wrap_id (by omega) (by omega)]; rfl
          · rcases Nat.lt_or_ge i j with c | c
            · exact q j c b
            · rw [show j = i by omega]; exact hP
    exact key n 0 (by omega) (fun q => hc fun i hi => q i (Nat.zero_le _) hi)
def codesOf (l : List Int) : List Int × Bool := if l.length > 300 then ([], false) else if (List.range l.length).all (goodLen l) = true then (if ((lev l l.length 15 : Nat) : Int) = 32768 then (row l 16 0, true) else ([], false)) else ([], false)
theorem implOf (l : List Int) : Ev (fun k => impl_CodesOf.f k l) (codesOf l) := by
  unfold impl_CodesOf.f codesOf
  by_cases hl : l.length > 300
  · simp only [if_pos hl, if_pos (show (l.length : Int) > 300 by omega)]; exact Ev.now _
  simp only [if_neg hl, if_neg (show ¬ (l.length : Int) > 300 by omega)]
  refine guard_ev (goodLen l) l.length (by omega) (fun k i => impl_CodesOf.l0 k l l l.length i) ([], false) _ (fun k i hi => ?_) (fun hg => ?_)
  · show impl_CodesOf.l0 (k + 1) l l l.length i = _
    rw [impl_CodesOf.l0, if_pos (by omega), if_pos (by omega), if_pos (by omega), within_]; rfl
  · refine Ev.step (f := fun k => (impl_codesBy.f k l).bind fun bt176 => (if bt176.2 = 32768 then (some (bt176.1, true)) else (some (([] : List Int), false)))) (fun k => by rw [impl_CodesOf.l0, if_neg (by omega)]) ?_
    refine Ev.bind (implCodes l (by omega)) (ev_const fun k => ?_)
    by_cases h : ((lev l l.length 15 : Nat) : Int) = 32768
    · simp only [if_pos h]
    · simp only [if_neg h]
theorem specOf (l : List Int) : Ev (fun k => spec_CodesOf.f k l) (codesOf l) := by
  unfold spec_CodesOf.f codesOf
  by_cases hl : l.length > 300
  · simp only [if_pos hl, if_pos (show (l.length : Int) > 300 by omega)]; exact Ev.now _
  simp only [if_neg hl, if_neg (show ¬ (l.length : Int) > 300 by omega)]
  refine guard_ev (goodLen l) l.length (by omega) (fun k i => spec_CodesOf.l0 k l l l.length i) ([], false) _ (fun k i hi => ?_) (fun hg => ?_)
  · show spec_CodesOf.l0 (k + 1) l l l.length i = _
    rw [spec_CodesOf.l0, if_pos (by omega), if_pos (by omega), if_pos (by omega), in_]; rfl
  · refine Ev.step (f := fun k => ((spec_l2Full.f k l).bind fun t188 => (if t188 = true then ((spec_l2Codes.f k l).bind fun t189 => (some (t189, true))) else (some (([] : List Int), false))))) (fun k => by rw [spec_CodesOf.l0, if_neg (by omega)]) ?_
    refine Ev.bind (specFull l (by omega) (fun i hi => by simpa [goodLen] using hg i hi)) ?_
    by_cases h : ((lev l l.length 15 : Nat) : Int) = 32768
    · simp only [if_pos h, beq_iff_eq]
      exact Ev.bind (specCodes l (by omega)) (Ev.now _)
    · simp only [if_neg h, beq_iff_eq]
      exact Ev.now _
theorem same_ev (l : List Int) (hl : l.length ≤ 1048576) : Ev (fun k => laws_sameInts.f k l l) true := by
  unfold laws_sameInts.f
  simp only [if_true]
  refine all_evs l.length (by omega) (fun k i => laws_sameInts.l0 k l l l.length i) (fun i R hi hR => ?_) (fun k => by
    show laws_sameInts.l0 (k + 1) l l l.length _ = _
    rw [laws_sameInts.l0, if_neg (by omega)])
  refine Ev.step (f := fun k => laws_sameInts.l0 k l l l.length (wrap64 ((i : Int) + 1))) (fun k => ?_) hR
  show laws_sameInts.l0 (k + 1) l l l.length i = _
  rw [laws_sameInts.l0, if_pos (by omega), if_pos (by omega), if_pos (by omega), if_pos (by omega), if_pos rfl]
theorem row_at (l : List Int) {j : Nat} (hj : j < l.length) (h1 : 1 ≤ lv l j) (h2 : lv l j ≤ 15) : rd (row l 16 0) (j : Int) = ((own l j : Nat) : Int) := by
  rw [rd_nat _ _ (by rw [row_len]; exact hj)]
  simp only [row, List.getElem_map, List.getElem_range]
  rw [if_pos (show done l 16 0 j from ⟨h1, .inl (by omega)⟩)]
theorem no_begin (l : List Int) (hl : l.length ≤ 300) (hg : ∀ i, i < l.length → 0 ≤ lv l i ∧ lv l i ≤ 15) : Ev (fun k => laws_FnCodes.l0 k l (row l 16 0) l l.length 0) true := by
  have hr := row_len l 16 0
  have h := all2_ev l.length (fun _ => l.length) (fun _ _ => true) (by omega) (fun _ _ => by omega) (fun k i => laws_FnCodes.l0 k l (row l 16 0) l l.length i) (fun k i j => laws_FnCodes.l1 k l (row l 16 0) (i : Nat) (rd l (i : Int)) l l.length (i : Nat) l l.length j)
    (fun k i hi => by
      show laws_FnCodes.l0 (k + 1) l (row l 16 0) l l.length i = _
      rw [laws_FnCodes.l0, if_pos (by omega), if_pos (by omega), if_pos (by omega)])
    (fun k => by
      show laws_FnCodes.l0 (k + 1) l (row l 16 0) l l.length _ = _
      rw [laws_FnCodes.l0, if_neg (by omega)])
    (fun k i j hi hj => by
      show laws_FnCodes.l1 (k + 1) l (row l 16 0) (i : Nat) (lv l i) l l.length (i : Nat) l l.length j = laws_FnCodes.l1 k l (row l 16 0) (i : Nat) (lv l i) l l.length (i : Nat) l l.length (wrap64 ((j : Int) + 1))
      have e : rd l (j : Int) = lv l j := rfl
      have gi := hg i hi
      have gj := hg j hj
      rw [laws_FnCodes.l1, if_pos (by omega), if_pos (by omega), if_pos (by omega), e]
      by_cases h1 : (i : Int) = j
      · rw [if_pos h1]
      rw [if_neg h1]
      by_cases h2 : lv l i > 0
      · rw [if_pos h2]
        by_cases h3 : lv l j ≥ lv l i
        · have hs : IntKind.u64.wrap (wrap64 (lv l j - lv l i)) = (((lv l j).toNat - (lv l i).toNat : Nat) : Int) := by rw [wrap_id (by omega) (by omega), IntKind.wrap_u64]; omega
          have nf := no_front l hi hj (by omega) (by omega) h3
          rw [if_pos h3, if_pos (by omega), hs, if_pos (by omega), if_pos (by omega), if_pos (by omega), row_at l hj (by omega) gj.2, row_at l hi (by omega) gi.2]
          rw [if_neg]
          intro hq
          apply nf
          have hd : (lv l j).toNat - (lv l i).toNat ≤ 15 := by omega
          generalize (lv l j).toNat - (lv l i).toNat = d at hq hd ⊢
          unfold shr at hq
          rw [Int.toNat_natCast, Nat.min_eq_left (by show d ≤ 64; omega)] at hq
          have : (((own l j) / 2 ^ d : Nat) : Int) = ((own l i : Nat) : Int) := by rw [← hq]; simp
          omega
        · rw [if_neg h3]
      · rw [if_neg h2])
    (fun k i hi => by
      show laws_FnCodes.l1 (k + 1) l (row l 16 0) (i : Nat) (lv l i) l l.length (i : Nat) l l.length (l.length : Int) = _
      rw [laws_FnCodes.l1, if_neg (by omega)])
  have e : ((List.range l.length).all fun i => (List.range l.length).all fun _ => true) = true := by simp
  rw [e] at h
  exact h
theorem FnCodes : laws_FnCodes.Pure := by
  intro c _ hc1 hc2
  have hc : Bytes c := ⟨fun x hx => by have h := bounds_u8 (hc2 x hx); omega, by omega⟩
  refine Ev.rounds ?_
  unfold laws_FnCodes.f
  by_cases h : (c.length : Int) > 1048576
  · simp only [if_pos h]; exact Ev.now _
  simp only [if_neg h]
  obtain ⟨l, hd, hl⟩ := drawn hc
  refine Ev.bind hd (Ev.bind (implOf l) (Ev.bind (specOf l) ?_))
  have hlen : (codesOf l).1.length ≤ 1048576 := by
    unfold codesOf
    repeat' split
    all_goals simp [row_len]
    all_goals omega
  simp only [bne_self_eq_false, Bool.false_eq_true, if_false]
  refine Ev.bind (same_ev _ hlen) ?_
  simp only [Bool.not_true]
  by_cases ho : (codesOf l).2 = true
  · have hh : l.length ≤ 300 ∧ (∀ i, i < l.length → 0 ≤ lv l i ∧ lv l i ≤ 15) ∧ (codesOf l).1 = row l 16 0 := by
      unfold codesOf at ho ⊢
      by_cases g1 : l.length > 300
      · rw [if_pos g1] at ho; cases ho
      rw [if_neg g1] at ho ⊢
      by_cases g2 : (List.range l.length).all (goodLen l) = true
      · rw [if_pos g2] at ho ⊢
        by_cases g3 : ((lev l l.length 15 : Nat) : Int) = 32768
        · rw [if_pos g3] at ho ⊢
          refine ⟨by omega, fun i hi => ?_, rfl⟩
          have := List.all_eq_true.1 g2 i (List.mem_range.2 hi)
          simpa [goodLen] using this
        · rw [if_neg g3] at ho; cases ho
      · rw [if_neg g2] at ho; cases ho
    rw [ho, hh.2.2]
    exact Ev.step (f := fun k => laws_FnCodes.l0 k l (row l 16 0) l l.length 0) (fun k => by rw [laws_FnCodes.j0, if_neg (by simp), if_pos rfl]) (no_begin l hh.1 hh.2.1)
  · have hh : (codesOf l).1 = [] := by
      unfold codesOf at ho ⊢
      by_cases g1 : l.length > 300
      · rw [if_pos g1]
      rw [if_neg g1] at ho ⊢
      by_cases g2 : (List.range l.length).all (goodLen l) = true
      · rw [if_pos g2] at ho ⊢
        by_cases g3 : ((lev l l.length 15 : Nat) : Int) = 32768
        · rw [if_pos g3] at ho; exact absurd rfl ho
        · rw [if_neg g3]
      · rw [if_neg g2]
    rw [hh]
    exact ev_some fun k => by rw [laws_FnCodes.j0, if_neg (by simp), if_neg ho]; rfl

end Go.Proofs.Ytdmndbehfdnneaa.Pure
