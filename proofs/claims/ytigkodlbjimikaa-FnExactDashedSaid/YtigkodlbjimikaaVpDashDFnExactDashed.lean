/- Dashes: both sides' segments tell the same. -/
import Derived.Test.YtigkodlbjimikaaVpDashCFnExactDashed
namespace Go.Proofs.Ytigkodlbjimikaa.VFnExactDashed
open Go Go.RowKit Go.Proofs.Ytigkodlbjimikaa.Vc Go.Proofs.Ytigkodlbjimikaa.Vp
set_option linter.unusedVariables false
set_option linter.unusedSimpArgs false

/-- How many points lines have. -/
def tot : List Ln → Int
  | [] => 0
  | x :: l => x.1.length + tot l
theorem tot_append : ∀ (a b : List Ln), tot (a ++ b) = tot a + tot b
  | [], b => by simp [tot]
  | x :: l, b => by simp only [List.cons_append, tot, tot_append l b]; omega
theorem tot_nn : ∀ a, 0 ≤ tot a
  | [] => Int.le_refl _
  | x :: l => by have := tot_nn l; unfold tot; omega
theorem tot_endP (own : List Pt) (out : List Ln) : tot (endP own out) = endM own (tot out) := by
  unfold endP endM
  split
  · rw [tot_append]; simp [tot]
  · rfl
theorem endS_endP (own : List Pt) (out : List Ln) (h : tot (endP own out) ≤ 600) : endS own out (tot out) = endP own out := by
  rw [tot_endP] at h
  unfold endM at h
  unfold endS endP
  by_cases hc : 1 < own.length
  · rw [if_pos hc] at h ⊢
    rw [if_pos ⟨hc, h⟩]
  · rw [if_neg hc, if_neg (fun h => hc h.1)]
def syn (x : SI) : SS := ⟨x.at_, x.left, x.own, x.out, tot x.out, x.begun⟩
def bad (s : SS) : Prop := 600 < s.many ∨ 2400 < s.begun
/-- How a segment of both sides ends. -/
def Both (r : Bool × SI) (s : SS) : Prop :=
  (r.1 = true ∧ s = syn r.2 ∧ tot r.2.out ≤ 600 ∧ r.2.begun ≤ 2400 ∧ 0 < r.2.left ∧ (evn r.2.at_ = false → r.2.own = [])) ∨ (bad s ∧ (r.1 = true → 600 < tot r.2.out))
theorem evn_f {at_ : Nat} (h : evn at_ = false) : ieq (irem (at_ : Int) 2) 0 = false := h
theorem passP_odd {at_ : Nat} (h : evn at_ = false) (own : List Pt) (p : Pt) : passP at_ own p = own := by unfold passP; rw [evn_f h]; rfl
theorem passP_nil {at_ : Nat} (h : evn at_ = true) (p : Pt) : passP at_ [] p = [p] := by unfold passP; rw [show ieq (irem (at_ : Int) 2) 0 = true from h]; rfl
theorem passP_last (at_ : Nat) (p : Pt) : passP at_ (passP at_ [] p) p = passP at_ [] p := by
  cases h : evn at_ with
  | false => rw [passP_odd h, passP_odd h]
  | true =>
    rw [passP_nil h]
    unfold passP
    rw [show ieq (irem (at_ : Int) 2) 0 = true from h]
    have e : lastPt [p] = p := rfl
    rw [e, show ieq (([p] : List Pt).length : Int) 0 = false from rfl, ieq_t rfl, ieq_t rfl]
    rfl
theorem endP_short {own : List Pt} (h : own.length ≤ 1) (out : List Ln) : endP own out = out := if_neg (by omega)
theorem segS_mono {d : List Int} {a b : Pt} {n : Int} : ∀ (f : Nat) (s : Int) (x : SS), x.many ≤ (segS d a b n f s x).many ∧ x.begun ≤ (segS d a b n f s x).begun
  | 0, s, x => ⟨Int.le_refl _, Int.le_refl _⟩
  | f + 1, s, x => by
    unfold segS
    by_cases hc : x.left < n - s ∧ x.many ≤ 600 ∧ x.begun ≤ 2400
    · rw [if_pos hc]
      obtain ⟨h1, h2⟩ := nextS_mono (d := d) (p := ptAt a b (s + x.left) n) 2402 { x with left := 0, own := passP x.at_ x.own (ptAt a b (s + x.left) n) }
      obtain ⟨h3, h4⟩ := segS_mono (d := d) (a := a) (b := b) (n := n) f (s + x.left) (nextS d (ptAt a b (s + x.left) n) 2402 { x with left := 0, own := passP x.at_ x.own (ptAt a b (s + x.left) n) })
      exact ⟨Int.le_trans h1 h3, Int.le_trans h2 h4⟩
    · rw [if_neg hc]
      split
      · exact nextS_mono (d := d) (p := b) 2402 { x with left := x.left - (n - s), own := passP x.at_ x.own b }
      · exact ⟨Int.le_refl _, Int.le_refl _⟩
theorem segI_tot {d : List Int} {a b : Pt} {n : Int} : ∀ (f : Nat) (s : Int) (x : SI), tot x.out ≤ tot (segI d a b n f s x).2.out
  | 0, s, x => Int.le_refl _
  | f + 1, s, x => by
    unfold segI
    split
    · exact Int.le_refl _
    · have e : ∀ p : Pt, tot x.out ≤ tot (endP (passP x.at_ x.own p) x.out) := fun p => by rw [tot_endP]; exact (endM_le _ _).1
      simp only []
      split
      · exact e _
      · exact Int.le_trans (e _) (segI_tot f _ _)
def contS (d : List Int) (a b : Pt) (n : Int) (g : Nat) (s : Int) (y : SS) : SS := if s < n then segS d a b n g s y else y
theorem contS_mono {d : List Int} {a b : Pt} {n : Int} (g : Nat) (s : Int) (y : SS) : y.many ≤ (contS d a b n g s y).many ∧ y.begun ≤ (contS d a b n g s y).begun := by
  unfold contS
  split
  · exact segS_mono g s y
  · exact ⟨Int.le_refl _, Int.le_refl _⟩
theorem nextS_pos {d : List Int} {p : Pt} {f : Nat} {x : SS} (h : x.left ≠ 0) : nextS d p f x = x := by
  cases f with
  | zero => rfl
  | succ f => rw [nextS, if_neg (fun e => h e.1)]
theorem bad_of {s s' : SS} (h : s.many ≤ s'.many ∧ s.begun ≤ s'.begun) (hb : bad s) : bad s' := by
  rcases hb with hb | hb
  · exact .inl (by omega)
  · exact .inr (by omega)
/-- The program's state behind a step. -/
def stepI (d : List Int) (p : Pt) (x : SI) : SI := ⟨nxt d x.at_, dv d (nxt d x.at_), x.begun + 1, passP (nxt d x.at_) [] p, endP (passP x.at_ x.own p) x.out⟩
theorem segI_step {d : List Int} {a b : Pt} {n : Int} {f : Nat} {s : Int} {x : SI} (h : ¬ n < s + x.left) (p : Pt) (hp : p = if s + x.left < n then ptAt a b (s + x.left) n else b) :
    segI d a b n (f + 1) s x = if 2400 < x.begun + 1 then (false, stepI d p x) else segI d a b n f (s + x.left) (stepI d p x) := by
  rw [segI, if_neg h]
  simp only [← hp]
  rfl
/-- The step of both sides, told by each other. -/
theorem step_both {d : List Int} {p : Pt} {x : SI} (hodd : evn x.at_ = false → x.own = []) {own : List Pt} (ho : own = passP x.at_ x.own p) {l : Int} :
    (stepS d p ⟨x.at_, l, own, x.out, tot x.out, x.begun⟩).many = tot (stepI d p x).out ∧ (tot (stepI d p x).out ≤ 600 → stepS d p ⟨x.at_, l, own, x.out, tot x.out, x.begun⟩ = ⟨(stepI d p x).at_, (stepI d p x).left, bif evn (stepI d p x).at_ && ilt 0 (stepI d p x).left then [p] else [], (stepI d p x).out, tot (stepI d p x).out, (stepI d p x).begun⟩) := by
  subst ho
  unfold stepS stepI
  simp only []
  cases he : evn x.at_ with
  | true =>
    simp only [cond_true]
    exact ⟨(tot_endP _ _).symm, fun h => by rw [endS_endP _ _ h, tot_endP]⟩
  | false =>
    simp only [cond_false]
    rw [passP_odd he, hodd he, endP_short (by simp)]
    exact ⟨rfl, fun _ => rfl⟩
theorem simH {d : List Int} {a b : Pt} {n : Int} (hn : 0 < n) (f : Nat)
    (IH : ∀ (s : Int) (x : SI) (h g : Nat) (p : Pt), 0 ≤ s → s ≤ n → (p = if s < n then ptAt a b s n else b) → 0 ≤ x.left → 0 ≤ x.begun → x.begun ≤ 2400 → tot x.out ≤ 600 → x.own = passP x.at_ [] p → (2401 - x.begun : Int) ≤ f → (2401 - x.begun : Int) ≤ h → (2402 - x.begun : Int) ≤ g →
      Both (segI d a b n f s x) (contS d a b n g s (nextS d p h ⟨x.at_, x.left, bif evn x.at_ && ilt 0 x.left then [p] else [], x.out, tot x.out, x.begun⟩)))
    (hdv : ∀ i, 0 ≤ dv d (nxt d i)) (s : Int) (x : SI) (g : Nat) (h0 : 0 ≤ s) (h1 : s < n) (hl : 0 < x.left) (hb0 : 0 ≤ x.begun) (hb : x.begun ≤ 2400) (ht : tot x.out ≤ 600) (hodd : evn x.at_ = false → x.own = []) (hf : (2401 - x.begun : Int) ≤ f + 1) (hg : (2402 - x.begun : Int) ≤ g) :
    Both (segI d a b n (f + 1) s x) (segS d a b n g s (syn x)) := by
  obtain ⟨g, rfl⟩ : ∃ m, g = m + 1 := ⟨g - 1, by omega⟩
  by_cases hc : n < s + x.left
  · refine .inl ?_
    have e1 : segI d a b n (f + 1) s x = (true, { x with left := x.left - (n - s), own := passP x.at_ x.own b }) := by rw [segI, if_pos hc]
    have e2 : segS d a b n (g + 1) s (syn x) = { (syn x) with left := x.left - (n - s), own := passP x.at_ x.own b } := by
      rw [segS, if_neg (fun h => by have h := h.1; simp only [syn] at h; omega), if_pos hn]
      exact nextS_pos (by simp only [syn]; omega)
    rw [e1, e2]
    refine ⟨rfl, rfl, ht, hb, by simp only []; omega, fun he => ?_⟩
    simp only [] at he ⊢
    rw [passP_odd he]; exact hodd he
  · have hq : s + x.left ≤ n := by omega
    obtain ⟨p, hp⟩ : ∃ p : Pt, p = if s + x.left < n then ptAt a b (s + x.left) n else b := ⟨_, rfl⟩
    have e1 := segI_step (d := d) (f := f) hc p hp
    have e2 : segS d a b n (g + 1) s (syn x) = contS d a b n g (s + x.left) (nextS d p 2402 ⟨x.at_, 0, passP x.at_ x.own p, x.out, tot x.out, x.begun⟩) := by
      rw [segS]
      by_cases hlt : s + x.left < n
      · rw [if_pos (show (syn x).left < n - s ∧ (syn x).many ≤ 600 ∧ (syn x).begun ≤ 2400 from ⟨by simp only [syn]; omega, ht, hb⟩)]
        rw [if_pos hlt] at hp
        unfold contS
        rw [if_pos hlt, hp]
        rfl
      · rw [if_neg (show ¬ ((syn x).left < n - s ∧ (syn x).many ≤ 600 ∧ (syn x).begun ≤ 2400) from fun h => by have h := h.1; simp only [syn] at h; omega), if_pos hn]
        rw [if_neg hlt] at hp
        unfold contS
        rw [if_neg hlt, hp]
        have : x.left - (n - s) = 0 := by omega
        simp only [syn, this]
    rw [e1, e2, nextS_zero (f := 2401) rfl hb]
    obtain ⟨k1, k2⟩ := step_both (d := d) (p := p) hodd (own := passP x.at_ x.own p) rfl (l := 0)
    have m1 := nextS_mono (d := d) (p := p) 2401 (stepS d p ⟨x.at_, 0, passP x.at_ x.own p, x.out, tot x.out, x.begun⟩)
    have m2 := contS_mono (d := d) (a := a) (b := b) (n := n) g (s + x.left) (nextS d p 2401 (stepS d p ⟨x.at_, 0, passP x.at_ x.own p, x.out, tot x.out, x.begun⟩))
    have m3 : (stepS d p ⟨x.at_, 0, passP x.at_ x.own p, x.out, tot x.out, x.begun⟩).begun = x.begun + 1 := rfl
    by_cases hbg : 2400 < x.begun + 1
    · rw [if_pos hbg]
      exact .inr ⟨.inr (by omega), fun e => by cases e⟩
    · rw [if_neg hbg]
      by_cases hT : tot (stepI d p x).out ≤ 600
      · rw [k2 hT]
        exact IH (s + x.left) (stepI d p x) 2401 g p (by omega) hq hp (hdv _) (by show 0 ≤ x.begun + 1; omega) (by show x.begun + 1 ≤ 2400; omega) hT rfl (by show (2401 - (x.begun + 1) : Int) ≤ f; omega) (by show (2401 - (x.begun + 1) : Int) ≤ (2401 : Nat); omega) (by show (2402 - (x.begun + 1) : Int) ≤ g; omega)
      · refine .inr ⟨.inl (by omega), fun _ => ?_⟩
        have := segI_tot (d := d) (a := a) (b := b) (n := n) f (s + x.left) (stepI d p x)
        omega
theorem simK {d : List Int} {a b : Pt} {n : Int} (hn : 0 < n) (hdv : ∀ i, 0 ≤ dv d (nxt d i)) : ∀ (f : Nat) (s : Int) (x : SI) (h g : Nat) (p : Pt), 0 ≤ s → s ≤ n → (p = if s < n then ptAt a b s n else b) → 0 ≤ x.left → 0 ≤ x.begun → x.begun ≤ 2400 → tot x.out ≤ 600 → x.own = passP x.at_ [] p → (2401 - x.begun : Int) ≤ f → (2401 - x.begun : Int) ≤ h → (2402 - x.begun : Int) ≤ g →
      Both (segI d a b n f s x) (contS d a b n g s (nextS d p h ⟨x.at_, x.left, bif evn x.at_ && ilt 0 x.left then [p] else [], x.out, tot x.out, x.begun⟩)) := by
  intro f
  induction f with
  | zero => intro s x h g p h0 h1 hp hl hb0 hb ht ho hf hh hg; omega
  | succ f ih =>
    intro s x h g p h0 h1 hp hl hb0 hb ht ho hf hh hg
    have hodd : evn x.at_ = false → x.own = [] := fun he => by rw [ho, passP_odd he]
    by_cases hz : x.left = 0
    · obtain ⟨h, rfl⟩ : ∃ m, h = m + 1 := ⟨h - 1, by omega⟩
      have hp' : p = if s + x.left < n then ptAt a b (s + x.left) n else b := by rw [hz, Int.add_zero]; exact hp
      rw [segI_step (d := d) (f := f) (x := x) (s := s) (by omega) p hp', nextS_zero hz hb]
      have eo : passP x.at_ x.own p = x.own := by rw [ho, passP_last]
      have own1 : x.own.length ≤ 1 := by rw [ho]; have := passP_le x.at_ [] p; simpa using this
      have out1 : (stepI d p x).out = x.out := by show endP (passP x.at_ x.own p) x.out = x.out; rw [eo, endP_short own1]
      have es : stepS d p ⟨x.at_, x.left, bif evn x.at_ && ilt 0 x.left then [p] else [], x.out, tot x.out, x.begun⟩ = ⟨(stepI d p x).at_, (stepI d p x).left, bif evn (stepI d p x).at_ && ilt 0 (stepI d p x).left then [p] else [], (stepI d p x).out, tot (stepI d p x).out, (stepI d p x).begun⟩ := by
        rw [out1]
        unfold stepS
        rw [hz, ilt_f (Int.le_refl 0), Bool.and_false]
        simp only [cond_false]
        rw [show endS [] x.out (tot x.out) = x.out from if_neg (fun h => by simp at h), show endM [] (tot x.out) = tot x.out from if_neg (by simp)]
        cases evn x.at_ <;> rfl
      rw [es]
      have m1 := nextS_mono (d := d) (p := p) h ⟨(stepI d p x).at_, (stepI d p x).left, bif evn (stepI d p x).at_ && ilt 0 (stepI d p x).left then [p] else [], (stepI d p x).out, tot (stepI d p x).out, (stepI d p x).begun⟩
      have m2 := contS_mono (d := d) (a := a) (b := b) (n := n) g s (nextS d p h ⟨(stepI d p x).at_, (stepI d p x).left, bif evn (stepI d p x).at_ && ilt 0 (stepI d p x).left then [p] else [], (stepI d p x).out, tot (stepI d p x).out, (stepI d p x).begun⟩)
      have m3 : (stepI d p x).begun = x.begun + 1 := rfl
      by_cases hbg : 2400 < x.begun + 1
      · rw [if_pos hbg]
        refine .inr ⟨.inr ?_, fun e => by cases e⟩
        have := m1.2
        simp only [] at this
        omega
      · rw [if_neg hbg, hz, Int.add_zero]
        exact ih s (stepI d p x) h g p h0 h1 hp (hdv _) (by omega) (by omega) (by rw [out1]; exact ht) rfl (by omega) (by omega) (by omega)
    · have hpos : 0 < x.left := by omega
      rw [nextS_pos (by exact hz), ilt_t hpos, Bool.and_true]
      have eo : (bif evn x.at_ then [p] else []) = x.own := by
        rw [ho]
        cases he : evn x.at_ with
        | true => rw [passP_nil he]; rfl
        | false => rw [passP_odd he]; rfl
      rw [eo]
      unfold contS
      by_cases hlt : s < n
      · rw [if_pos hlt]
        exact simH hn f ih hdv s x g h0 hlt hpos hb0 hb ht hodd (by omega) hg
      · rw [if_neg hlt]
        have : s = n := by omega
        subst this
        rw [if_neg hlt] at hp
        rw [segI, if_pos (by omega)]
        refine .inl ⟨rfl, ?_, ht, hb, by simp only []; omega, fun he => ?_⟩
        · unfold syn
          simp only []
          rw [← hp, ho, passP_last, Int.sub_self, Int.sub_zero]
        · simp only [] at he ⊢
          rw [passP_odd he]; exact hodd he
/-- A segment, by both sides. -/
theorem sim_seg {d : List Int} (hd : DashOk d) (a b : Pt) {n : Int} (hn : 0 < n) (x : SI) (hl : 0 < x.left) (hb0 : 0 ≤ x.begun) (hb : x.begun ≤ 2400) (ht : tot x.out ≤ 600) (hodd : evn x.at_ = false → x.own = []) :
    Both (segI d a b n 2402 0 x) (segS d a b n 2403 0 (syn x)) :=
  simH hn 2401 (simK hn (fun i => (hd.dvr (hd.nlt i)).1) 2401) (fun i => (hd.dvr (hd.nlt i)).1) 0 x 2403 (Int.le_refl _) hn hl hb0 hb ht hodd (by omega) (by omega)

end Go.Proofs.Ytigkodlbjimikaa.VFnExactDashed
