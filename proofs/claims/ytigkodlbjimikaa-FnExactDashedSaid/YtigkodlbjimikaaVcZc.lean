/- Calls: the caller's state behind a call. -/
import Derived.Test.YtigkodlbjimikaaVcZb
namespace Go.Proofs.Ytigkodlbjimikaa.Vc
open Go Go.RowKit
set_option linter.unusedVariables false
set_option linter.unusedSimpArgs false

theorem resView_any : ∀ l : List RSh, resView l = l.any RSh.hasView
  | [] => rfl
  | r :: l => by simp only [resView, List.any_cons, resView_any l]
theorem outView_any : ∀ l : List Par, outView l = l.any parHasView
  | [] => rfl
  | r :: l => by simp only [outView, List.any_cons, outView_any l]
section
variable {P : Program} {E : Env} {C : Ctx} {G : Gh} {s : St} {a : Act} {w : World}
theorem AF_reg {G : Gh} {s : St} {w w' : World} {F : List Nat} : ∀ (l : List Par) (as : List AVal) (vs : List Value), AF G s w w' F l as vs → ∀ q ∈ backL l as, (s.reg q).isSome = true := by
  intro l
  induction l with
  | nil => intro as vs _ q hq; cases as <;> simp [backL] at hq
  | cons p l ih =>
    intro as vs haf q hq
    cases as with
    | nil => cases p <;> simp [backL] at hq
    | cons u as =>
      cases vs with
      | nil =>
        cases p with
        | own e t b => cases b <;> simp [AF] at haf
        | _ => simp [AF] at haf
      | cons v vs =>
        cases p with
        | val t => exact ih as vs haf q hq
        | fn f caps => exact ih as vs haf q hq
        | agg sh => exact ih as vs haf q hq
        | box tid sh out =>
          cases u with
          | cp c =>
            cases c with
            | one c =>
              cases c with
              | ptr b o =>
                cases o with
                | zero => exact ih as vs haf.2.2 q hq
                | succ _ => simp [AF] at haf
              | _ => simp [AF] at haf
            | agg _ => simp [AF] at haf
          | _ => simp [AF] at haf
        | own e t b =>
          cases b with
          | false => exact ih as vs haf q hq
          | true =>
            cases u with
            | cp c =>
              cases c with
              | one c =>
                cases c with
                | own r =>
                  obtain ⟨⟨g, A, c, hg, _⟩, haf⟩ := haf
                  rcases List.mem_cons.1 (show q ∈ r :: backL l as from hq) with rfl | hq
                  · rw [hg]; rfl
                  · exact ih as vs haf q hq
                | inn r i off e' t' =>
                  obtain ⟨⟨g, hg, _⟩, haf⟩ := haf
                  rcases List.mem_cons.1 (show q ∈ r :: backL l as from hq) with rfl | hq
                  · rw [hg]; rfl
                  · exact ih as vs haf q hq
                | _ => simp [AF] at haf
              | agg _ => simp [AF] at haf
            | _ => simp [AF] at haf
theorem call_ok (h : Inv C G s a w) {g : Sig} {d : Option Tmp} {x : g.arg} {own lent back : List Nat} {as : List AVal} {vs : List Value} {r : g.ans} (hd : ∀ t, d = some t → t < C.nt) (hin : inPars s g.pars as = some (x, own, lent, back)) (hfn : ∀ f caps, Par.fn f caps ∈ g.pars → caps = []) (hars : AReps G s.reg w as vs)
    (hc1 : nodup (own ++ boxesOf as) = true) (hc2 : noneOf own lent = true) (hc3 : labsFree (dstOr d) (ready g s own lent back) = true) (hlen : resLen g.res + outLen g.pars ≤ 1000) (hspec : CallSpec P g x r) :
    Calls P g.f vs.toArray w fun e w' => ∃ v G', e = .returned v ∧ Inv C G' (after g d (ready g s own lent back) as r) (a.put d v) w' := by
  let I1 : Nat → Prop := fun k => G.I k ∨ ∃ q gq, q ∈ lent ∧ s.reg q = some gq ∧ k ∈ G.fp q
  obtain ⟨F, hp, hfa, hsub, hback, haf⟩ := inPars_af h.toCore (I' := I1) (fun _ hk => .inl hk) hin hfn hars (fun q hq gq hg k hk => .inr ⟨q, gq, hq, hg, hk⟩)
  have hno := nodup_of hc1
  have hno1 : (own ++ boxL g.pars as).Nodup := hno.sublist ((List.Sublist.refl own).append hsub)
  have hFn := hfa.nodup hno1
  have hol : ∀ q ∈ own, q ∉ lent := fun q hq => contains_of (List.all_eq_true.1 hc2 q hq)
  have hF : ∀ k ∈ F, ¬ I1 k ∧ k < w.heap.size ∧ C.ok k := by
    intro k hk
    rcases hfa.mem k hk with ⟨q, gq, hq, hg, hkq⟩ | ⟨b, xb, hb, hxb, rfl⟩
    · refine ⟨fun hI => ?_, h.toCore.fpLt hg k hkq, h.or q gq k hg hkq⟩
      rcases hI with hI | ⟨q', g', hq', hg', hk'⟩
      · exact h.ir q gq k hg hkq hI
      · exact h.rr q q' gq g' hg hg' (fun e => hol q hq (e ▸ hq')) k hkq hk'
    · refine ⟨fun hI => ?_, h.toCore.blkLt hxb, h.ob b xb hxb⟩
      rcases hI with hI | ⟨q', g', hq', hg', hk'⟩
      · exact h.ib b xb hxb hI
      · exact h.rb q' g' b xb hg' hxb hk'
  have hI1 : ∀ k, I1 k → k < w.heap.size := by
    intro k hk
    rcases hk with hk | ⟨q, gq, _, hg, hkq⟩
    · exact h.ilt k hk
    · exact h.toCore.fpLt hg k hkq
  refine Calls.mono (hspec I1 w vs F hp hFn (fun k hk => ⟨(hF k hk).1, (hF k hk).2.1⟩) hI1) ?_
  rintro e w' ⟨vs', I', f1, f2, rfl, C1, hC0, hCl, hCI, hleft, hfr⟩
  have hbsub := inPars_back hin
  obtain ⟨IA, hrd⟩ := ready_ok h (g := g) (own := own) (lent := lent) (back := back) (fun q hq => hbsub.subset hq) hol
  -- what was handed over is out of sight
  have hH : HInv C { G with I := IA } (ready g s own lent back) a w back (· ∈ boxL g.pars as) (· ∈ backL g.pars as) :=
    hrd.inv.hide hrd.cleanT (fun b xb hb _ => hrd.cleanB b xb hb) (fun q hq => by rw [hback]; exact hq)
  have oldBox : ∀ {b xb}, get (ready g s own lent back).boxes b = some xb → ∃ y, get s.boxes b = some y := fun {b xb} hb => Option.isSome_iff_exists.1 (by rw [← hrd.box b, hb]; rfl)
  have loneF : ∀ k ∈ F, LoneH { G with I := IA } (ready g s own lent back) (· ∈ boxL g.pars as) (· ∈ backL g.pars as) k := by
    intro k hk
    rcases hfa.mem k hk with ⟨q, gq, hq, hg, hkq⟩ | ⟨b, xb, hb, hxb, rfl⟩
    · refine ⟨hrd.gone q hq gq hg k hkq, fun b xb hb _ e => ?_, fun q' g' hq' hn hk' => ?_⟩
      · obtain ⟨y, hy⟩ := oldBox hb
        exact h.rb q gq b y hg hy (show G.blk b ∈ G.fp q from (show G.blk b = k from e) ▸ hkq)
      · obtain ⟨p1, p2⟩ := hrd.reg q' g' hq'
        refine h.rr q q' gq g' hg p1 (fun e => hn ?_) k hkq hk'
        rw [← hback]; exact p2 (e ▸ hq)
    · obtain ⟨z, hz⟩ := Option.isSome_iff_exists.1 (show (get (ready g s own lent back).boxes b).isSome = true by rw [hrd.box b, hxb]; rfl)
      refine ⟨hrd.inv.ib b z hz, fun b' xb' hb' hn e => ?_, fun q' g' hq' hn hk' => ?_⟩
      · obtain ⟨y, hy⟩ := oldBox hb'
        exact h.bb b' b y xb hy hxb (fun e' => hn (e' ▸ hb)) e
      · obtain ⟨p1, p2⟩ := hrd.reg q' g' hq'
        exact h.rb q' g' b xb p1 hxb hk'
  have hm : Moved w w' F := ⟨by have := hfr.size; rw [hC0] at this; exact this, fun k hk hn => by
    have := hfr.block k (by rw [hC0]; exact hk) (fun hl => hn ((hCl k).1 hl)); rw [hC0] at this; exact this⟩
  have hfrC : Frame_ C w' := by
    refine ⟨hfr.os.trans (by rw [hC0]; exact h.frame.os), hfr.tape.trans (by rw [hC0]; exact h.frame.tape), hfr.output.trans (by rw [hC0]; exact h.frame.output), Nat.le_trans h.frame.size hm.size, fun k hk hl => ?_⟩
    have hkw : k < w.heap.size := Nat.lt_of_lt_of_le hk h.frame.size
    rw [hm.keep k hkw (fun hkF => by
      rcases (hF k hkF).2.2 with h1 | h1
      · omega
      · exact hl h1)]
    exact h.frame.block k hk hl
  have hM := hH.moved hm loneF hfrC
  -- what stays from here on
  have loneN : ∀ k, w.heap.size ≤ k → LoneH { G with I := IA } (ready g s own lent back) (· ∈ boxL g.pars as) (· ∈ backL g.pars as) k := by
    intro k hk
    refine ⟨fun hI => ?_, fun b xb hb _ e => ?_, fun q' g' hq' hn hk' => ?_⟩
    · have := hrd.inv.ilt k hI; omega
    · have := hrd.inv.toCore.blkLt hb; rw [e] at this; omega
    · have := hrd.inv.toCore.fpLt hq' k hk'; omega
  have okC : ∀ k, (w.heap.size ≤ k ∨ k ∈ F) → C.ok k ∧ LoneH { G with I := IA } (ready g s own lent back) (· ∈ boxL g.pars as) (· ∈ backL g.pars as) k := by
    intro k hk
    rcases hk with hk | hk
    · exact ⟨.inl (Nat.le_trans h.frame.size hk), loneN k hk⟩
    · exact ⟨(hF k hk).2.2, loneF k hk⟩
  have ok1 : ∀ k, C1.ok k → w.heap.size ≤ k ∨ k ∈ F := by
    intro k hk
    rcases hk with hk | hk
    · rw [hC0] at hk; exact .inl hk
    · exact .inr ((hCl k).1 hk)
  have hA := hM.addI (J := fun k => g.hasView = true ∧ I' k ∧ ¬ IA k) (fun k hk => by
    obtain ⟨hv, hI', hnA⟩ := hk
    have hk2 : w.heap.size ≤ k ∨ k ∈ F := by
      rcases hleft.less k hI' with h1 | h1
      · rw [hCI] at h1
        rcases h1 with h1 | ⟨q, gq, hq, hg, hkq⟩
        · exact absurd (hrd.more k h1) hnA
        · exact absurd (hrd.seen hv q hq gq hg k hkq) hnA
      · exact ok1 k h1
    obtain ⟨p1, p2⟩ := okC k hk2
    exact ⟨p2.box, p2.reg, hleft.lt k hI', p1⟩)
  have hI5 : g.hasView = true → ∀ k, I' k → (Gh.addI { G with I := IA } (fun k => g.hasView = true ∧ I' k ∧ ¬ IA k)).I k := by
    intro hv k hk
    by_cases hA : IA k
    · exact .inl hA
    · exact .inr ⟨hv, hk, hA⟩
  have lone5 : ∀ k ∈ f1 ++ f2, LoneH (Gh.addI { G with I := IA } (fun k => g.hasView = true ∧ I' k ∧ ¬ IA k)) (ready g s own lent back) (· ∈ boxL g.pars as) (· ∈ backL g.pars as) k ∧ C.ok k ∧ (k ∈ F ∨ w.heap.size ≤ k) := by
    intro k hk
    obtain ⟨p1, p2, p3⟩ := hleft.ok k hk
    obtain ⟨q1, q2⟩ := okC k (ok1 k p1)
    refine ⟨⟨fun hI => ?_, q2.box, q2.reg⟩, q1, (ok1 k p1).symm⟩
    rcases hI with hI | hI
    · exact q2.still hI
    · exact p2 hI.2.1
  have hvres : resView g.res = true → g.hasView = true := fun hv => by unfold Sig.hasView; rw [← resView_any, hv]; rfl
  have hvout : outView g.pars = true → g.hasView = true := fun hv => by unfold Sig.hasView; rw [← outView_any, hv]; simp
  obtain ⟨n1, n2, n3⟩ := List.nodup_append.1 hleft.nodup
  obtain ⟨G6, t1, t2, t3, t4⟩ := newComps_ok (d := dstOr d) g.res 0 r.1 vs' f1 hA hleft.res (fun hv => hI5 (hvres hv)) n1 (fun k hk => by obtain ⟨p1, p2, _⟩ := lone5 k (List.mem_append.2 (.inl hk)); exact ⟨p1, p2⟩) (by omega) (labs_free hc3)
  have hreg : ∀ q ∈ backL g.pars as, q ∈ own ∧ ∃ gq, s.reg q = some gq := fun q hq =>
    ⟨hbsub.subset (by rw [hback]; exact hq), Option.isSome_iff_exists.1 (AF_reg g.pars as vs (haf F w' (fun k hk => .inl hk) (List.nodup_append.1 hno1).1 hm.keep) q hq)⟩
  have hlone : ∀ q ∈ backL g.pars as, ∀ k ∈ G.fp q, k < w.heap.size ∧ (k ∉ F → LoneH G6 (newComps (dstOr d) (ready g s own lent back) g.res 0 r.1).1 (· ∈ boxL g.pars as) (· ∈ backL g.pars as) k ∧ C.ok k) := by
    intro q hq k hk
    obtain ⟨hqo, gq, hg⟩ := hreg q hq
    have hlt := h.toCore.fpLt hg k hk
    refine ⟨hlt, fun hkF => ⟨t1.lone k ⟨fun hI => ?_, fun b xb hb _ e => ?_, fun q' g' hq' hn hk' => ?_⟩ fun hk1 => ?_, h.or q gq k hg hk⟩⟩
    · rcases hI with hI | ⟨_, hI, _⟩
      · exact hrd.gone q hqo gq hg k hk hI
      · rcases hleft.less k hI with h1 | h1
        · rw [hCI] at h1
          rcases h1 with h1 | ⟨q', g', hq', hg', hk'⟩
          · exact h.ir q gq k hg hk h1
          · exact h.rr q q' gq g' hg hg' (fun e => hol q hqo (e ▸ hq')) k hk hk'
        · rcases ok1 k h1 with h1 | h1
          · omega
          · exact hkF h1
    · obtain ⟨y, hy⟩ := oldBox hb
      exact h.rb q gq b y hg hy (show G.blk b ∈ G.fp q from (show G.blk b = k from e) ▸ hk)
    · obtain ⟨p1, _⟩ := hrd.reg q' g' hq'
      exact h.rr q q' gq g' hg p1 (fun e => hn (e ▸ hq)) k hk hk'
    · rcases (lone5 k (List.mem_append.2 (.inl hk1))).2.2 with h1 | h1
      · exact hkF h1
      · omega
  obtain ⟨m1, m2, m3⟩ := List.nodup_append.1 hno1
  obtain ⟨G7, u1, u2, u3, u4⟩ := newPars_ok (d := dstOr d) (I' := I') (w0 := w) (F := F) (G0 := G) (s0 := s) g.pars as vs _ r.2 f2 (G := G6) (s := (newComps (dstOr d) (ready g s own lent back) g.res 0 r.1).1) t1.inv hleft.outs
    (haf F w' (fun k hk => .inl hk) m1 hm.keep) (fun hv k hk => by rw [t1.I]; exact hI5 (hvout hv) k hk) n2
    (fun k hk => by
      obtain ⟨p1, p2, p3⟩ := lone5 k (List.mem_append.2 (.inr hk))
      exact ⟨t1.lone k p1 fun hk' => n3 k hk' k hk rfl, p2, p3⟩)
    hlone
    (fun q hq q' hq' hne k hk hk' => by
      obtain ⟨_, g1, hg1⟩ := hreg q hq
      obtain ⟨_, g2, hg2⟩ := hreg q' hq'
      exact h.rr q q' g1 g2 hg1 hg2 hne k hk hk')
    (by rw [← hback]; exact m1.sublist hbsub) m2
    (fun q hq => by
      obtain ⟨_, gq, hg⟩ := hreg q hq
      have hk := hrd.kept q (by rw [hback]; exact hq)
      obtain ⟨o1, _, o3⟩ := t1.old q (by rw [hk, hg]; rfl)
      exact ⟨by rw [hg]; rfl, o3.trans hk, o1⟩)
    t1.blk
    (fun b hb => by rw [t1.boxes, hrd.box b]; exact hb)
    (by omega) t1.free
  refine ⟨resVal vs', G7, rfl, ?_⟩
  have hfin := u1.inv (fun _ hb => hb) (fun _ hb => hb)
  exact hfin.putO hd (x := avalOf (newComps (dstOr d) (ready g s own lent back) g.res 0 r.1).2.1) (comps_aval (t2.moveC u2 t3))
end

end Go.Proofs.Ytigkodlbjimikaa.Vc
