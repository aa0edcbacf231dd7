/- Calls: the arguments by the parameters, and what is known of them behind the call. -/
import Derived.Test.YtigkodlbjimikaaVcYb
namespace Go.Proofs.Ytigkodlbjimikaa.Vc
open Go Go.RowKit
set_option linter.unusedVariables false
set_option linter.unusedSimpArgs false

section
variable {P : Program} {E : Env} {C : Ctx} {G : Gh} {s : St} {a : Act} {w : World}
/-- The arguments, by the parameters. -/
theorem inPars_af (h : Core C G s w) {I' : Nat → Prop} (hI : ∀ k, G.I k → I' k) : ∀ {l : List Par} {as : List AVal} {vs : List Value} {x : (parsTy l).den} {own lent back : List Nat}, inPars s l as = some (x, own, lent, back) → (∀ f caps, Par.fn f caps ∈ l → caps = []) → AReps G s.reg w as vs → (∀ r ∈ lent, ∀ g, s.reg r = some g → ∀ k ∈ G.fp r, I' k) →
    ∃ f, ParsRep I' w l x vs f ∧ FromA G s own (boxL l as) f ∧ (boxL l as).Sublist (boxesOf as) ∧ back = backL l as ∧ ∀ (F : List Nat) (w' : World), (∀ k ∈ F, k ∈ f ∨ ∀ r g, r ∈ own → s.reg r = some g → k ∉ G.fp r) → own.Nodup → (∀ k, k < w.heap.size → k ∉ F → w'.heap[k]? = w.heap[k]?) → AF G s w w' F l as vs
  | [], as, vs, x, own, lent, back, hi, hfn, hr, hv => by
    cases as with
    | cons _ _ => simp [inPars] at hi
    | nil =>
      simp only [inPars, Option.some.injEq, Prod.mk.injEq] at hi
      obtain ⟨_, rfl, _, rfl⟩ := hi
      obtain rfl : vs = [] := hr
      exact ⟨[], ⟨rfl, rfl⟩, FromR.nil.toA, List.Sublist.refl _, rfl, fun _ _ _ _ _ => trivial⟩
  | p :: l, as, vs, x, own, lent, back, hi, hfn, hr, hv => by
    have hfn' : ∀ f caps, Par.fn f caps ∈ l → caps = [] := fun f caps hp => hfn f caps (List.mem_cons_of_mem _ hp)
    cases as with
    | nil => cases p <;> simp [inPars] at hi
    | cons u as =>
      obtain ⟨v, vl, rfl, hu, hr⟩ := hr
      have bsub : ∀ {bs : List Nat}, bs.Sublist (boxesOf as) → bs.Sublist (boxesOf (u :: as)) := fun hb => by rw [boxesOf_cons]; exact hb.trans (List.sublist_append_right _ _)
      cases p with
      | val t =>
        cases u with
        | cp c =>
          simp only [inPars] at hi
          split at hi
          · rename_i x1 y o v' b h1 h2
            simp only [Option.some.injEq, Prod.mk.injEq] at hi
            obtain ⟨rfl, rfl, rfl, rfl⟩ := hi
            cases ha : (isAggTy t == isAggC c) with
            | false => rw [ha] at h1; cases h1
            | true =>
              rw [ha] at h1
              have ha : isAggTy t = isAggC c := by simpa using ha
              obtain ⟨f, k1, k2, k3, k4, k5⟩ := inPars_af h hI h2 hfn' hr (fun r hr => hv r (List.mem_append.2 (.inr hr)))
              exact ⟨f, ⟨v, vl, rfl, read_val h hI hu ha h1 (fun r hr => hv r (List.mem_append.2 (.inl hr))), k1⟩, k2, bsub k3, k4, k5⟩
          · cases hi
        | _ => simp [inPars] at hi
      | agg sh =>
        cases u with
        | cp c =>
          cases c with
          | one _ => simp [inPars] at hi
          | agg cs =>
            simp only [inPars] at hi
            split at hi
            · rename_i x1 o1 v1 y o v' b hic h2
              simp only [Option.some.injEq, Prod.mk.injEq] at hi
              obtain ⟨rfl, rfl, rfl, rfl⟩ := hi
              obtain ⟨f, k1, k2, k3, k4, k5⟩ := inPars_af h hI h2 hfn' hr (fun r hr => hv r (List.mem_append.2 (.inr hr)))
              obtain ⟨arr, rfl, hcells⟩ := hu
              obtain ⟨f0, hg1, hg2⟩ := outCells_ok h hI (inCells_out hic) hcells (fun r hr => hv r (List.mem_append.2 (.inl hr)))
              refine ⟨f0 ++ f, ⟨vl, f0, f, arr, rfl, rfl, hg1, k1⟩, FromA.append (b1 := []) h hg2.toA k2, bsub k3, k4, ?_⟩
              intro F w' hF hno hw
              obtain ⟨n1, n2, n3⟩ := List.nodup_append.1 hno
              refine k5 F w' (fun k hk => ?_) n2 hw
              rcases hF k hk with hk | hk
              · rcases List.mem_append.1 hk with hk | hk
                · refine .inr fun r g hr hg hkr => ?_
                  obtain ⟨r', g', hr', hg', hkr'⟩ := hg2.mem k hk
                  exact h.rr r' r g' g hg' hg (n3 r' hr' r hr) k hkr' hkr
                · exact .inl hk
              · exact .inr fun r g hr => hk r g (List.mem_append.2 (.inr hr))
            · cases hi
        | _ => simp [inPars] at hi
      | fn fn caps =>
        cases u with
        | cp c =>
          cases c with
          | one c =>
            cases c with
            | fn f' caps' =>
              simp only [inPars] at hi
              cases hb : (fn == f' && caps == caps') with
              | false => rw [hb] at hi; cases hi
              | true =>
                rw [hb] at hi
                simp only [Bool.and_eq_true, beq_iff_eq] at hb
                obtain ⟨rfl, rfl⟩ := hb
                simp only [cond_true, Option.map_eq_some_iff] at hi
                obtain ⟨⟨y, o, v', b⟩, hi, e⟩ := hi
                simp only [Prod.mk.injEq] at e
                obtain ⟨rfl, rfl, rfl, rfl⟩ := e
                obtain rfl : caps = [] := hfn fn caps List.mem_cons_self
                obtain ⟨f, k1, k2, k3, k4, k5⟩ := inPars_af h hI hi hfn' hr hv
                exact ⟨f, ⟨vl, by rw [show v = fnVal G fn [] from hu.2]; rfl, rfl, k1⟩, k2, bsub k3, k4, k5⟩
            | _ => simp [inPars] at hi
          | agg _ => simp [inPars] at hi
        | _ => simp [inPars] at hi
      | box tid sh out =>
        cases u with
        | cp c =>
          cases c with
          | one c =>
            cases c with
            | ptr b off =>
              cases off with
              | succ _ => simp [inPars] at hi
              | zero =>
                simp only [inPars] at hi
                split at hi
                · rename_i bx y o v' bk hbx h2
                  cases ht : (bx.tid == tid) with
                  | false => rw [ht] at hi; cases hi
                  | true =>
                    rw [ht] at hi
                    obtain rfl : bx.tid = tid := by simpa using ht
                    simp only [cond_true] at hi
                    split at hi
                    · rename_i x1 o1 v1 hic
                      simp only [Option.some.injEq, Prod.mk.injEq] at hi
                      obtain ⟨rfl, rfl, rfl, rfl⟩ := hi
                      obtain ⟨f, k1, k2, k3, k4, k5⟩ := inPars_af h hI h2 hfn' hr (fun r hr => hv r (List.mem_append.2 (.inr hr)))
                      obtain ⟨arr, hheap, hcells⟩ := h.box b bx hbx
                      obtain ⟨f0, hg1, hg2⟩ := outCells_ok h hI (inCells_out hic) hcells (fun r hr => hv r (List.mem_append.2 (.inl hr)))
                      obtain ⟨hpb, hvv⟩ := hu
                      refine ⟨(G.blk b :: f0) ++ f, ⟨G.blk b, vl, f0, f, arr, by rw [hvv], rfl, hheap, hg1, k1⟩, ?_, ?_, k4, ?_⟩
                      · refine FromA.append (b1 := [b]) h ⟨fun hn => ?_, fun k hk => ?_⟩ k2
                        · refine List.nodup_cons.2 ⟨fun hk => ?_, hg2.nodup (List.nodup_append.1 hn).1⟩
                          obtain ⟨r, g, _, hg, hkr⟩ := hg2.mem _ hk
                          exact h.rb r g b bx hg hbx hkr
                        · rcases List.mem_cons.1 hk with rfl | hk
                          · exact .inr ⟨b, bx, by simp, hbx, rfl⟩
                          · exact .inl (hg2.mem k hk)
                      · rw [boxesOf_cons]; exact (List.Sublist.refl [b]).append k3
                      · intro F w' hF hno hw
                        obtain ⟨n1, n2, n3⟩ := List.nodup_append.1 hno
                        refine ⟨hvv, by rw [hbx]; rfl, k5 F w' (fun k hk => ?_) n2 hw⟩
                        rcases hF k hk with hk | hk
                        · rcases List.mem_append.1 hk with hk | hk
                          · refine .inr fun r g hr hg hkr => ?_
                            rcases List.mem_cons.1 hk with rfl | hk
                            · exact h.rb r g b bx hg hbx hkr
                            · obtain ⟨r', g', hr', hg', hkr'⟩ := hg2.mem k hk
                              exact h.rr r' r g' g hg' hg (n3 r' hr' r hr) k hkr' hkr
                          · exact .inl hk
                        · exact .inr fun r g hr => hk r g (List.mem_append.2 (.inr hr))
                    · cases hi
                · cases hi
            | _ => simp [inPars] at hi
          | agg _ => simp [inPars] at hi
        | _ => simp [inPars] at hi
      | own e t bk =>
        cases u with
        | cp c =>
          cases c with
          | one c =>
            cases c with
            | own r =>
              simp only [inPars] at hi
              split at hi
              · rename_i g y o v' b hg h2
                cases he : (g.e == e) with
                | false => rw [he] at hi; cases hi
                | true =>
                  rw [he] at hi
                  obtain rfl : g.e = e := by simpa using he
                  simp only [cond_true] at hi
                  split at hi
                  · rename_i x1 hcast
                    simp only [Option.some.injEq, Prod.mk.injEq] at hi
                    obtain ⟨rfl, rfl, rfl, hbk⟩ := hi
                    obtain ⟨gt, _⟩ : g.t = t ∧ True := by obtain ⟨eq, _⟩ := cast_some hcast; injection eq; exact ⟨by assumption, trivial⟩
                    subst gt
                    obtain rfl : g.xs = x1 := by rw [cast_self] at hcast; exact Option.some.inj hcast
                    obtain ⟨f, k1, k2, k3, k4, k5⟩ := inPars_af h hI h2 hfn' hr hv
                    obtain ⟨g', hg', hvr⟩ := hu
                    obtain ⟨hd, hn⟩ := h.reg r g hg
                    rw [← hvr] at hd
                    have tail : ∀ {F : List Nat}, (∀ k ∈ F, k ∈ G.fp r ++ f ∨ ∀ q g, q ∈ r :: o → s.reg q = some g → k ∉ G.fp q) → (r :: o).Nodup → ∀ k ∈ F, k ∈ f ∨ ∀ q g, q ∈ o → s.reg q = some g → k ∉ G.fp q := by
                      intro F hF hno k hk
                      obtain ⟨n1, _⟩ := List.nodup_cons.1 hno
                      rcases hF k hk with hk | hk
                      · rcases List.mem_append.1 hk with hk | hk
                        · exact .inr fun q gq hq hgq hkq => h.rr r q g gq hg hgq (fun e => n1 (e ▸ hq)) k hk hkq
                        · exact .inl hk
                      · exact .inr fun q gq hq => hk q gq (List.mem_cons_of_mem _ hq)
                    refine ⟨G.fp r ++ f, ⟨v, vl, _, f, rfl, rfl, hd, k1⟩, ?_, bsub k3, ?_, ?_⟩
                    · exact FromA.append (o1 := [r]) (b1 := []) h (FromR.toA ⟨fun _ => hn, fun k hk => ⟨r, g, by simp, hg, hk⟩⟩) k2
                    · rw [← hbk, k4]; cases bk <;> rfl
                    · intro F w' hF hno hw
                      have ht := k5 F w' (tail hF hno) (List.nodup_cons.1 hno).2 hw
                      cases bk with
                      | false => exact ht
                      | true =>
                        obtain ⟨v1, cells, fps, e1, how, _⟩ := hd
                        obtain rfl : v = v1 := by simpa using e1
                        obtain ⟨A, c, hv1, _⟩ := own_le how
                        exact ⟨⟨g, A, c, hg, rfl, hvr.symm, hv1⟩, ht⟩
                  · cases hi
              · cases hi
            | inn r i off e' t' =>
              cases bk with
              | false => simp [inPars] at hi
              | true =>
                simp only [inPars] at hi
                split at hi
                · rename_i e1 u1 xs y o v' b hsl h2
                  cases he : (e == e') with
                  | false => rw [he] at hi; cases hi
                  | true =>
                    rw [he] at hi
                    obtain rfl : e = e' := by simpa using he
                    simp only [cond_true] at hi
                    split at hi
                    · rename_i x1 hcast
                      simp only [Option.some.injEq, Prod.mk.injEq] at hi
                      obtain ⟨rfl, rfl, rfl, hbk⟩ := hi
                      obtain ⟨gt, _⟩ : u1 = t ∧ True := by obtain ⟨eq, _⟩ := cast_some hcast; injection eq; exact ⟨by assumption, trivial⟩
                      subst gt
                      obtain rfl : xs = x1 := by rw [cast_self] at hcast; exact Option.some.inj hcast
                      obtain ⟨f, k1, k2, k3, k4, k5⟩ := inPars_af h hI h2 hfn' hr hv
                      have hu' := hu
                      obtain ⟨g, gb, n, c0, hg, hroot, h0, h1, hcell, hoff⟩ := hu'
                      simp only [St.slice, hg, Option.bind_some, Option.map_eq_some_iff] at hsl
                      obtain ⟨l0, hin, e2⟩ := hsl
                      cases e2
                      obtain ⟨f0, hd, hsub, hnd, hput⟩ := h.innBack hu hg hin
                      refine ⟨f0 ++ f, ⟨v, vl, _, f, rfl, rfl, hd, k1⟩, ?_, bsub k3, ?_, ?_⟩
                      · exact FromA.append (o1 := [r]) (b1 := []) h (FromR.toA ⟨fun _ => hnd, fun k hk => ⟨r, g, by simp, hg, hsub k hk⟩⟩) k2
                      · rw [← hbk, k4]; rfl
                      · intro F w' hF hno hw
                        obtain ⟨n1, n2⟩ := List.nodup_cons.1 hno
                        have inF : ∀ k ∈ F, k ∈ G.fp r → k ∈ f0 := by
                          intro k hk hkr
                          rcases hF k hk with hk | hk
                          · rcases List.mem_append.1 hk with hk | hk
                            · exact hk
                            · rcases k2.mem k hk with ⟨q, gq, hq, hgq, hkq⟩ | ⟨b, x, _, hb, e⟩
                              · exact absurd hkq (h.rr r q g gq hg hgq (fun e => n1 (e ▸ hq)) k hkr)
                              · exact absurd hkr (e ▸ h.rb r g b x hg hb)
                          · exact absurd hkr (hk r g List.mem_cons_self hg)
                        refine ⟨⟨g, hg, fun l' f' hd' hn' hmem => ?_⟩, k5 F w' (fun k hk => ?_) n2 hw⟩
                        · obtain ⟨y, fp', p1, p2, p3, p4⟩ := hput (w' := w') (fun k hk hk0 => hw k (h.fpLt hg k hk) fun hkF => hk0 (inF k hkF hk)) l' f' hd' hn' (fun k hk hkr => by
                            rcases hmem k hk with hkF | hge
                            · exact inF k hkF hkr
                            · have := h.fpLt hg k hkr; omega)
                          exact ⟨y, fp', p1, p2, p3, fun k hk => (p4 k hk).imp id fun ⟨q1, q2⟩ => ⟨q1, fun hkF => q2 (inF k hkF q1)⟩⟩
                        · rcases hF k hk with hk | hk
                          · rcases List.mem_append.1 hk with hk | hk
                            · exact .inr fun q gq hq hgq hkq => h.rr r q g gq hg hgq (fun e => n1 (e ▸ hq)) k (hsub k hk) hkq
                            · exact .inl hk
                          · exact .inr fun q gq hq => hk q gq (List.mem_cons_of_mem _ hq)
                    · cases hi
                · cases hi
            | _ => cases bk <;> simp [inPars] at hi
          | agg _ => cases bk <;> simp [inPars] at hi
        | _ => cases bk <;> simp [inPars] at hi
end

end Go.Proofs.Ytigkodlbjimikaa.Vc
