/- Calls: the caller's state behind a call. -/
import Derived.Test.YtigkodlbjimikaaVcZa
namespace Go.Proofs.Ytigkodlbjimikaa.Vc
open Go Go.RowKit
set_option linter.unusedVariables false
set_option linter.unusedSimpArgs false

section
variable {P : Program} {E : Env} {C : Ctx} {G : Gh} {s : St} {a : Act} {w : World}
theorem inPars_back : ∀ {l : List Par} {as : List AVal} {x : (parsTy l).den} {own lent back : List Nat}, inPars s l as = some (x, own, lent, back) → back.Sublist own
  | [], as, x, own, lent, back, hi => by
    cases as with
    | cons _ _ => simp [inPars] at hi
    | nil =>
      simp only [inPars, Option.some.injEq, Prod.mk.injEq] at hi
      obtain ⟨_, rfl, _, rfl⟩ := hi
      exact List.Sublist.refl _
  | p :: l, as, x, own, lent, back, hi => by
    cases as with
    | nil => cases p <;> simp [inPars] at hi
    | cons u as =>
      cases p with
      | val t =>
        cases u with
        | cp c =>
          simp only [inPars] at hi
          split at hi
          · rename_i x1 y o v' b h1 h2
            simp only [Option.some.injEq, Prod.mk.injEq] at hi
            obtain ⟨rfl, rfl, rfl, rfl⟩ := hi
            exact inPars_back h2
          · cases hi
        | _ => simp [inPars] at hi
      | agg sh =>
        cases u with
        | cp c =>
          cases c with
          | one _ => simp [inPars] at hi
          | agg cs =>
            simp only [inPars] at hi
            split at hi
            · rename_i x1 o1 v1 y o v' b hic h2
              simp only [Option.some.injEq, Prod.mk.injEq] at hi
              obtain ⟨rfl, rfl, rfl, rfl⟩ := hi
              exact (inPars_back h2).trans (List.sublist_append_right _ _)
            · cases hi
        | _ => simp [inPars] at hi
      | fn fn caps =>
        cases u with
        | cp c =>
          cases c with
          | one c =>
            cases c with
            | fn f' caps' =>
              simp only [inPars] at hi
              cases hb : (fn == f' && caps == caps') with
              | false => rw [hb] at hi; cases hi
              | true =>
                rw [hb] at hi
                simp only [cond_true, Option.map_eq_some_iff] at hi
                obtain ⟨⟨y, o, v', b⟩, hi, e⟩ := hi
                simp only [Prod.mk.injEq] at e
                obtain ⟨rfl, rfl, rfl, rfl⟩ := e
                exact inPars_back hi
            | _ => simp [inPars] at hi
          | agg _ => simp [inPars] at hi
        | _ => simp [inPars] at hi
      | box tid sh out =>
        cases u with
        | cp c =>
          cases c with
          | one c =>
            cases c with
            | ptr b off =>
              cases off with
              | succ _ => simp [inPars] at hi
              | zero =>
                simp only [inPars] at hi
                split at hi
                · rename_i bx y o v' bk hbx h2
                  cases ht : (bx.tid == tid) with
                  | false => rw [ht] at hi; cases hi
                  | true =>
                    rw [ht] at hi
                    simp only [cond_true] at hi
                    split at hi
                    · rename_i x1 o1 v1 hic
                      simp only [Option.some.injEq, Prod.mk.injEq] at hi
                      obtain ⟨rfl, rfl, rfl, rfl⟩ := hi
                      exact (inPars_back h2).trans (List.sublist_append_right _ _)
                    · cases hi
                · cases hi
            | _ => simp [inPars] at hi
          | agg _ => simp [inPars] at hi
        | _ => simp [inPars] at hi
      | own e t bk =>
        cases u with
        | cp c =>
          cases c with
          | one c =>
            cases c with
            | own r =>
              simp only [inPars] at hi
              split at hi
              · rename_i g y o v' b hg h2
                cases he : (g.e == e) with
                | false => rw [he] at hi; cases hi
                | true =>
                  rw [he] at hi
                  simp only [cond_true] at hi
                  split at hi
                  · simp only [Option.some.injEq, Prod.mk.injEq] at hi
                    obtain ⟨rfl, rfl, rfl, rfl⟩ := hi
                    cases bk with
                    | false => exact (inPars_back h2).cons r
                    | true => exact (inPars_back h2).cons_cons r
                  · cases hi
              · cases hi
            | inn r i off e' t' =>
              cases bk with
              | false => simp [inPars] at hi
              | true =>
                simp only [inPars] at hi
                split at hi
                · rename_i e1 u1 xs y o v' b hsl h2
                  cases he : (e == e') with
                  | false => rw [he] at hi; cases hi
                  | true =>
                    rw [he] at hi
                    simp only [cond_true] at hi
                    split at hi
                    · simp only [Option.some.injEq, Prod.mk.injEq] at hi
                      obtain ⟨rfl, rfl, rfl, rfl⟩ := hi
                      exact (inPars_back h2).cons_cons r
                    · cases hi
                · cases hi
            | _ => cases bk <;> simp [inPars] at hi
          | agg _ => cases bk <;> simp [inPars] at hi
        | _ => cases bk <;> simp [inPars] at hi
end

end Go.Proofs.Ytigkodlbjimikaa.Vc
