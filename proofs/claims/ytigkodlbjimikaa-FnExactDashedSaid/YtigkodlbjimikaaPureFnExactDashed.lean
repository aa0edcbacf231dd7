/- Dashed, as numbers and lists. -/
import Derived.Test.YtigkodlbjimikaaVpDashGFnExactDashed
import Derived.Test.YtigkodlbjimikaaVcZj
namespace Go.Proofs.Ytigkodlbjimikaa.VFnExactDashed
open Go Go.RowKit Go.Proofs.Ytigkodlbjimikaa.Vc Go.Proofs.Ytigkodlbjimikaa.Vp
set_option linter.unusedVariables false
set_option linter.unusedSimpArgs false
theorem tot_mem {x : Ln} : ∀ {l : List Ln}, x ∈ l → (x.1.length : Int) ≤ tot l
  | y :: l, h => by
    have n := tot_nn l
    rcases List.mem_cons.1 h with rfl | h
    · simp only [tot]; omega
    · have := tot_mem h
      simp only [tot]; omega
theorem lnSum_tot : ∀ l : List Ln, lnSum l = 2 * tot l + l.length
  | [] => rfl
  | x :: l => by simp only [lnSum, tot, List.length_cons, lnSum_tot l]; omega
theorem beq_t (b : Bool) : not_ (not_ (beq_ b b)) = true := by cases b <;> rfl
theorem beq_f (b : Bool) : not_ (beq_ b b) = false := by cases b <;> rfl
theorem law_ev (l : Ln) (d : List Int) (ph : Int) (hl : l.1.length ≤ 9223372036854775807) (hd : d.length ≤ 9223372036854775807) : Ev (fun k => laws_FnExactDashed.f k l d ph) ((true, ()), ((), ((), ((), ())))) := by
  refine .step (fun k => laws_FnExactDashed.eq k _ _ _) ?_
  by_cases c1 : 1048576 < (d.length : Int)
  · exact .tt (ilt_t c1) (.now _)
  refine .ff (ilt_f (by rw [llen_]; omega)) (.bind (szLine_ev (l.1, l.2) hl) ?_)
  by_cases c2 : 1048576 < (l.1.length : Int)
  · rw [if_pos c2]
    exact .tt rfl (.now _)
  rw [if_neg c2]
  have hl' : l.1.length ≤ 1048576 := by omega
  have hd' : d.length ≤ 1048576 := by omega
  obtain ⟨R, hR, hI, hS⟩ := both_ev l d ph hl' hd'
  have tl := toLine_ev (l.1, l.2) hl'
  have ti := toIntS_ev d hd'
  have r1 := hR.len
  have r2 := hR.tot
  have hp : ∀ x ∈ R.1, x.1.length ≤ 1048576 := fun x hx => by have := tot_mem hx; omega
  have hs := lnSum_tot R.1
  have hs0 := lnSum_nn R.1
  have er := eqLineS_ev R.1 (by omega) hp
  obtain ⟨l2, mi⟩ := markIntS_ev d (1 + 2 * l.1.length) hd' (by omega) (by omega)
  have ml := markLineS_ev R.1 1 (by omega) hp (by omega) (by omega)
  have he := heldLineS_ev R.1 1 (by omega) hp (by omega) (by omega)
  have held : ∀ (A : Nat → Option _) r, Ev A r → Ev (fun k => (laws_heldLineS.f k (mkLns 1 R.1) 1).bind fun r16 => (bif (ilt r16.1.1 0) then some ((false, ()), ((), ((), ((), ())))) else (bif (not_ (ieq r16.1.1 (1 + lnSum R.1))) then some ((false, ()), ((), ((), ((), ())))) else A k))) r := fun A r hA =>
    .bind he (.ff (ilt_f (by simp only []; omega)) (.ff (not_f (ieq_t rfl)) hA))
  refine .ff (ilt_f (by simp only []; omega)) (.bind tl (.bind ti (.bind hS (.bind tl (.bind ti (.bind hI (.bind er (.tt rfl (.ff (beq_f _) (.bind tl (.bind (eqLine_ev (l.1, l.2) hl') (.ff rfl (.bind ti (.bind (eqIntS_ev d hd') (.ff rfl ?_)))))))))))))))
  refine .bind (markLine_ev l.1 l.2 1 hl' (by omega) (by omega)) (.bind mi (.tt (not_t (ilt_f (by simp only []; omega))) (.bind er (.tt rfl (.ff (beq_f _) (.bind ml ?_))))))
  refine held _ _ (.bind tl (.bind ti (.bind hI (.bind er (.tt rfl (.ff (beq_f _) ?_))))))
  exact held _ _ (.now _)
end Go.Proofs.Ytigkodlbjimikaa.VFnExactDashed
namespace Go.Proofs.Ytigkodlbjimikaa.Pure
open Go Go.RowKit Go.Proofs.Ytigkodlbjimikaa.Vc Go.Proofs.Ytigkodlbjimikaa.VFnExactDashed
theorem FnExactDashed : ∀ (x0 : (Ty.pair (.sl 223 (.pair (.int .i64) (.int .i64))) .bool).den) (x1 : (Ty.sl 3 (.int .i64)).den) (x2 : Int), Wf (.pair (.sl 223 (.pair (.int .i64) (.int .i64))) .bool) x0 → Wf (.sl 3 (.int .i64)) x1 → Wf (.int .i64) x2 → ∃ (k : Nat) (o : _), runF prog k 45 (x0, x1, x2, ()) = some ((true, ()), o) :=
  fun x0 x1 x2 h0 h1 _ => (law_ev x0 x1 x2 h0.1.2 h1.2).get.imp fun _ h => ⟨_, h⟩
end Go.Proofs.Ytigkodlbjimikaa.Pure
