/- The row of FnExactDashed: the law answers true at every argument, and each argument reads behind the call as it did. -/
import Derived.Test.YtigkodlbjimikaaRows
import Derived.Test.YtigkodlbjimikaaVkFnExactDashed
import Derived.Test.YtigkodlbjimikaaPureFnExactDashed
import Derived.WalkKit
import Derived.ProofKit
import Derived.OpenShut
import Derived.ShutString
import Derived.ChangeOld
import Derived.Below
import Derived.SizedLaws
import Derived.Carry
namespace Go.Proofs.Ytigkodlbjimikaa.fnExactDashed
open Go Go.ChangeShapes Go.WideShapes Go.ChangeAt Go.RowKit Go.Proofs.Ytigkodlbjimikaa.Vc
open Go.ChangeMaps (open_string shut_string)
set_option linter.unusedVariables false
set_option linter.unusedSimpArgs false
theorem own : ownKnob Try.prog.godebug = none := by kernel_rfl
theorem laidOut : laidOutB Try.prog = true := by kernel_rfl
theorem low {H : Type} {enc : TypeId × Value → H} {w : World} {base : Nat} {spare : Nat → Bool} {held : Bool} {t : TypeId} {v : Value} {d : DataW H} {p : List MemPlace} (h : DataW.Trod enc Try.prog w base spare held t v d p) : ∀ x ∈ p, x.block < w.heap.size := by
  obtain ⟨m, hm⟩ := h
  exact DataW.trod_lt m _ _ _ hm
set_option maxRecDepth 100000 in
theorem o223 : OpensT Try.prog 223 (.pair (.int .i64) (.int .i64)) := .struct Try.underlying223 (by kernel_rfl) (.cons rfl (.int (k := .i64) Try.underlying3 (by kernel_rfl)) (.last rfl (.int (k := .i64) Try.underlying3 (by kernel_rfl))))
set_option maxRecDepth 100000 in
theorem o61 : OpensT Try.prog 61 (.pair (.sl 223 (.pair (.int .i64) (.int .i64))) .bool) := .struct Try.underlying61 (by kernel_rfl) (.cons rfl (.slice Try.underlying59 (by kernel_rfl) o223 (by decide)) (.last rfl (.bool Try.underlying4 (by kernel_rfl))))
set_option maxRecDepth 100000 in
theorem lifted (os : Os) (started : os.Started) (H : Type) (enc : TypeId × Value → H) :
    ReturnsInHanded {} Try.checked os 5 .any (Rows.fnExactDashedSpec.pre6 enc Try.prog Try.f5 Rows.fnExactDashedRow.domain false) (Rows.fnExactDashedSpec.post enc Try.prog Try.f5 false true false false) := by
  refine returnsInHanded_of_change_sized (C := Try.checked) own started (by kernel_rfl) Try.func5
    (ChangeSpec.witness6 (enc := enc) (C := Try.checked) false ⟨#[], #[.agg #[.slice none 0 0, .bool false], .slice none 0 0, .int .i64 0], []⟩ 8 (by kernel_rfl) (by kernel_rfl) (by kernel_rfl) (by kernel_rfl)) ?_
  intro W base args ds gs before hval0 hW hcnd hsz0 _
  have hval : ∀ (j : Nat) t v, Try.f5.params[j]? = some t → args[j]? = some v → Value.okWide Try.prog W .any base t v := hval0
  have hW' := hW
  obtain ⟨p, q, hA0, hV, rfl, hfz, hnd⟩ := hW
  have hA : DataW.TrodAll enc Try.prog W 0 (fun _ => true) true Try.f5.params.toList args.toList ds p := hA0
  rw [Try.params5] at hA hval
  obtain ⟨v0, vs0, d0, ds0, p0, q0, hargs, rfl, rfl, h0, r0⟩ := trodAll_cons hA
  obtain ⟨v1, vs1, d1, ds1, p1, q1, rfl, rfl, rfl, h1, r1⟩ := trodAll_cons r0
  obtain ⟨v2, vs2, d2, ds2, p2, q2, rfl, rfl, rfl, h2, r2⟩ := trodAll_cons r1
  obtain ⟨rfl, rfl, rfl⟩ := trodAll_nil r2
  obtain rfl : args = #[v0, v1, v2] := by cases args; simp_all
  obtain ⟨rfl, rfl⟩ := trodVars_none hV
  have k0 := h0
  have lt0 := low h0
  obtain ⟨x0, hr0, g0⟩ := arg_struct Try.underlying61 o61 rfl (hval 0 61 v0 rfl rfl) h0
  have k1 := h1
  have lt1 := low h1
  obtain ⟨x1, hr1, g1⟩ := arg_slice Try.underlying25 (.slice Try.underlying25 (by kernel_rfl) (.int (k := .i64) Try.underlying3 (by kernel_rfl)) (by decide)) (hval 1 25 v1 rfl rfl) h1
  obtain ⟨x2, rfl, rfl, rfl, g2⟩ := open_int Try.underlying3 (hval 2 3 v2 rfl rfl) h2
  have hr2 := val_int (w := W) (k := .i64) (n := x2)
  clear hA0 hval0 hsz0
  obtain ⟨k, oo, hk⟩ := Pure.FnExactDashed x0 x1 x2 g0 g1 g2
  have hcs := runF_ok VFnExactDashed.prog_ok hk
  have hp : ParsRep (lowI W) W [.val (.pair (.sl 223 (.pair (.int .i64) (.int .i64))) .bool), .val (.sl 3 (.int .i64)), .val (.int .i64)] (x0, x1, x2, ()) [_, _, _] [] := ⟨_, _, rfl, hr0, ⟨_, _, rfl, hr1, ⟨_, _, rfl, hr2, ⟨rfl, rfl⟩⟩⟩⟩
  refine (law_ok (pars := [.val (.pair (.sl 223 (.pair (.int .i64) (.int .i64))) .bool), .val (.sl 3 (.int .i64)), .val (.int .i64)]) hcs hp).mono fun e W' ⟨he, bel⟩ => ?_
  subst he
  exact ⟨_, rfl, _, _, _, [], _, [], hW', trodAll_mk1 (shut_bool Try.underlying4 _), (trodAll_cons_mk (Below.trod laidOut (by kernel_rfl) (of_decide_eq_true (by kernel_rfl)) k0 bel lt0) (trodAll_cons_mk (Below.trod laidOut (by kernel_rfl) (of_decide_eq_true (by kernel_rfl)) k1 bel lt1) (trodAll_cons_mk (shut_int Try.underlying3 g2) trodAll_mk0))), rfl, bel.frame _, fun h => by cases h⟩
theorem over : Rows.fnExactDashedRow.holds Try.pinned (OpenSpec.ofChange Rows.fnExactDashedSpec) :=
  OpenClaim.holds_of_wide 5 Try.f5 rfl rfl rfl rfl rfl rfl rfl ⟨rfl, rfl, rfl, rfl, rfl⟩ rfl rfl rfl rfl rfl (by kernel_rfl) Try.func5 (by kernel_rfl)
    (of_decide_eq_true (by kernel_rfl)) (by unfold Func.isWrapper; first | (rw [if_pos (by decide +kernel)]; kernel_rfl) | (rw [if_neg (by decide +kernel)]; exact ⟨rfl, rfl⟩))
    (fun os started H enc _ => lifted os started H enc)
theorem proved : Rows.FnExactDashedSaid := over
#print axioms proved
end Go.Proofs.Ytigkodlbjimikaa.fnExactDashed
namespace Go.Proofs.Ytigkodlbjimikaa
/-- The row, under a short name, for the claim. -/
theorem fnExactDashed_holds : Rows.FnExactDashedSaid := fnExactDashed.proved
end Go.Proofs.Ytigkodlbjimikaa
