/- The row of FnExactSizeOf: the law answers true at every argument, and each argument reads behind the call as it did. -/
import Derived.Test.YtlhgndfcleaheaaRows
import Derived.Test.YtlhgndfcleaheaaPFnExactSizeOfx2
import Derived.Test.YtlhgndfcleaheaaOpens
import Derived.Test.YtlhgndfcleaheaaPureFnExactSizeOf
import Derived.WalkKit
import Derived.ProofKit
import Derived.OpenShut
import Derived.ShutString
import Derived.ChangeOld
import Derived.Below
import Derived.SizedLaws
import Derived.Carry
namespace Go.Proofs.Ytlhgndfcleaheaa.fnExactSizeOf
open Go.ChangeShapes Go.WideShapes Go.ChangeAt Go.RowKit Go.Proofs.YtlhgndfcleaheaaW.PrintWords Go.Proofs.YtlhgndfcleaheaaW.PrintLast Go.Proofs.Ytlhgndfcleaheaa.PFnExactSizeOf Go.Proofs.Ytlhgndfcleaheaa.Opens
open Go.ChangeMaps (open_string shut_string)
set_option linter.unusedVariables false
theorem own : ownKnob Try.prog.godebug = none := by kernel_rfl
theorem laidOut : laidOutB Try.prog = true := by kernel_rfl
set_option maxRecDepth 100000 in
theorem lifted (os : Os) (started : os.Started) (H : Type) (enc : TypeId × Value → H) :
    ReturnsInHanded {} Try.checked os 8 .any (Rows.fnExactSizeOfSpec.pre6 enc Try.prog Try.f8 Rows.fnExactSizeOfRow.domain false) (Rows.fnExactSizeOfSpec.post enc Try.prog Try.f8 false true false false) := by
  refine returnsInHanded_of_change_sized (C := Try.checked) own started (by kernel_rfl) Try.func8
    (ChangeSpec.witness6 (enc := enc) (C := Try.checked) false ⟨#[], #[.agg #[.int .i64 0, .int .i64 0], .agg #[.int .i64 0, .int .i64 0]], []⟩ 8 (by kernel_rfl) (by kernel_rfl) (by kernel_rfl) (by kernel_rfl)) ?_
  intro W base args ds gs before hval0 hW hcnd hsz0 _
  have hval : ∀ (j : Nat) t v, Try.f8.params[j]? = some t → args[j]? = some v → Value.okWide Try.prog W .any base t v := hval0
  have hW' := hW
  obtain ⟨p, q, hA0, hV, rfl, hfz, hnd⟩ := hW
  have hA : DataW.TrodAll enc Try.prog W 0 (fun _ => true) true Try.f8.params.toList args.toList ds p := hA0
  rw [Try.params8] at hA hval
  obtain ⟨v0, vs0, d0, ds0, p0, q0, hargs, rfl, rfl, h0, r0⟩ := trodAll_cons hA
  obtain ⟨v1, vs1, d1, ds1, p1, q1, rfl, rfl, rfl, h1, r1⟩ := trodAll_cons r0
  obtain ⟨rfl, rfl, rfl⟩ := trodAll_nil r1
  obtain rfl : args = #[v0, v1] := by cases args; simp_all
  obtain ⟨rfl, rfl⟩ := trodVars_none hV
  have k0 := h0
  have lt0 := low h0
  obtain ⟨cs0, x0, rfl, hK0, hG0⟩ := byValue Try.underlying29 (Opens.struct Try.underlying29 (by kernel_rfl) (Opens.cons rfl (Opens.int (k := .i64) Try.underlying3 (by kernel_rfl)) (Opens.last rfl (Opens.int (k := .i64) Try.underlying3 (by kernel_rfl))))) (hval 0 29 v0 rfl rfl) h0
  obtain ⟨a0_0, a0_1⟩ := x0
  obtain ⟨_, _, rfl, rfl, rfl⟩ := hK0
  obtain ⟨g0_0, g0_1⟩ := hG0
  have k1 := h1
  have lt1 := low h1
  obtain ⟨cs1, x1, rfl, hK1, hG1⟩ := byValue Try.underlying29 (Opens.struct Try.underlying29 (by kernel_rfl) (Opens.cons rfl (Opens.int (k := .i64) Try.underlying3 (by kernel_rfl)) (Opens.last rfl (Opens.int (k := .i64) Try.underlying3 (by kernel_rfl))))) (hval 1 29 v1 rfl rfl) h1
  obtain ⟨a1_0, a1_1⟩ := x1
  obtain ⟨_, _, rfl, rfl, rfl⟩ := hK1
  obtain ⟨g1_0, g1_1⟩ := hG1
  clear hA0 hval0 hsz0
  obtain ⟨k, hk⟩ := Pure.FnExactSizeOf _ _ _ _ g0_0 g0_1 g1_0 g1_1
  refine (laws_FnExactSizeOf.calls (k := k) (a0_0 := a0_0) (a0_1 := a0_1) (a1_0 := a1_0) (a1_1 := a1_1) (r := true) (w := W) (h := hk)).mono fun e W' ⟨he, bel⟩ => ?_
  subst he
  exact ⟨_, rfl, _, _, _, [], _, [], hW', trodAll_mk1 (shut_bool Try.underlying4 _), (trodAll_cons_mk (Below.trod laidOut (by kernel_rfl) (of_decide_eq_true (by kernel_rfl)) k0 bel lt0) (trodAll_cons_mk (Below.trod laidOut (by kernel_rfl) (of_decide_eq_true (by kernel_rfl)) k1 bel lt1) trodAll_mk0)), rfl, bel.frame _, fun h => by cases h⟩
theorem over : Rows.fnExactSizeOfRow.holds Try.pinned (OpenSpec.ofChange Rows.fnExactSizeOfSpec) :=
  OpenClaim.holds_of_wide 8 Try.f8 rfl rfl rfl rfl rfl rfl rfl ⟨rfl, rfl, rfl, rfl, rfl⟩ rfl rfl rfl rfl rfl (by kernel_rfl) Try.func8 (by kernel_rfl)
    (of_decide_eq_true (by kernel_rfl)) (by unfold Func.isWrapper; first | (rw [if_pos (by decide +kernel)]; kernel_rfl) | (rw [if_neg (by decide +kernel)]; exact ⟨rfl, rfl⟩))
    (fun os started H enc _ => lifted os started H enc)
theorem proved : Rows.FnExactSizeOfSaid := over
#print axioms proved
end Go.Proofs.Ytlhgndfcleaheaa.fnExactSizeOf
namespace Go.Proofs.Ytlhgndfcleaheaa
/-- The row, under a short name, for the claim. -/
theorem fnExactSizeOf_holds : Rows.FnExactSizeOfSaid := fnExactSizeOf.proved
end Go.Proofs.Ytlhgndfcleaheaa
