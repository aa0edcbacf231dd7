/- The row of FnExactTintOf: the law answers true at every argument, and each argument reads behind the call as it did. -/
import Derived.Test.YtlhgndfcleaheaaRows
import Derived.Test.YtlhgndfcleaheaaHFnExactTintOfx6
import Derived.Test.YtlhgndfcleaheaaOpens
import Derived.Test.YtlhgndfcleaheaaPureFnExactTintOf
import Derived.WalkKit
import Derived.ProofKit
import Derived.OpenShut
import Derived.ShutString
import Derived.ChangeOld
import Derived.Below
import Derived.SizedLaws
import Derived.Carry
namespace Go.Proofs.Ytlhgndfcleaheaa.fnExactTintOf
open Go.ChangeShapes Go.WideShapes Go.ChangeAt Go.RowKit Go.Proofs.YtlhgndfcleaheaaW.PrintWords Go.Proofs.YtlhgndfcleaheaaW.PrintLast Go.Proofs.Ytlhgndfcleaheaa.HFnExactTintOf Go.Proofs.Ytlhgndfcleaheaa.Opens
open Go.ChangeMaps (open_string shut_string)
set_option linter.unusedVariables false
theorem own : ownKnob Try.prog.godebug = none := by kernel_rfl
theorem laidOut : laidOutB Try.prog = true := by kernel_rfl
set_option maxRecDepth 100000 in
theorem lifted (os : Os) (started : os.Started) (H : Type) (enc : TypeId × Value → H) :
    ReturnsInHanded {} Try.checked os 5 .any (Rows.fnExactTintOfSpec.pre6 enc Try.prog Try.f5 Rows.fnExactTintOfRow.domain false) (Rows.fnExactTintOfSpec.post enc Try.prog Try.f5 false true false false) := by
  refine returnsInHanded_of_change_sized (C := Try.checked) own started (by kernel_rfl) Try.func5
    (ChangeSpec.witness6 (enc := enc) (C := Try.checked) false ⟨#[], #[.agg #[.int .i64 0, .int .i64 0, .int .i64 0], .int .i64 0], []⟩ 8 (by kernel_rfl) (by kernel_rfl) (by kernel_rfl) (by kernel_rfl)) ?_
  intro W base args ds gs before hval0 hW hcnd hsz0 _
  have hval : ∀ (j : Nat) t v, Try.f5.params[j]? = some t → args[j]? = some v → Value.okWide Try.prog W .any base t v := hval0
  have hW' := hW
  obtain ⟨p, q, hA0, hV, rfl, hfz, hnd⟩ := hW
  have hA : DataW.TrodAll enc Try.prog W 0 (fun _ => true) true Try.f5.params.toList args.toList ds p := hA0
  rw [Try.params5] at hA hval
  obtain ⟨v0, vs0, d0, ds0, p0, q0, hargs, rfl, rfl, h0, r0⟩ := trodAll_cons hA
  obtain ⟨v1, vs1, d1, ds1, p1, q1, rfl, rfl, rfl, h1, r1⟩ := trodAll_cons r0
  obtain ⟨rfl, rfl, rfl⟩ := trodAll_nil r1
  obtain rfl : args = #[v0, v1] := by cases args; simp_all
  obtain ⟨rfl, rfl⟩ := trodVars_none hV
  have k0 := h0
  have lt0 := low h0
  obtain ⟨cs0, x0, rfl, hK0, hG0⟩ := byValue Try.underlying36 (Opens.struct Try.underlying36 (by kernel_rfl) (Opens.cons rfl (Opens.int (k := .i64) Try.underlying3 (by kernel_rfl)) (Opens.cons rfl (Opens.int (k := .i64) Try.underlying3 (by kernel_rfl)) (Opens.last rfl (Opens.int (k := .i64) Try.underlying3 (by kernel_rfl)))))) (hval 0 36 v0 rfl rfl) h0
  obtain ⟨a0_0, a0_1, a0_2⟩ := x0
  obtain ⟨_, _, rfl, rfl, ⟨_, _, rfl, rfl, rfl⟩⟩ := hK0
  obtain ⟨g0_0, g0_1, g0_2⟩ := hG0
  obtain ⟨a1, rfl, rfl, rfl, g1⟩ := open_int Try.underlying3 (hval 1 3 v1 rfl rfl) h1
  clear hA0 hval0 hsz0
  have hk := Pure.FnExactTintOf _ _ _ _ g0_0 g0_1 g0_2 g1
  refine (laws_FnExactTintOf.calls (a0_0 := a0_0) (a0_1 := a0_1) (a0_2 := a0_2) (a1 := a1) (r := true) (hrt := rfl) (w := W) (h := hk)).mono fun e W' ⟨he, bel⟩ => ?_
  subst he
  exact ⟨_, rfl, _, _, _, [], _, [], hW', trodAll_mk1 (shut_bool Try.underlying4 _), (trodAll_cons_mk (Below.trod laidOut (by kernel_rfl) (of_decide_eq_true (by kernel_rfl)) k0 bel lt0) (trodAll_cons_mk (shut_int Try.underlying3 g1) trodAll_mk0)), rfl, bel.frame _, fun h => by cases h⟩
theorem over : Rows.fnExactTintOfRow.holds Try.pinned (OpenSpec.ofChange Rows.fnExactTintOfSpec) :=
  OpenClaim.holds_of_wide 5 Try.f5 rfl rfl rfl rfl rfl rfl rfl ⟨rfl, rfl, rfl, rfl, rfl⟩ rfl rfl rfl rfl rfl (by kernel_rfl) Try.func5 (by kernel_rfl)
    (of_decide_eq_true (by kernel_rfl)) (by unfold Func.isWrapper; first | (rw [if_pos (by decide +kernel)]; kernel_rfl) | (rw [if_neg (by decide +kernel)]; exact ⟨rfl, rfl⟩))
    (fun os started H enc _ => lifted os started H enc)
theorem proved : Rows.FnExactTintOfSaid := over
#print axioms proved
end Go.Proofs.Ytlhgndfcleaheaa.fnExactTintOf
namespace Go.Proofs.Ytlhgndfcleaheaa
/-- The row, under a short name, for the claim. -/
theorem fnExactTintOf_holds : Rows.FnExactTintOfSaid := fnExactTintOf.proved
end Go.Proofs.Ytlhgndfcleaheaa
