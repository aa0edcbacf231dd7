/- The row of FnExactCurveAt: the law answers true at every argument, and each argument reads behind the call as it did. -/
import Derived.Test.YtdbgnoolokfafaaRows
import Derived.Test.YtdbgnoolokfafaaHFnExactCurveAtx9
import Derived.Test.YtdbgnoolokfafaaOpens
import Derived.Test.YtdbgnoolokfafaaPureFnExactCurveAt
import Derived.WalkKit
import Derived.ProofKit
import Derived.OpenShut
import Derived.ShutString
import Derived.ChangeOld
import Derived.Below
import Derived.SizedLaws
import Derived.Carry
namespace Go.Proofs.Ytdbgnoolokfafaa.fnExactCurveAt
open Go.ChangeShapes Go.WideShapes Go.ChangeAt Go.RowKit Go.Proofs.YtdbgnoolokfafaaW.PrintWords Go.Proofs.YtdbgnoolokfafaaW.PrintLast Go.Proofs.Ytdbgnoolokfafaa.HFnExactCurveAt Go.Proofs.Ytdbgnoolokfafaa.Opens
open Go.ChangeMaps (open_string shut_string)
set_option linter.unusedVariables false
theorem own : ownKnob Try.prog.godebug = none := by kernel_rfl
theorem laidOut : laidOutB Try.prog = true := by kernel_rfl
set_option maxRecDepth 100000 in
theorem o134 : Opens Try.prog 134 k134 (fun x => ((Lit.int .i64 x.f0).wf = true) ∧ ((Lit.int .i64 x.f1).wf = true)) := by
  have h := Opens.struct Try.underlying134 (by kernel_rfl) (Opens.cons rfl (Opens.int (k := .i64) Try.underlying3 (by kernel_rfl)) (Opens.last rfl (Opens.int (k := .i64) Try.underlying3 (by kernel_rfl))))
  exact Opens.iso (fun x : S134 => (x.f0, x.f1)) (fun p => ⟨p.1, p.2⟩) (fun _ => rfl) h
set_option maxRecDepth 100000 in
theorem lifted (os : Os) (started : os.Started) (H : Type) (enc : TypeId × Value → H) :
    ReturnsInHanded {} Try.checked os 3 .any (Rows.fnExactCurveAtSpec.pre6 enc Try.prog Try.f3 Rows.fnExactCurveAtRow.domain false) (Rows.fnExactCurveAtSpec.post enc Try.prog Try.f3 false true false false) := by
  refine returnsInHanded_of_change_sized (C := Try.checked) own started (by kernel_rfl) Try.func3
    (ChangeSpec.witness6 (enc := enc) (C := Try.checked) false ⟨#[], #[.slice none 0 0, .int .i64 0], []⟩ 8 (by kernel_rfl) (by kernel_rfl) (by kernel_rfl) (by kernel_rfl)) ?_
  intro W base args ds gs before hval0 hW hcnd hsz0 _
  have hval : ∀ (j : Nat) t v, Try.f3.params[j]? = some t → args[j]? = some v → Value.okWide Try.prog W .any base t v := hval0
  have hW' := hW
  obtain ⟨p, q, hA0, hV, rfl, hfz, hnd⟩ := hW
  have hA : DataW.TrodAll enc Try.prog W 0 (fun _ => true) true Try.f3.params.toList args.toList ds p := hA0
  rw [Try.params3] at hA hval
  obtain ⟨v0, vs0, d0, ds0, p0, q0, hargs, rfl, rfl, h0, r0⟩ := trodAll_cons hA
  obtain ⟨v1, vs1, d1, ds1, p1, q1, rfl, rfl, rfl, h1, r1⟩ := trodAll_cons r0
  obtain ⟨rfl, rfl, rfl⟩ := trodAll_nil r1
  obtain rfl : args = #[v0, v1] := by cases args; simp_all
  obtain ⟨rfl, rfl⟩ := trodVars_none hV
  have k0 := h0
  have lt0 := low h0
  obtain ⟨A0, c0, l0, rfl, hc0, hr0, g0⟩ := bySlice Try.underlying22 (Opens.slice 134 Try.underlying22 (by kernel_rfl) o134) (hval 0 22 v0 rfl rfl) h0
  obtain ⟨a1, rfl, rfl, rfl, g1⟩ := open_int Try.underlying3 (hval 1 3 v1 rfl rfl) h1
  clear hA0 hval0 hsz0
  obtain ⟨k, hk⟩ := Pure.FnExactCurveAt _ _ g0 g1
  refine (laws_FnExactCurveAt.calls (k := k) (A0 := A0) (c0 := c0) (l0 := l0) (a1 := a1) (r := true) (hrt := rfl) (w := W) (hr0 := hr0) (hc0 := hc0) (h := hk)).mono fun e W' ⟨he, bel⟩ => ?_
  subst he
  exact ⟨_, rfl, _, _, _, [], _, [], hW', trodAll_mk1 (shut_bool Try.underlying4 _), (trodAll_cons_mk (Below.trod laidOut (by kernel_rfl) (of_decide_eq_true (by kernel_rfl)) k0 bel lt0) (trodAll_cons_mk (shut_int Try.underlying3 g1) trodAll_mk0)), rfl, bel.frame _, fun h => by cases h⟩
theorem over : Rows.fnExactCurveAtRow.holds Try.pinned (OpenSpec.ofChange Rows.fnExactCurveAtSpec) :=
  OpenClaim.holds_of_wide 3 Try.f3 rfl rfl rfl rfl rfl rfl rfl ⟨rfl, rfl, rfl, rfl, rfl⟩ rfl rfl rfl rfl rfl (by kernel_rfl) Try.func3 (by kernel_rfl)
    (of_decide_eq_true (by kernel_rfl)) (by unfold Func.isWrapper; first | (rw [if_pos (by decide +kernel)]; kernel_rfl) | (rw [if_neg (by decide +kernel)]; exact ⟨rfl, rfl⟩))
    (fun os started H enc _ => lifted os started H enc)
theorem proved : Rows.FnExactCurveAtSaid := over
#print axioms proved
end Go.Proofs.Ytdbgnoolokfafaa.fnExactCurveAt
namespace Go.Proofs.Ytdbgnoolokfafaa
/-- The row, under a short name, for the claim. -/
theorem fnExactCurveAt_holds : Rows.FnExactCurveAtSaid := fnExactCurveAt.proved
end Go.Proofs.Ytdbgnoolokfafaa
