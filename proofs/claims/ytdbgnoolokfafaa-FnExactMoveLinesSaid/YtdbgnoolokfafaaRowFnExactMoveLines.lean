/- The row of FnExactMoveLines: the law answers true at every argument, and each argument reads behind the call as it did. -/
import Derived.Test.YtdbgnoolokfafaaRows
import Derived.Test.YtdbgnoolokfafaaHFnExactMoveLinesx23
import Derived.Test.YtdbgnoolokfafaaOpens
import Derived.Test.YtdbgnoolokfafaaPureFnExactMoveLines
import Derived.WalkKit
import Derived.ProofKit
import Derived.OpenShut
import Derived.ShutString
import Derived.ChangeOld
import Derived.Below
import Derived.SizedLaws
import Derived.Carry
namespace Go.Proofs.Ytdbgnoolokfafaa.fnExactMoveLines
open Go.ChangeShapes Go.WideShapes Go.ChangeAt Go.RowKit Go.Proofs.YtdbgnoolokfafaaW.PrintWords Go.Proofs.YtdbgnoolokfafaaW.PrintLast Go.Proofs.Ytdbgnoolokfafaa.HFnExactMoveLines Go.Proofs.Ytdbgnoolokfafaa.Opens
open Go.ChangeMaps (open_string shut_string)
set_option linter.unusedVariables false
theorem own : ownKnob Try.prog.godebug = none := by kernel_rfl
theorem laidOut : laidOutB Try.prog = true := by kernel_rfl
set_option maxRecDepth 100000 in
theorem o134 : Opens Try.prog 134 k134 (fun x => ((Lit.int .i64 x.f0).wf = true) ∧ ((Lit.int .i64 x.f1).wf = true)) := by
  have h := Opens.struct Try.underlying134 (by kernel_rfl) (Opens.cons rfl (Opens.int (k := .i64) Try.underlying3 (by kernel_rfl)) (Opens.last rfl (Opens.int (k := .i64) Try.underlying3 (by kernel_rfl))))
  exact Opens.iso (fun x : S134 => (x.f0, x.f1)) (fun p => ⟨p.1, p.2⟩) (fun _ => rfl) h
set_option maxRecDepth 100000 in
theorem o116 : Opens Try.prog 116 k116 (fun x => ((∀ x134 ∈ x.f0, ((Lit.int .i64 x134.f0).wf = true) ∧ ((Lit.int .i64 x134.f1).wf = true)) ∧ x.f0.length ≤ 9223372036854775807) ∧ (True)) := by
  have h := Opens.struct Try.underlying116 (by kernel_rfl) (Opens.cons rfl (Opens.slice 134 Try.underlying22 (by kernel_rfl) o134) (Opens.last rfl (Opens.bool Try.underlying4 (by kernel_rfl))))
  exact Opens.iso (fun x : S116 => (x.f0, x.f1)) (fun p => ⟨p.1, p.2⟩) (fun _ => rfl) h
set_option maxRecDepth 100000 in
theorem lifted (os : Os) (started : os.Started) (H : Type) (enc : TypeId × Value → H) :
    ReturnsInHanded {} Try.checked os 12 .any (Rows.fnExactMoveLinesSpec.pre6 enc Try.prog Try.f12 Rows.fnExactMoveLinesRow.domain false) (Rows.fnExactMoveLinesSpec.post enc Try.prog Try.f12 false true false false) := by
  refine returnsInHanded_of_change_sized (C := Try.checked) own started (by kernel_rfl) Try.func12
    (ChangeSpec.witness6 (enc := enc) (C := Try.checked) false ⟨#[], #[.agg #[.int .i64 0, .int .i64 0, .int .i64 0, .int .i64 0, .int .i64 0, .int .i64 0], .slice none 0 0], []⟩ 8 (by kernel_rfl) (by kernel_rfl) (by kernel_rfl) (by kernel_rfl)) ?_
  intro W base args ds gs before hval0 hW hcnd hsz0 _
  have hval : ∀ (j : Nat) t v, Try.f12.params[j]? = some t → args[j]? = some v → Value.okWide Try.prog W .any base t v := hval0
  have hW' := hW
  obtain ⟨p, q, hA0, hV, rfl, hfz, hnd⟩ := hW
  have hA : DataW.TrodAll enc Try.prog W 0 (fun _ => true) true Try.f12.params.toList args.toList ds p := hA0
  rw [Try.params12] at hA hval
  obtain ⟨v0, vs0, d0, ds0, p0, q0, hargs, rfl, rfl, h0, r0⟩ := trodAll_cons hA
  obtain ⟨v1, vs1, d1, ds1, p1, q1, rfl, rfl, rfl, h1, r1⟩ := trodAll_cons r0
  obtain ⟨rfl, rfl, rfl⟩ := trodAll_nil r1
  obtain rfl : args = #[v0, v1] := by cases args; simp_all
  obtain ⟨rfl, rfl⟩ := trodVars_none hV
  have k0 := h0
  have lt0 := low h0
  obtain ⟨cs0, x0, rfl, hK0, hG0⟩ := byValue Try.underlying110 (Opens.struct Try.underlying110 (by kernel_rfl) (Opens.cons rfl (Opens.int (k := .i64) Try.underlying3 (by kernel_rfl)) (Opens.cons rfl (Opens.int (k := .i64) Try.underlying3 (by kernel_rfl)) (Opens.cons rfl (Opens.int (k := .i64) Try.underlying3 (by kernel_rfl)) (Opens.cons rfl (Opens.int (k := .i64) Try.underlying3 (by kernel_rfl)) (Opens.cons rfl (Opens.int (k := .i64) Try.underlying3 (by kernel_rfl)) (Opens.last rfl (Opens.int (k := .i64) Try.underlying3 (by kernel_rfl))))))))) (hval 0 110 v0 rfl rfl) h0
  obtain ⟨a0_0, a0_1, a0_2, a0_3, a0_4, a0_5⟩ := x0
  obtain ⟨_, _, rfl, rfl, ⟨_, _, rfl, rfl, ⟨_, _, rfl, rfl, ⟨_, _, rfl, rfl, ⟨_, _, rfl, rfl, rfl⟩⟩⟩⟩⟩ := hK0
  obtain ⟨g0_0, g0_1, g0_2, g0_3, g0_4, g0_5⟩ := hG0
  have k1 := h1
  have lt1 := low h1
  obtain ⟨A1, c1, l1, rfl, hc1, hr1, g1⟩ := bySlice Try.underlying94 (Opens.slice 116 Try.underlying94 (by kernel_rfl) o116) (hval 1 94 v1 rfl rfl) h1
  clear hA0 hval0 hsz0
  obtain ⟨k, hk⟩ := Pure.FnExactMoveLines _ _ _ _ _ _ _ g0_0 g0_1 g0_2 g0_3 g0_4 g0_5 g1
  refine (laws_FnExactMoveLines.calls (k := k) (a0_0 := a0_0) (a0_1 := a0_1) (a0_2 := a0_2) (a0_3 := a0_3) (a0_4 := a0_4) (a0_5 := a0_5) (A1 := A1) (c1 := c1) (l1 := l1) (r := true) (hrt := rfl) (w := W) (hr1 := hr1) (hc1 := hc1) (h := hk)).mono fun e W' ⟨he, bel⟩ => ?_
  subst he
  exact ⟨_, rfl, _, _, _, [], _, [], hW', trodAll_mk1 (shut_bool Try.underlying4 _), (trodAll_cons_mk (Below.trod laidOut (by kernel_rfl) (of_decide_eq_true (by kernel_rfl)) k0 bel lt0) (trodAll_cons_mk (Below.trod laidOut (by kernel_rfl) (of_decide_eq_true (by kernel_rfl)) k1 bel lt1) trodAll_mk0)), rfl, bel.frame _, fun h => by cases h⟩
theorem over : Rows.fnExactMoveLinesRow.holds Try.pinned (OpenSpec.ofChange Rows.fnExactMoveLinesSpec) :=
  OpenClaim.holds_of_wide 12 Try.f12 rfl rfl rfl rfl rfl rfl rfl ⟨rfl, rfl, rfl, rfl, rfl⟩ rfl rfl rfl rfl rfl (by kernel_rfl) Try.func12 (by kernel_rfl)
    (of_decide_eq_true (by kernel_rfl)) (by unfold Func.isWrapper; first | (rw [if_pos (by decide +kernel)]; kernel_rfl) | (rw [if_neg (by decide +kernel)]; exact ⟨rfl, rfl⟩))
    (fun os started H enc _ => lifted os started H enc)
theorem proved : Rows.FnExactMoveLinesSaid := over
#print axioms proved
end Go.Proofs.Ytdbgnoolokfafaa.fnExactMoveLines
namespace Go.Proofs.Ytdbgnoolokfafaa
/-- The row, under a short name, for the claim. -/
theorem fnExactMoveLines_holds : Rows.FnExactMoveLinesSaid := fnExactMoveLines.proved
end Go.Proofs.Ytdbgnoolokfafaa
