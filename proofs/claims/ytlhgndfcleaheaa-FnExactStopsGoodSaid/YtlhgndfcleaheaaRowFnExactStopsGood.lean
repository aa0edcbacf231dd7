/- The row of FnExactStopsGood: the law answers true at every argument, and each argument reads behind the call as it did. -/
import Derived.Test.YtlhgndfcleaheaaRows
import Derived.Test.YtlhgndfcleaheaaPFnExactStopsGoodx5
import Derived.Test.YtlhgndfcleaheaaOpens
import Derived.Test.YtlhgndfcleaheaaPureFnExactStopsGood
import Derived.WalkKit
import Derived.ProofKit
import Derived.OpenShut
import Derived.ShutString
import Derived.ChangeOld
import Derived.Below
import Derived.SizedLaws
import Derived.Carry
namespace Go.Proofs.Ytlhgndfcleaheaa.fnExactStopsGood
open Go.ChangeShapes Go.WideShapes Go.ChangeAt Go.RowKit Go.Proofs.YtlhgndfcleaheaaW.PrintWords Go.Proofs.YtlhgndfcleaheaaW.PrintLast Go.Proofs.Ytlhgndfcleaheaa.PFnExactStopsGood Go.Proofs.Ytlhgndfcleaheaa.Opens
open Go.ChangeMaps (open_string shut_string)
set_option linter.unusedVariables false
theorem own : ownKnob Try.prog.godebug = none := by kernel_rfl
theorem laidOut : laidOutB Try.prog = true := by kernel_rfl
set_option maxRecDepth 100000 in
theorem o23 : Opens Try.prog 23 k23 (fun x => ((Lit.int .i64 x.f0).wf = true) ∧ ((Lit.int .i64 x.f1).wf = true) ∧ ((Lit.int .i64 x.f2).wf = true) ∧ ((Lit.int .i64 x.f3).wf = true)) := by
  have h := Opens.struct Try.underlying23 (by kernel_rfl) (Opens.cons rfl (Opens.int (k := .i64) Try.underlying3 (by kernel_rfl)) (Opens.cons rfl (Opens.int (k := .i64) Try.underlying3 (by kernel_rfl)) (Opens.cons rfl (Opens.int (k := .i64) Try.underlying3 (by kernel_rfl)) (Opens.last rfl (Opens.int (k := .i64) Try.underlying3 (by kernel_rfl))))))
  exact Opens.iso (fun x : S23 => (x.f0, (x.f1, (x.f2, x.f3)))) (fun p => ⟨p.1, p.2.1, p.2.2.1, p.2.2.2⟩) (fun _ => rfl) h
set_option maxRecDepth 100000 in
theorem o108 : Opens Try.prog 108 k108 (fun x => ((Lit.int .i64 x.f0).wf = true) ∧ (((Lit.int .i64 x.f1.f0).wf = true) ∧ ((Lit.int .i64 x.f1.f1).wf = true) ∧ ((Lit.int .i64 x.f1.f2).wf = true) ∧ ((Lit.int .i64 x.f1.f3).wf = true))) := by
  have h := Opens.struct Try.underlying108 (by kernel_rfl) (Opens.cons rfl (Opens.int (k := .i64) Try.underlying3 (by kernel_rfl)) (Opens.last rfl o23))
  exact Opens.iso (fun x : S108 => (x.f0, x.f1)) (fun p => ⟨p.1, p.2⟩) (fun _ => rfl) h
set_option maxRecDepth 100000 in
theorem lifted (os : Os) (started : os.Started) (H : Type) (enc : TypeId × Value → H) :
    ReturnsInHanded {} Try.checked os 11 .any (Rows.fnExactStopsGoodSpec.pre6 enc Try.prog Try.f11 Rows.fnExactStopsGoodRow.domain false) (Rows.fnExactStopsGoodSpec.post enc Try.prog Try.f11 false true false false) := by
  refine returnsInHanded_of_change_sized (C := Try.checked) own started (by kernel_rfl) Try.func11
    (ChangeSpec.witness6 (enc := enc) (C := Try.checked) false ⟨#[], #[.slice none 0 0], []⟩ 8 (by kernel_rfl) (by kernel_rfl) (by kernel_rfl) (by kernel_rfl)) ?_
  intro W base args ds gs before hval0 hW hcnd hsz0 _
  have hval : ∀ (j : Nat) t v, Try.f11.params[j]? = some t → args[j]? = some v → Value.okWide Try.prog W .any base t v := hval0
  have hW' := hW
  obtain ⟨p, q, hA0, hV, rfl, hfz, hnd⟩ := hW
  have hA : DataW.TrodAll enc Try.prog W 0 (fun _ => true) true Try.f11.params.toList args.toList ds p := hA0
  rw [Try.params11] at hA hval
  obtain ⟨v0, vs0, d0, ds0, p0, q0, hargs, rfl, rfl, h0, r0⟩ := trodAll_cons hA
  obtain ⟨rfl, rfl, rfl⟩ := trodAll_nil r0
  obtain rfl : args = #[v0] := by cases args; simp_all
  obtain ⟨rfl, rfl⟩ := trodVars_none hV
  have k0 := h0
  have lt0 := low h0
  obtain ⟨A0, c0, l0, rfl, hc0, hr0, g0⟩ := bySlice Try.underlying67 (Opens.slice 108 Try.underlying67 (by kernel_rfl) o108) (hval 0 67 v0 rfl rfl) h0
  clear hA0 hval0 hsz0
  obtain ⟨k, hk⟩ := Pure.FnExactStopsGood _ g0
  refine (laws_FnExactStopsGood.calls (k := k) (A0 := A0) (c0 := c0) (l0 := l0) (r := true) (w := W) (hr0 := hr0) (hc0 := hc0) (h := hk)).mono fun e W' ⟨he, bel⟩ => ?_
  subst he
  exact ⟨_, rfl, _, _, _, [], _, [], hW', trodAll_mk1 (shut_bool Try.underlying4 _), (trodAll_cons_mk (Below.trod laidOut (by kernel_rfl) (of_decide_eq_true (by kernel_rfl)) k0 bel lt0) trodAll_mk0), rfl, bel.frame _, fun h => by cases h⟩
theorem over : Rows.fnExactStopsGoodRow.holds Try.pinned (OpenSpec.ofChange Rows.fnExactStopsGoodSpec) :=
  OpenClaim.holds_of_wide 11 Try.f11 rfl rfl rfl rfl rfl rfl rfl ⟨rfl, rfl, rfl, rfl, rfl⟩ rfl rfl rfl rfl rfl (by kernel_rfl) Try.func11 (by kernel_rfl)
    (of_decide_eq_true (by kernel_rfl)) (by unfold Func.isWrapper; first | (rw [if_pos (by decide +kernel)]; kernel_rfl) | (rw [if_neg (by decide +kernel)]; exact ⟨rfl, rfl⟩))
    (fun os started H enc _ => lifted os started H enc)
theorem proved : Rows.FnExactStopsGoodSaid := over
#print axioms proved
end Go.Proofs.Ytlhgndfcleaheaa.fnExactStopsGood
namespace Go.Proofs.Ytlhgndfcleaheaa
/-- The row, under a short name, for the claim. -/
theorem fnExactStopsGood_holds : Rows.FnExactStopsGoodSaid := fnExactStopsGood.proved
end Go.Proofs.Ytlhgndfcleaheaa
