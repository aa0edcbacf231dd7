/- Every operation that the reading reads, the machine does. -/
import Derived.Test.YtigkodlbjimikaaVcS
namespace Go.Proofs.Ytigkodlbjimikaa.Vc
open Go Go.RowKit
set_option linter.unusedVariables false
set_option linter.unusedSimpArgs false

section
variable {P : Program} {E : Env} {C : Ctx} {G : Gh} {s : St} {a : Act} {w : World}
theorem astep_ok (hE : EnvOk P E) (h : Inv C G s a w) {o : Oper} (hd : ∀ t, o.dst = some t → t < C.nt) {H : Hints} {q : Bool} {s' : St} (hs : astep E H s o = some (q, s')) (hq : q = true) : OpOk P C s' a o w := by
  cases ho : o.op with
  | move x => exact op_move h hd (.inl ho) hs
  | assign x => exact op_move h hd (.inr ho) hs
  | pick c x y => exact op_pick h hd ho hs
  | alloc t => exact op_alloc hE h hd ho hs
  | box t x => exact op_box h hd ho hs
  | build t ps => exact op_build hE h hd ho hs
  | buildSlice t n ps => exact op_buildSlice hE h hd ho hs
  | load t x => exact op_load hE h hd ho hs
  | store t x y => exact op_store hE h ho hs
  | nilCheck x => exact op_nilCheck h hd ho hs
  | binOp op t x y ty => exact op_binOp hE h hd ho hs hq
  | unOp op t x => exact op_unOp h hd ho hs
  | convert t u x => exact op_convert hE h hd ho hs
  | makeFunc f first caps =>
    cases f with
    | func f => exact op_makeFunc h hd ho hs
    | _ => unfold astep at hs; simp [ho] at hs
  | makeSlice t l c => exact op_makeSlice hE h hd ho hs hq
  | slice t x lo hi mx =>
    cases mx with
    | none => exact op_slice hE h hd ho hs hq
    | some y => unfold astep at hs; simp [ho] at hs
  | fieldAddr t x f => exact op_fieldAddr hE h hd ho hs
  | field t x f => exact op_field hE h hd ho hs
  | indexAddr t x i => exact op_indexAddr hE h hd ho hs hq
  | index t x i => exact op_index hE h hd ho hs hq
  | extract x i => exact op_extract h hd ho hs
  | call c =>
    obtain ⟨callee, args, argTypes⟩ := c
    cases callee with
    | builtin b =>
      cases b with
      | len => exact op_len hE h hd ho hs
      | append => exact op_append hE h hd ho hs hq
      | min => exact op_minmax h hd (.inl rfl) ho hs
      | max => exact op_minmax h hd (.inr rfl) ho hs
      | _ => unfold astep at hs; simp [ho] at hs
    | _ => unfold astep at hs; simp [ho] at hs
  | _ => unfold astep at hs; simp [ho] at hs
end
#print axioms astep_ok

end Go.Proofs.Ytigkodlbjimikaa.Vc
