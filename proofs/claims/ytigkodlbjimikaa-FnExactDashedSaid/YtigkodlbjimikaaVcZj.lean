/- A law: what its arguments read as, and that it answers true. -/
import Derived.Test.YtigkodlbjimikaaVcZi
import Derived.Deep.Slices
import Derived.Carry
import Derived.ChangeArms
import Derived.ProofKit
namespace Go.Proofs.Ytigkodlbjimikaa.Vc
open Go Go.RowKit Go.ChangeShapes Go.WideShapes Go.Deep
set_option linter.unusedVariables false
set_option linter.unusedSimpArgs false

/-- What is known of a value that reads as data. -/
def Wf : (t : Ty) → t.den → Prop
  | .int k, n => (Lit.int k n).wf = true
  | .bool, _ => True
  | .str, s => s.size ≤ maxLen
  | .sl _ t, xs => (∀ x ∈ xs, Wf t x) ∧ xs.length ≤ 9223372036854775807
  | .unit, _ => True
  | .pair a b, x => Wf a x.1 ∧ Wf b x.2
  | .opq, _ => True
def lowI (w : World) : Nat → Prop := fun k => k < w.heap.size
/-- Cells of type t that read as data are a value of the layout. -/
structure OpensT (P : Program) (t : TypeId) (u : Ty) : Prop where
  go : ∀ {H : Type} {enc : TypeId × Value → H} {w : World} {base : Nat} {spare : Nat → Bool} {held : Bool} {fuel : Nat} {cs : List Value} {x : DataW H × List MemPlace},
    DataW.trod enc P w base spare held fuel t cs = some x → ∃ a : u.den, VRep (lowI w) w u a cs ∧ Wf u a
  sz : u.size = P.cellsOf t
/-- Fields from an offset on. -/
structure OpensL (P : Program) (fs : List Field) (off : Nat) (u : Ty) : Prop where
  go : ∀ {H : Type} {enc : TypeId × Value → H} {w : World} {base : Nat} {spare : Nat → Bool} {held : Bool} {n : Nat} {cs : List Value},
    (∀ f ∈ fs, ∃ y, DataW.trod enc P w base spare held n f.type ((cs.drop f.offset).take (P.cellsOf f.type)) = some y) → cs.length = off + u.size → ∃ a : u.den, VRep (lowI w) w u a (cs.drop off) ∧ Wf u a
section
variable {P : Program} {t e : TypeId} {u u' : Ty}
theorem OpensT.int {k : IntKind} (ht : P.underlying t = some (.int k)) (hc : P.cellsOf t = 1) : OpensT P t (.int k) :=
  ⟨fun h => by obtain ⟨n, rfl, _, hw⟩ := DataW.trod_int ht h; exact ⟨n, rfl, hw⟩, hc.symm⟩
theorem OpensT.bool (ht : P.underlying t = some .bool) (hc : P.cellsOf t = 1) : OpensT P t .bool :=
  ⟨fun h => by obtain ⟨n, rfl, _⟩ := DataW.trod_bool ht h; exact ⟨n, rfl, trivial⟩, hc.symm⟩
theorem OpensT.str (ht : P.underlying t = some .string) (hc : P.cellsOf t = 1) : OpensT P t .str :=
  ⟨fun h => by obtain ⟨n, rfl, _, hw⟩ := DataW.trod_string ht h; exact ⟨n, rfl, hw⟩, hc.symm⟩
theorem cell_low {w : World} {ad : Addr} {v : Value} (h : w.cell? ad = some v) : ad.block < w.heap.size := by
  unfold World.cell? at h
  cases hb : w.heap[ad.block]? with
  | none => simp [hb] at h
  | some b => exact (Array.getElem?_eq_some_iff.1 hb).1
theorem OpensT.slice (ht : P.underlying t = some (.slice e)) (hc : P.cellsOf t = 1) (he : OpensT P e u) (h0 : 0 < u.size) : OpensT P t (.sl e u) := by
  refine ⟨fun {H enc w base spare held fuel cs x} h => ?_, hc.symm⟩
  rcases open_slice ht h with ⟨rfl, _⟩ | ⟨a, len, cap, m, n, D, Pl, rfl, hb, hl, hm, hmm, _, hx⟩
  · exact ⟨[], ⟨none, 0, rfl, Nat.le_refl _, fun i hi => absurd hi (Nat.not_lt_zero _)⟩, fun x hx => (by cases hx), by simp⟩
  · have hlm : len ≤ m := by rw [hmm]; split <;> omega
    have hmax : len ≤ 9223372036854775807 := by unfold maxLen at hm; omega
    have hall : ∀ i : Fin len, ∃ y : u.den, Wf u y ∧ ∃ c, VRep (lowI w) w u y c ∧ ∀ (j : Nat) (v : Value), c[j]? = some v → w.cell? (a.add (i.1 * u.size + j)) = some v := by
      intro i
      obtain ⟨cs', hcs, htr⟩ := hx i.1 (Nat.lt_of_lt_of_le i.2 hlm)
      obtain ⟨y, hK, hG⟩ := he.go htr
      obtain ⟨_, hlen, hat⟩ := World.cells?_some hcs
      refine ⟨y, hG, cs', hK, fun j v hj => ?_⟩
      have hjl : j < cs'.length := (List.getElem?_eq_some_iff.1 hj).1
      have := hat j (by omega)
      rw [he.sz, ← Go.Deep.add_add, this, hj]
    let f : Fin len → u.den := fun i => Classical.choose (hall i)
    have hf : ∀ i : Fin len, Wf u (f i) ∧ ∃ c, VRep (lowI w) w u (f i) c ∧ ∀ (j : Nat) (v : Value), c[j]? = some v → w.cell? (a.add (i.1 * u.size + j)) = some v := fun i => Classical.choose_spec (hall i)
    have hlf : (List.ofFn f).length = len := List.length_ofFn
    refine ⟨List.ofFn f, ⟨some a, cap, by rw [hlf], by rw [hlf]; exact hl, fun i hi => ?_⟩, fun x hx => ?_, by rw [hlf]; exact hmax⟩
    · have hi' : i < len := by rw [← hlf]; exact hi
      obtain ⟨_, c, hK, hcell⟩ := hf ⟨i, hi'⟩
      have hcl := hK.length
      refine ⟨a, rfl, ?_, c, hcell, by rw [List.getElem_ofFn]; exact hK⟩
      have h1 := hcell 0 (c[0]'(by omega)) (List.getElem?_eq_getElem (by omega))
      have := cell_low h1
      rwa [add_block] at this
    · obtain ⟨i, rfl⟩ := (List.mem_ofFn).1 hx
      exact (hf i).1
theorem OpensL.last {f : Field} {off : Nat} (hoff : f.offset = off) (he : OpensT P f.type u) : OpensL P [f] off u := by
  refine ⟨fun {H enc w base spare held n cs} h hl => ?_⟩
  obtain ⟨y, hy⟩ := h f (List.mem_singleton.2 rfl)
  rw [hoff, List.take_of_length_le (by rw [List.length_drop, hl, ← he.sz]; omega)] at hy
  exact he.go hy
theorem OpensL.one {f : Field} {off : Nat} (hoff : f.offset = off) (he : OpensT P f.type u) : OpensL P [f] off (.pair u .unit) := by
  refine ⟨fun {H enc w base spare held n cs} h hl => ?_⟩
  obtain ⟨y, hy⟩ := h f (List.mem_singleton.2 rfl)
  rw [hoff, List.take_of_length_le (by rw [List.length_drop, hl, ← he.sz]; simp only [Ty.size]; omega)] at hy
  obtain ⟨a, ha, hw⟩ := he.go hy
  exact ⟨(a, ()), ⟨_, [], by simp, ha, rfl⟩, hw, trivial⟩
theorem OpensL.cons {f : Field} {fs : List Field} {off : Nat} (hoff : f.offset = off) (he : OpensT P f.type u) (hr : OpensL P fs (off + u.size) u') : OpensL P (f :: fs) off (.pair u u') := by
  refine ⟨fun {H enc w base spare held n cs} h hl => ?_⟩
  obtain ⟨y, hy⟩ := h f (List.mem_cons_self ..)
  have hl' : cs.length = (off + u.size) + u'.size := by rw [hl]; simp only [Ty.size]; omega
  obtain ⟨b, hK', hG'⟩ := hr.go (fun g hg => h g (List.mem_cons_of_mem _ hg)) hl'
  obtain ⟨a, hK, hG⟩ := he.go hy
  refine ⟨(a, b), ⟨_, _, ?_, hK, hK'⟩, hG, hG'⟩
  rw [hoff, ← he.sz, show cs.drop (off + u.size) = (cs.drop off).drop u.size by rw [List.drop_drop]]
  exact (List.take_append_drop _ _).symm
theorem OpensT.struct {fs : Array Field} (ht : P.underlying t = some (.struct fs)) (hc : P.cellsOf t = u.size) (hF : OpensL P fs.toList 0 u) : OpensT P t u := by
  refine ⟨fun {H enc w base spare held fuel cs x} h => ?_, hc.symm⟩
  obtain ⟨xs, n, _, _, hl, hlen, hf⟩ := DataW.trod_struct ht h
  have hall : ∀ f ∈ fs.toList, ∃ y, DataW.trod enc P w base spare held n f.type ((cs.drop f.offset).take (P.cellsOf f.type)) = some y := by
    intro f hfm
    obtain ⟨i, hi, hfi⟩ := List.getElem_of_mem hfm
    have hi' : i < fs.size := by simpa using hi
    have := hf i f (by rw [Array.getElem?_eq_getElem hi', ← hfi]; simp)
    rw [this, List.getElem?_eq_getElem (by omega)]
    exact ⟨_, rfl⟩
  simpa using hF.go hall (by omega)

/-! ### arguments -/
section
variable {H : Type} {enc : TypeId × Value → H} {w : World} {base : Nat} {spare : Nat → Bool} {held : Bool} {r : Reach} {b0 : Nat} {v : Value} {d : DataW H} {p : List MemPlace}
theorem arg_struct {fs : Array Field} (hs : P.underlying t = some (.struct fs)) (ho : OpensT P t u) (ha : isAggTy u = true) (hv : Value.okWide P w r b0 t v) (h : DataW.Trod enc P w base spare held t v d p) : ∃ x : u.den, ValRep (lowI w) w u x v ∧ Wf u x := by
  obtain ⟨cs, rfl, _⟩ := okWide_struct hs hv
  obtain ⟨fuel, hf⟩ := h
  obtain ⟨a, hK, hG⟩ := ho.go hf
  exact ⟨a, ⟨cs, by simpa [Value.cells] using hK, fun _ => rfl, fun e => by rw [ha] at e; cases e⟩, hG⟩
theorem arg_slice (hs : P.underlying t = some (.slice e)) (ho : OpensT P t (.sl e u)) (hv : Value.okWide P w r b0 t v) (h : DataW.Trod enc P w base spare held t v d p) : ∃ x : List u.den, ValRep (lowI w) w (.sl e u) x v ∧ Wf (.sl e u) x := by
  obtain ⟨A, n, c, rfl⟩ := okWide_slice hs hv
  obtain ⟨fuel, hf⟩ := h
  obtain ⟨l, hK, hG⟩ := ho.go hf
  exact ⟨l, ⟨#[.slice A n c], by simpa [Value.cells] using hK, fun e => (by cases e), fun _ => rfl⟩, hG⟩
theorem val_int {k : IntKind} {n : Int} : ValRep (lowI w) w (.int k) n (.int k n) := ⟨#[.int k n], rfl, fun e => (by cases e), fun _ => rfl⟩
theorem val_bool {b : Bool} : ValRep (lowI w) w .bool b (.bool b) := ⟨#[.bool b], rfl, fun e => (by cases e), fun _ => rfl⟩
theorem val_str {s : ByteArray} : ValRep (lowI w) w .str s (.string s) := ⟨#[.string s], rfl, fun e => (by cases e), fun _ => rfl⟩
end
/-- A law that is read to answer true answers true, and moves nothing that is there. -/
theorem law_ok {f : FuncId} {pars : List Par} {x : (parsTy pars).den} {o : (outsTy pars).den} (h : CallSpec P ⟨f, pars, [.one (.val .bool)]⟩ x ((true, ()), o)) {W : World} {args : List Value} (hp : ParsRep (lowI W) W pars x args []) :
    Calls P f args.toArray W fun e W' => e = .returned (.bool true) ∧ Below W.heap.size W W' := by
  refine Calls.mono (h (lowI W) W args [] hp List.nodup_nil (fun k hk => by cases hk) (fun k hk => hk)) ?_
  rintro e W' ⟨vs, I', f1, f2, rfl, C, hC0, hCl, hCI, hleft, hfr⟩
  obtain ⟨v, vl, g, gl, rfl, _, hrow, hrest⟩ := hleft.res
  obtain ⟨rfl, _⟩ := hrest
  obtain ⟨v', vl', e1, ⟨hv, _⟩, _⟩ := hrow
  obtain ⟨rfl, _⟩ : v = v' ∧ [] = vl' := by simpa using e1
  replace hv : [v] = [Value.bool true] := hv
  obtain rfl : v = .bool true := by simpa using hv
  refine ⟨rfl, ?_⟩
  have hs := hfr.size
  have hb := hfr.block
  rw [hC0] at hs hb
  exact ⟨hfr.os.trans (by rw [hC0]), hfr.tape.trans (by rw [hC0]), hfr.output.trans (by rw [hC0]), hs, fun k hk => hb k hk fun hl => by have := (hCl k).1 hl; cases this⟩

/-! ### tables -/
def AllF {α : Type} (Q : α → Prop) : List α → Prop
  | [] => True
  | x :: l => Q x ∧ AllF Q l
theorem AllF.of {α : Type} {Q : α → Prop} : ∀ {l : List α}, AllF Q l → ∀ x ∈ l, Q x
  | [], _, x, hx => by cases hx
  | y :: l, h, x, hx => by
    rcases List.mem_cons.1 hx with rfl | hx
    · exact h.1
    · exact AllF.of h.2 x hx
theorem envOk_of {E : Env} (ht : (E.types.all fun p => tyRow P E p.1 p.2) = true) (hf : AllF (fun p : Nat × Func => P.funcs[p.1]? = some p.2 ∧ (p.2.name == "runtime.NumGoroutine") = false) E.funcs) : EnvOk P E :=
  ⟨fun t ti h => List.all_eq_true.1 ht _ (get_mem h), fun f fn h => hf.of _ (get_mem h)⟩
end

end Go.Proofs.Ytigkodlbjimikaa.Vc
