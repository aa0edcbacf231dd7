/- Arguments of whatever kind, read: what the cells of an argument say, as a value of a 'Kd'. -/
import Derived.Test.YtiadieifofaobaaRows
import Derived.Test.YtiadieifofaobaaWWords
import Derived.Test.YtiadieifofaobaaWMore
import Derived.Deep.Slices
import Derived.Carry
import Derived.ChangeArms
import Derived.ProofKit
namespace Go.Proofs.Ytiadieifofaobaa.Opens
open Go.RowKit Go.Proofs.YtiadieifofaobaaW.PrintWords Go.ChangeShapes Go.WideShapes Go.Deep

/-- Cells of type t that read as data say an x of the kind kd that is G. -/
structure Opens {α : Type} (P : Program) (t : TypeId) (kd : Kd α) (G : α → Prop) : Prop where
  go : ∀ {H : Type} {enc : TypeId × Value → H} {w : World} {base : Nat} {spare : Nat → Bool} {held : Bool} {fuel : Nat} {cs : List Value} {x : DataW H × List MemPlace},
    DataW.trod enc P w base spare held fuel t cs = some x → ∃ a : α, kd.K w a cs ∧ G a
  sz : kd.sz = P.cellsOf t

/-- Fields from an offset on. -/
structure OpensF {α : Type} (P : Program) (fs : List Field) (off : Nat) (kd : Kd α) (G : α → Prop) : Prop where
  go : ∀ {H : Type} {enc : TypeId × Value → H} {w : World} {base : Nat} {spare : Nat → Bool} {held : Bool} {n : Nat} {cs : List Value},
    (∀ f ∈ fs, ∃ y, DataW.trod enc P w base spare held n f.type ((cs.drop f.offset).take (P.cellsOf f.type)) = some y) → cs.length = off + kd.sz → ∃ a : α, kd.K w a (cs.drop off) ∧ G a

variable {α β : Type} {P : Program} {t e : TypeId}

theorem int {k : IntKind} (ht : P.underlying t = some (.int k)) (hc : P.cellsOf t = 1) : Opens P t (Kd.int k) (fun a => (Lit.int k a).wf = true) :=
  ⟨fun h => by obtain ⟨n, rfl, _, hw⟩ := DataW.trod_int ht h; exact ⟨n, rfl, hw⟩, hc.symm⟩
theorem bool (ht : P.underlying t = some .bool) (hc : P.cellsOf t = 1) : Opens P t Kd.bool (fun _ => True) :=
  ⟨fun h => by obtain ⟨n, rfl, _⟩ := DataW.trod_bool ht h; exact ⟨n, rfl, trivial⟩, hc.symm⟩
theorem str (ht : P.underlying t = some .string) (hc : P.cellsOf t = 1) : Opens P t Kd.string (fun s => s.size ≤ maxLen) :=
  ⟨fun h => by obtain ⟨n, rfl, _, hw⟩ := DataW.trod_string ht h; exact ⟨n, rfl, hw⟩, hc.symm⟩

theorem slice {kd : Kd α} {G : α → Prop} (E : Nat) (ht : P.underlying t = some (.slice e)) (hc : P.cellsOf t = 1) (he : Opens P e kd G) :
    Opens P t (Kd.slice E kd) (fun l => (∀ x ∈ l, G x) ∧ l.length ≤ 9223372036854775807) := by
  refine ⟨fun {H enc w base spare held fuel cs x} h => ?_, hc.symm⟩
  rcases open_slice ht h with ⟨rfl, _⟩ | ⟨a, len, cap, m, n, D, Pl, rfl, hb, hl, hm, hmm, _, hx⟩
  · exact ⟨[], ⟨none, 0, rfl, Nat.le_refl _, rfl, by simp, fun h => absurd h (Nat.lt_irrefl 0)⟩, by simp⟩
  · have hlm : len ≤ m := by rw [hmm]; split <;> omega
    have hmax : len ≤ 9223372036854775807 := by unfold maxLen at hm; omega
    have hall : ∀ i : Fin len, ∃ y : α, G y ∧ ∃ c, c.length = kd.sz ∧ kd.K w y c ∧ ∀ (j : Nat) (u : Value), c[j]? = some u → w.cell? (a.add (i.1 * kd.sz + j)) = some u := by
      intro i
      obtain ⟨cs', hcs, htr⟩ := hx i.1 (Nat.lt_of_lt_of_le i.2 hlm)
      obtain ⟨y, hK, hG⟩ := he.go htr
      obtain ⟨_, hlen, hat⟩ := World.cells?_some hcs
      refine ⟨y, hG, cs', kd.K_len hK, hK, fun j u hj => ?_⟩
      have hjl : j < cs'.length := (List.getElem?_eq_some_iff.1 hj).1
      have := hat j (by omega)
      rw [he.sz, ← Go.Deep.add_add, this, hj]
    let f : Fin len → α := fun i => Classical.choose (hall i)
    have hf : ∀ i : Fin len, G (f i) ∧ ∃ c, c.length = kd.sz ∧ kd.K w (f i) c ∧ ∀ (j : Nat) (u : Value), c[j]? = some u → w.cell? (a.add (i.1 * kd.sz + j)) = some u := fun i => Classical.choose_spec (hall i)
    have hlf : (List.ofFn f).length = len := List.length_ofFn
    refine ⟨List.ofFn f, ⟨some a, cap, by rw [hlf], by rw [hlf]; exact hl, rfl, by rw [hlf]; exact hmax, fun _ => ⟨a, rfl, fun j p hj => ?_⟩⟩, ?_, by rw [hlf]; exact hmax⟩
    · obtain ⟨hjl, rfl⟩ := List.getElem?_eq_some_iff.1 hj
      rw [List.getElem_ofFn]
      exact (hf _).2
    · intro x hx
      obtain ⟨i, rfl⟩ := (List.mem_ofFn).1 hx
      exact (hf i).1

theorem last {kd : Kd α} {G : α → Prop} {f : Field} {off : Nat} (hoff : f.offset = off) (he : Opens P f.type kd G) : OpensF P [f] off kd G := by
  refine ⟨fun {H enc w base spare held n cs} h hl => ?_⟩
  obtain ⟨y, hy⟩ := h f (List.mem_singleton.2 rfl)
  rw [hoff, List.take_of_length_le (by rw [List.length_drop, hl, ← he.sz]; omega)] at hy
  exact he.go hy

theorem cons {kd : Kd α} {G : α → Prop} {kd' : Kd β} {G' : β → Prop} {f : Field} {fs : List Field} {off : Nat} (hoff : f.offset = off) (he : Opens P f.type kd G) (hr : OpensF P fs (off + kd.sz) kd' G') :
    OpensF P (f :: fs) off (Kd.pair kd kd') (fun p => G p.1 ∧ G' p.2) := by
  refine ⟨fun {H enc w base spare held n cs} h hl => ?_⟩
  obtain ⟨y, hy⟩ := h f (List.mem_cons_self ..)
  have hl' : cs.length = (off + kd.sz) + kd'.sz := by rw [hl]; simp only [Kd.pair]; omega
  obtain ⟨b, hK', hG'⟩ := hr.go (fun g hg => h g (List.mem_cons_of_mem _ hg)) hl'
  obtain ⟨a, hK, hG⟩ := he.go hy
  refine ⟨(a, b), ⟨_, _, ?_, hK, hK'⟩, hG, hG'⟩
  rw [hoff, ← he.sz, show cs.drop (off + kd.sz) = (cs.drop off).drop kd.sz by rw [List.drop_drop]]
  exact (List.take_append_drop _ _).symm

theorem struct {kd : Kd α} {G : α → Prop} {fs : Array Field} (ht : P.underlying t = some (.struct fs)) (hc : P.cellsOf t = kd.sz) (hF : OpensF P fs.toList 0 kd G) : Opens P t kd G := by
  refine ⟨fun {H enc w base spare held fuel cs x} h => ?_, hc.symm⟩
  obtain ⟨xs, n, _, _, hl, hlen, hf⟩ := DataW.trod_struct ht h
  have hall : ∀ f ∈ fs.toList, ∃ y, DataW.trod enc P w base spare held n f.type ((cs.drop f.offset).take (P.cellsOf f.type)) = some y := by
    intro f hfm
    obtain ⟨i, hi, hfi⟩ := List.getElem_of_mem hfm
    have hi' : i < fs.size := by simpa using hi
    have := hf i f (by rw [Array.getElem?_eq_getElem hi', ← hfi]; simp)
    rw [this, List.getElem?_eq_getElem (by omega)]
    exact ⟨_, rfl⟩
  simpa using hF.go hall (by omega)

/-- A Lean structure by its fields. -/
theorem iso {kd : Kd α} {G : α → Prop} (f : β → α) (g : α → β) (hfg : ∀ a, f (g a) = a) (h : Opens P t kd G) : Opens P t (Kd.iso kd f) (fun b => G (f b)) := by
  refine ⟨fun {H enc w base spare held fuel cs x} hx => ?_, h.sz⟩
  obtain ⟨a, hK, hG⟩ := h.go hx
  refine ⟨g a, ?_, by show G (f (g a)); rw [hfg]; exact hG⟩
  show kd.K w (f (g a)) cs
  rw [hfg]
  exact hK

/-- A struct that is handed in by value. -/
theorem byValue {kd : Kd α} {G : α → Prop} {fs : Array Field} {H : Type} {enc : TypeId × Value → H} {w : World} {base : Nat} {spare : Nat → Bool} {held : Bool} {r : Reach} {b0 : Nat} {v : Value} {d : DataW H} {p : List MemPlace}
    (hs : P.underlying t = some (.struct fs)) (ho : Opens P t kd G) (hv : Value.okWide P w r b0 t v) (h : DataW.Trod enc P w base spare held t v d p) : ∃ (cs : List Value) (a : α), v = .agg ⟨cs⟩ ∧ kd.K w a cs ∧ G a := by
  obtain ⟨⟨cs⟩, rfl, _⟩ := okWide_struct hs hv
  obtain ⟨fuel, hf⟩ := h
  obtain ⟨a, hK, hG⟩ := ho.go hf
  exact ⟨cs, a, rfl, by simpa [Value.cells] using hK, hG⟩

/-- A slice. -/
theorem bySlice {kd : Kd α} {G : List α → Prop} {E : Nat} {H : Type} {enc : TypeId × Value → H} {w : World} {base : Nat} {spare : Nat → Bool} {held : Bool} {r : Reach} {b0 : Nat} {v : Value} {d : DataW H} {p : List MemPlace}
    (hs : P.underlying t = some (.slice e)) (ho : Opens P t (Kd.slice E kd) G) (hv : Value.okWide P w r b0 t v) (h : DataW.Trod enc P w base spare held t v d p) : ∃ (A : Option Addr) (c : Nat) (l : List α), v = .slice A l.length c ∧ l.length ≤ c ∧ kd.C w A l.length l ∧ G l := by
  obtain ⟨A, n, c, rfl⟩ := okWide_slice hs hv
  obtain ⟨fuel, hf⟩ := h
  obtain ⟨l, ⟨A', c', hcs, hl, hC⟩, hG⟩ := ho.go hf
  have : Value.slice A n c = .slice A' l.length c' := by simpa [Value.cells] using hcs
  cases this
  exact ⟨_, _, l, rfl, hl, hC, hG⟩

/-- The places of a reading lie in the memory there is. -/
theorem low {H : Type} {enc : TypeId × Value → H} {w : World} {base : Nat} {spare : Nat → Bool} {held : Bool} {v : Value} {d : DataW H} {p : List MemPlace} (h : DataW.Trod enc P w base spare held t v d p) : ∀ x ∈ p, x.block < w.heap.size := by
  obtain ⟨m, hm⟩ := h
  exact DataW.trod_lt m _ _ _ hm
end Go.Proofs.Ytiadieifofaobaa.Opens
