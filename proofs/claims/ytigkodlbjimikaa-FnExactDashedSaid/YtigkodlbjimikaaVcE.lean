/- What a state tells of a frame and a world. -/
import Derived.Test.YtigkodlbjimikaaVcD
namespace Go.Proofs.Ytigkodlbjimikaa.Vc
open Go Go.RowKit
set_option linter.unusedVariables false
set_option linter.unusedSimpArgs false

/-- The ghost: what stays, each region's blocks and slice, each variable's block. -/
structure Gh where
  I : Nat → Prop
  fp : Nat → List Nat
  root : Nat → Value
  blk : Nat → Nat
  pb : Nat → Prop
/-- The call: the world it began in, the blocks below that are lent to it, its slots. -/
structure Ctx where
  w0 : World
  lent : Nat → Prop
  nt : Nat
  /-- the variables that came in, and their blocks; the slices that came in -/
  home : Nat → Option Nat
  arg : Nat → Value
  /-- what stayed when it began -/
  I0 : Nat → Prop
def Ctx.ok (C : Ctx) (k : Nat) : Prop := C.w0.heap.size ≤ k ∨ C.lent k
structure Frame_ (C : Ctx) (w : World) : Prop where
  os : w.os = C.w0.os
  tape : w.tape = C.w0.tape
  output : w.output = C.w0.output
  size : C.w0.heap.size ≤ w.heap.size
  block : ∀ k, k < C.w0.heap.size → ¬ C.lent k → w.heap[k]? = C.w0.heap[k]?
def fnVal (G : Gh) (f : Nat) (caps : List Nat) : Value := .func (.func f) #[] (caps.map fun b => Value.pointer (some ⟨G.blk b, 0, none⟩)).toArray
/-- A cell and its value. -/
def CRep (G : Gh) (R : Nat → Option Reg) (w : World) : Cell → Value → Prop
  | .int k n, v => v = .int k n
  | .bool b, v => v = .bool b
  | .str s, v => v = .string s
  | .nil _ _, v => v = .slice none 0 0
  | .own r, v => ∃ g, R r = some g ∧ v = G.root r
  | .sub r z lo n, v => ∃ g A len c, R r = some g ∧ G.root r = .slice A len c ∧ 0 ≤ lo ∧ 0 ≤ n ∧ lo + n ≤ (g.xs.length : Int) ∧ (z = true → lo = 0) ∧
      v = .slice (if c = lo.toNat then A else A.map (·.add (lo.toNat * g.t.size))) n.toNat (c - lo.toNat)
  | .inn r i off e t, v => ∃ g gb n c, R r = some g ∧ G.root r = .slice (some ⟨gb, 0, none⟩) n c ∧ 0 ≤ i ∧ i < (g.xs.length : Int) ∧ w.cell? ⟨gb, i.toNat * g.t.size + off, none⟩ = some v ∧ off < g.t.size
  | .view e t xs, v => VRep G.I w (.sl e t) xs [v]
  | .ptr b off, v => G.pb b ∧ v = .pointer (some ⟨G.blk b, off, none⟩)
  | .eptr r i off, v => ∃ g gb n c, R r = some g ∧ G.root r = .slice (some ⟨gb, 0, none⟩) n c ∧ 0 ≤ i ∧ i < (g.xs.length : Int) ∧ v = .pointer (some ⟨gb, i.toNat * g.t.size + off, none⟩)
  | .vptr t x off, v => ∃ (ad : Addr) (cs : List Value), v = .pointer (some (ad.add off)) ∧ G.I ad.block ∧ (∀ j u, cs[j]? = some u → w.cell? (ad.add j) = some u) ∧ VRep G.I w t x cs
  | .fn f caps, v => (∀ b ∈ caps, G.pb b) ∧ v = fnVal G f caps
  | .gone n, v => ∃ p l c, v = .slice p l c ∧ n = (l : Int)
  | .bad, v => v.oneCell' = true
def Cells (G : Gh) (R : Nat → Option Reg) (w : World) : List Cell → List Value → Prop
  | [], vs => vs = []
  | c :: cs, vs => ∃ v l, vs = v :: l ∧ CRep G R w c v ∧ Cells G R w cs l
def KRep (G : Gh) (R : Nat → Option Reg) (w : World) : Comp → Value → Prop
  | .one c, v => CRep G R w c v
  | .agg cs, v => ∃ arr : Array Value, v = .agg arr ∧ Cells G R w cs arr.toList
def Comps (G : Gh) (R : Nat → Option Reg) (w : World) : List Comp → List Value → Prop
  | [], vs => vs = []
  | c :: cs, vs => ∃ v l, vs = v :: l ∧ KRep G R w c v ∧ Comps G R w cs l
def ARep (G : Gh) (R : Nat → Option Reg) (w : World) : AVal → Value → Prop
  | .cp c, v => KRep G R w c v
  | .tup l, v => ∃ vs : Array Value, v = .tuple vs ∧ Comps G R w l vs.toList
  | .bad, _ => True
  | .und, v => v = undef
structure Core (C : Ctx) (G : Gh) (s : St) (w : World) : Prop where
  box : ∀ b x, get s.boxes b = some x → ∃ arr : Array Value, w.heap[G.blk b]? = some (.cells arr x.tid (0, 0)) ∧ Cells G s.reg w x.cells arr.toList
  reg : ∀ r g, s.reg r = some g → DRep w (.sl g.e g.t) g.xs [G.root r] (G.fp r) ∧ (G.fp r).Nodup
  pb : ∀ b, G.pb b → (get s.boxes b).isSome = true
  bb : ∀ b b' x x', get s.boxes b = some x → get s.boxes b' = some x' → b ≠ b' → G.blk b ≠ G.blk b'
  rr : ∀ r r' g g', s.reg r = some g → s.reg r' = some g' → r ≠ r' → ∀ k ∈ G.fp r, k ∉ G.fp r'
  rb : ∀ r g b x, s.reg r = some g → get s.boxes b = some x → G.blk b ∉ G.fp r
  ib : ∀ b x, get s.boxes b = some x → ¬ G.I (G.blk b)
  ir : ∀ r g k, s.reg r = some g → k ∈ G.fp r → ¬ G.I k
  ob : ∀ b x, get s.boxes b = some x → C.ok (G.blk b)
  or : ∀ r g k, s.reg r = some g → k ∈ G.fp r → C.ok k
  ilt : ∀ k, G.I k → k < w.heap.size
  frame : Frame_ C w
  home : ∀ b k, C.home b = some k → (get s.boxes b).isSome = true ∧ G.blk b = k
  orig : ∀ r g j, s.reg r = some g → g.orig = j + 1 → G.root r = C.arg j
  i0 : ∀ k, C.I0 k → G.I k
  i1 : ∀ k, G.I k → C.I0 k ∨ C.ok k
structure Inv (C : Ctx) (G : Gh) (s : St) (a : Act) (w : World) : Prop extends Core C G s w where
  defers : a.defers = []
  size : a.tmps.size = C.nt
  tmp : ∀ t v, get s.tmps t = some v → ARep G s.reg w v (a.tmps.getD t undef)

/-! ### cells, moved from state to state -/
/-- Is the region the same to a cell? -/
structure SameReg (G G' : Gh) (R R' : Nat → Option Reg) (w w' : World) (r : Nat) : Prop where
  reg : ∀ g, R r = some g → ∃ g', R' r = some g' ∧ g'.t = g.t ∧ g'.xs.length = g.xs.length
  root : G'.root r = G.root r
  mem : ∀ gb n c, G.root r = .slice (some ⟨gb, 0, none⟩) n c → w'.heap[gb]? = w.heap[gb]?
theorem CRep.move {G G' : Gh} {R R' : Nat → Option Reg} {w w' : World} (hI : ∀ k, G.I k → G'.I k) (hw : ∀ k, G.I k → w'.heap[k]? = w.heap[k]?)
    (hb : ∀ b, G.pb b → G'.pb b ∧ G'.blk b = G.blk b) {c : Cell} {v : Value} (hr : ∀ r, c.of = some r → SameReg G G' R R' w w' r) (h : CRep G R w c v) : CRep G' R' w' c v := by
  cases c with
  | int k n => exact h
  | bool b => exact h
  | str s => exact h
  | nil e t => exact h
  | own r =>
    obtain ⟨g, hg, rfl⟩ := h
    obtain ⟨g', h1, _⟩ := (hr r rfl).reg g hg
    exact ⟨g', h1, (hr r rfl).root.symm⟩
  | sub r z lo n =>
    obtain ⟨g, A, len, c, hg, h1, h2, h3, h4, h5, h6⟩ := h
    obtain ⟨g', k1, k2, k3⟩ := (hr r rfl).reg g hg
    exact ⟨g', A, len, c, k1, (hr r rfl).root.trans h1, h2, h3, by rw [k3]; exact h4, h5, by rw [k2]; exact h6⟩
  | inn r i off e t =>
    obtain ⟨g, gb, n, c, hg, h1, h2, h3, h4, h5⟩ := h
    obtain ⟨g', k1, k2, k3⟩ := (hr r rfl).reg g hg
    refine ⟨g', gb, n, c, k1, (hr r rfl).root.trans h1, h2, by rw [k3]; exact h3, ?_, by rw [k2]; exact h5⟩
    rw [k2, World.cell?_of_block (w := w) ((hr r rfl).mem gb n c h1)]
    exact h4
  | view e t xs => exact VRep.mono hI hw h
  | ptr b off => exact ⟨(hb b h.1).1, by rw [(hb b h.1).2]; exact h.2⟩
  | eptr r i off =>
    obtain ⟨g, gb, n, c, hg, h1, h2, h3, h4⟩ := h
    obtain ⟨g', k1, k2, k3⟩ := (hr r rfl).reg g hg
    exact ⟨g', gb, n, c, k1, (hr r rfl).root.trans h1, h2, by rw [k3]; exact h3, by rw [k2]; exact h4⟩
  | vptr t x off =>
    obtain ⟨ad, cs, h1, h2, h3, h4⟩ := h
    exact ⟨ad, cs, h1, hI _ h2, fun j u hj => by rw [World.cell?_of_block (w := w) (by rw [add_block]; exact hw _ h2)]; exact h3 j u hj, h4.mono hI hw⟩
  | fn f caps =>
    refine ⟨fun b hb' => (hb b (h.1 b hb')).1, h.2.trans ?_⟩
    unfold fnVal
    congr 2
    exact List.map_congr_left fun b hb' => by rw [(hb b (h.1 b hb')).2]
  | gone n => exact h
  | bad => exact h
theorem Cells.map {G G' : Gh} {R R' : Nat → Option Reg} {w w' : World} (f : Cell → Cell) (hf : ∀ c v, CRep G R w c v → CRep G' R' w' (f c) v) : ∀ {cs : List Cell} {vs : List Value}, Cells G R w cs vs → Cells G' R' w' (cs.map f) vs
  | [], _, h => h
  | c :: cs, _, h => by obtain ⟨v, l, e, h1, h2⟩ := h; exact ⟨v, l, e, hf _ _ h1, h2.map f hf⟩
theorem KRep.map {G G' : Gh} {R R' : Nat → Option Reg} {w w' : World} (f : Cell → Cell) (hf : ∀ c v, CRep G R w c v → CRep G' R' w' (f c) v) {c : Comp} {v : Value} (h : KRep G R w c v) : KRep G' R' w' (c.map f) v := by
  cases c with
  | one c => exact hf _ _ h
  | agg cs => obtain ⟨arr, e, h⟩ := h; exact ⟨arr, e, h.map f hf⟩
theorem Comps.map {G G' : Gh} {R R' : Nat → Option Reg} {w w' : World} (f : Cell → Cell) (hf : ∀ c v, CRep G R w c v → CRep G' R' w' (f c) v) : ∀ {cs : List Comp} {vs : List Value}, Comps G R w cs vs → Comps G' R' w' (cs.map (Comp.map f)) vs
  | [], _, h => h
  | c :: cs, _, h => by obtain ⟨v, l, e, h1, h2⟩ := h; exact ⟨v, l, e, h1.map f hf, h2.map f hf⟩
theorem ARep.map {G G' : Gh} {R R' : Nat → Option Reg} {w w' : World} (f : Cell → Cell) (hf : ∀ c v, CRep G R w c v → CRep G' R' w' (f c) v) {a : AVal} {v : Value} (h : ARep G R w a v) : ARep G' R' w' (a.map f) v := by
  cases a with
  | cp c => exact KRep.map f hf h
  | tup l => obtain ⟨vs, e, h⟩ := h; exact ⟨vs, e, h.map f hf⟩
  | bad => trivial
  | und => exact h
theorem map_id_ (cs : List Cell) : cs.map id = cs := List.map_id cs
theorem Comp.map_id (c : Comp) : c.map id = c := by cases c <;> simp [Comp.map]
theorem AVal.map_id (a : AVal) : a.map id = a := by
  cases a with
  | cp c => simp [AVal.map, Comp.map_id]
  | tup l => simp only [AVal.map]; congr 1; rw [List.map_congr_left (g := id) fun c _ => Comp.map_id c, List.map_id]
  | bad => rfl
  | und => rfl
theorem Cells.move {G G' : Gh} {R R' : Nat → Option Reg} {w w' : World} (hf : ∀ c v, CRep G R w c v → CRep G' R' w' c v) {cs : List Cell} {vs : List Value} (h : Cells G R w cs vs) : Cells G' R' w' cs vs := by
  have := h.map id hf; rwa [map_id_] at this
theorem ARep.move {G G' : Gh} {R R' : Nat → Option Reg} {w w' : World} (hf : ∀ c v, CRep G R w c v → CRep G' R' w' c v) {a : AVal} {v : Value} (h : ARep G R w a v) : ARep G' R' w' a v := by
  have := h.map id hf; rwa [AVal.map_id] at this
theorem Cells.length {G : Gh} {R : Nat → Option Reg} {w : World} : ∀ {cs : List Cell} {vs : List Value}, Cells G R w cs vs → vs.length = cs.length
  | [], _, h => by rw [h]; rfl
  | _ :: _, _, h => by obtain ⟨v, l, rfl, _, h⟩ := h; simp [h.length]
theorem Cells.append {G : Gh} {R : Nat → Option Reg} {w : World} : ∀ {a b : List Cell} {x y : List Value}, Cells G R w a x → Cells G R w b y → Cells G R w (a ++ b) (x ++ y)
  | [], _, _, _, h, k => by rw [h]; exact k
  | _ :: _, _, _, _, h, k => by obtain ⟨v, l, rfl, h1, h2⟩ := h; exact ⟨v, l ++ _, rfl, h1, h2.append k⟩
theorem Cells.split {G : Gh} {R : Nat → Option Reg} {w : World} : ∀ {a b : List Cell} {x : List Value}, Cells G R w (a ++ b) x → ∃ y z, x = y ++ z ∧ Cells G R w a y ∧ Cells G R w b z
  | [], _, x, h => ⟨[], x, rfl, rfl, h⟩
  | _ :: _, _, _, h => by
    obtain ⟨v, l, rfl, h1, h2⟩ := h
    obtain ⟨y, z, rfl, k1, k2⟩ := h2.split
    exact ⟨v :: y, z, rfl, ⟨v, y, rfl, h1, k1⟩, k2⟩
theorem Cells.take {G : Gh} {R : Nat → Option Reg} {w : World} (n : Nat) : ∀ {cs : List Cell} {vs : List Value}, Cells G R w cs vs → Cells G R w (cs.take n) (vs.take n) := by
  induction n with
  | zero => intro cs vs h; simp [Cells]
  | succ n ih =>
    intro cs vs h
    cases cs with
    | nil => rw [h]; simp [Cells]
    | cons c cs => obtain ⟨v, l, rfl, h1, h2⟩ := h; exact ⟨v, l.take n, rfl, h1, ih h2⟩
theorem Cells.drop {G : Gh} {R : Nat → Option Reg} {w : World} (n : Nat) : ∀ {cs : List Cell} {vs : List Value}, Cells G R w cs vs → Cells G R w (cs.drop n) (vs.drop n) := by
  induction n with
  | zero => intro cs vs h; exact h
  | succ n ih =>
    intro cs vs h
    cases cs with
    | nil => rw [h]; simp [Cells]
    | cons c cs => obtain ⟨v, l, rfl, h1, h2⟩ := h; exact ih h2

end Go.Proofs.Ytigkodlbjimikaa.Vc
