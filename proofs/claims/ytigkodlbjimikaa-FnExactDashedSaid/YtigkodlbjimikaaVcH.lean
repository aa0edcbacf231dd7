/- How states move: regions and variables new, stores. -/
import Derived.Test.YtigkodlbjimikaaVcG
namespace Go.Proofs.Ytigkodlbjimikaa.Vc
open Go Go.RowKit
set_option linter.unusedVariables false
set_option linter.unusedSimpArgs false

def upd {α : Type} (f : Nat → α) (n : Nat) (x : α) : Nat → α := fun m => if m = n then x else f m
theorem upd_same {α : Type} (f : Nat → α) (n : Nat) (x : α) : upd f n x n = x := if_pos rfl
theorem upd_ne {α : Type} (f : Nat → α) {n m : Nat} (x : α) (h : m ≠ n) : upd f n x m = f m := if_neg h
theorem setReg_reg (s : St) (r : Nat) (g : Reg) (q : Nat) : (s.setReg r g).reg q = if q = r then some g else s.reg q := get_ins r g q s.regs
theorem setBox_box (s : St) (b : Nat) (x : Box) (q : Nat) : get (s.setBox b x).boxes q = if q = b then some x else get s.boxes q := get_ins b x q s.boxes
theorem Core.rootIn {C : Ctx} {G : Gh} {s : St} {w : World} (h : Core C G s w) {r : Nat} {g : Reg} (hg : s.reg r = some g) {gb n c : Nat} (hr : G.root r = .slice (some ⟨gb, 0, none⟩) n c) : gb ∈ G.fp r := by
  obtain ⟨v, cells, fps, e1, ho, e2, hel⟩ := (h.reg r g hg).1
  obtain rfl : G.root r = v := by simpa using e1
  rw [e2, hr]
  simp [blockOf, Value.ownBlock]

/-! ### a region is told anew -/
def Gh.setReg (G : Gh) (r : Nat) (root : Value) (fp : List Nat) : Gh := { G with fp := upd G.fp r fp, root := upd G.root r root }
/-- What a region's new memory is apart from. -/
structure Apart (C : Ctx) (G : Gh) (s : St) (r : Nat) (fp : List Nat) : Prop where
  nodup : fp.Nodup
  still : ∀ k ∈ fp, ¬ G.I k
  box : ∀ k ∈ fp, ∀ b x, get s.boxes b = some x → G.blk b ≠ k
  reg : ∀ k ∈ fp, ∀ q g, q ≠ r → s.reg q = some g → k ∉ G.fp q
  ok : ∀ k ∈ fp, C.ok k
/-- Where the world may have moved: in these blocks alone. -/
structure Moved (w w' : World) (fp : List Nat) : Prop where
  size : w.heap.size ≤ w'.heap.size
  keep : ∀ k, k < w.heap.size → k ∉ fp → w'.heap[k]? = w.heap[k]?
theorem Core.blkLt {C : Ctx} {G : Gh} {s : St} {w : World} (h : Core C G s w) {b : Nat} {x : Box} (hb : get s.boxes b = some x) : G.blk b < w.heap.size := by
  obtain ⟨arr, h1, _⟩ := h.box b x hb
  exact (Array.getElem?_eq_some_iff.1 h1).1
theorem Core.fpLt {C : Ctx} {G : Gh} {s : St} {w : World} (h : Core C G s w) {r : Nat} {g : Reg} (hg : s.reg r = some g) : ∀ k ∈ G.fp r, k < w.heap.size := (h.reg r g hg).1.lt
/-- A region that was not there, or one whose slice stays what it was. -/
theorem Core.setReg {C : Ctx} {G : Gh} {s : St} {w w' : World} (h : Core C G s w) {r : Nat} {g : Reg} {root : Value} {fp old : List Nat} (ha : Apart C G s r fp) (hm : Moved w w' old) (ho : ∀ k ∈ old, k ∈ fp ∨ (∃ g0, s.reg r = some g0 ∧ k ∈ G.fp r)) (hf : Frame_ C w') (hor : ∀ j, g.orig = j + 1 → root = C.arg j)
    (hd : DRep w' (.sl g.e g.t) g.xs [root] fp) (hcell : ∀ b x c v, get s.boxes b = some x → c ∈ x.cells → CRep G s.reg w c v → CRep (G.setReg r root fp) (s.setReg r g).reg w' c v) : Core C (G.setReg r root fp) (s.setReg r g) w' := by
  have hnb : ∀ b x, get s.boxes b = some x → G.blk b ∉ old := fun b x hb hk => by
    rcases ho _ hk with hk | ⟨g0, hg0, hk⟩
    · exact ha.box _ hk b x hb rfl
    · exact h.rb r g0 b x hg0 hb hk
  have hnr : ∀ q g', q ≠ r → s.reg q = some g' → ∀ k ∈ G.fp q, k ∉ old := fun q g' hq hg' k hk hk' => by
    rcases ho _ hk' with hk' | ⟨g0, hg0, hk'⟩
    · exact ha.reg k hk' q g' hq hg' hk
    · exact h.rr q r g' g0 hg' hg0 hq k hk hk'
  have cell : ∀ {cs : List Cell} {vs : List Value}, (∀ c ∈ cs, ∀ v, CRep G s.reg w c v → CRep (G.setReg r root fp) (s.setReg r g).reg w' c v) → Cells G s.reg w cs vs → Cells (G.setReg r root fp) (s.setReg r g).reg w' cs vs := by
    intro cs
    induction cs with
    | nil => intro vs _ h; exact h
    | cons c cs ih =>
      intro vs hh hc
      obtain ⟨v, l, e, h1, h2⟩ := hc
      exact ⟨v, l, e, hh c (by simp) v h1, ih (fun c' hc' => hh c' (by simp [hc'])) h2⟩
  have rg : ∀ {q g'}, (s.setReg r g).reg q = some g' → (q = r ∧ g' = g) ∨ (q ≠ r ∧ s.reg q = some g') := by
    intro q g' hq
    rw [setReg_reg] at hq
    by_cases e : q = r
    · rw [if_pos e] at hq; exact .inl ⟨e, (Option.some.inj hq).symm⟩
    · rw [if_neg e] at hq; exact .inr ⟨e, hq⟩
  have fps : (G.setReg r root fp).fp r = fp := upd_same _ _ _
  have fpn : ∀ {q}, q ≠ r → (G.setReg r root fp).fp q = G.fp q := fun hq => upd_ne _ _ hq
  refine ⟨?_, ?_, h.pb, h.bb, ?_, ?_, h.ib, ?_, h.ob, ?_, ?_, hf, h.home, ?_, h.i0, h.i1⟩
  · intro b x hb
    obtain ⟨arr, h1, h2⟩ := h.box b x hb
    refine ⟨arr, ?_, cell (fun c hc v hv => hcell b x c v hb hc hv) h2⟩
    rw [show (G.setReg r root fp).blk b = G.blk b from rfl, hm.keep _ (h.blkLt hb) (hnb b x hb)]; exact h1
  · intro q g' hq
    rcases rg hq with ⟨rfl, rfl⟩ | ⟨hne, hq'⟩
    · rw [fps, show (G.setReg q root fp).root q = root from upd_same _ _ _]
      exact ⟨hd, ha.nodup⟩
    · rw [fpn hne, show (G.setReg r root fp).root q = G.root q from upd_ne _ _ hne]
      exact ⟨(h.reg q g' hq').1.frame fun k hk => hm.keep k (h.fpLt hq' k hk) (hnr q g' hne hq' k hk), (h.reg q g' hq').2⟩
  · intro q q' g1 g2 hq hq' hne k hk
    rcases rg hq with ⟨rfl, rfl⟩ | ⟨n1, hq1⟩
    · rcases rg hq' with ⟨rfl, rfl⟩ | ⟨n2, hq2⟩
      · exact absurd rfl hne
      · rw [fps] at hk; rw [fpn n2]; exact ha.reg k hk q' g2 n2 hq2
    · rcases rg hq' with ⟨rfl, rfl⟩ | ⟨n2, hq2⟩
      · rw [fpn n1] at hk; rw [fps]; exact fun hk' => ha.reg k hk' q g1 n1 hq1 hk
      · rw [fpn n1] at hk; rw [fpn n2]; exact h.rr q q' g1 g2 hq1 hq2 hne k hk
  · intro q g' b x hq hb
    rcases rg hq with ⟨rfl, rfl⟩ | ⟨n1, hq1⟩
    · rw [fps]; exact fun hk => ha.box _ hk b x hb rfl
    · rw [fpn n1]; exact h.rb q g' b x hq1 hb
  · intro q g' k hq hk
    rcases rg hq with ⟨rfl, rfl⟩ | ⟨n1, hq1⟩
    · rw [fps] at hk; exact ha.still k hk
    · rw [fpn n1] at hk; exact h.ir q g' k hq1 hk
  · intro q g' k hq hk
    rcases rg hq with ⟨rfl, rfl⟩ | ⟨n1, hq1⟩
    · rw [fps] at hk; exact ha.ok k hk
    · rw [fpn n1] at hk; exact h.or q g' k hq1 hk
  · intro k hk; have := h.ilt k hk; have := hm.size; omega
  · intro q g' j hq hj
    rcases rg hq with ⟨rfl, rfl⟩ | ⟨n1, hq1⟩
    · rw [show (G.setReg q root fp).root q = root from upd_same _ _ _]; exact hor j hj
    · rw [show (G.setReg r root fp).root q = G.root q from upd_ne _ _ n1]; exact h.orig q g' j hq1 hj
/-- No cell hangs on a region that is not there. -/
theorem CRep.has {G : Gh} {R : Nat → Option Reg} {w : World} {c : Cell} {v : Value} (hc : CRep G R w c v) {r : Nat} (hr : c.of = some r) : (R r).isSome = true := by
  cases c with
  | own q' => obtain rfl : q' = r := Option.some.inj hr; obtain ⟨g', hg', _⟩ := hc; rw [hg']; rfl
  | sub q' z lo n => obtain rfl : q' = r := Option.some.inj hr; obtain ⟨g', _, _, _, hg', _⟩ := hc; rw [hg']; rfl
  | inn q' i off e t => obtain rfl : q' = r := Option.some.inj hr; obtain ⟨g', _, _, _, hg', _⟩ := hc; rw [hg']; rfl
  | eptr q' i off => obtain rfl : q' = r := Option.some.inj hr; obtain ⟨g', _, _, _, hg', _⟩ := hc; rw [hg']; rfl
  | int k n => cases hr
  | bool b => cases hr
  | str b => cases hr
  | nil e t => cases hr
  | view e t xs => cases hr
  | ptr b off => cases hr
  | vptr t x off => cases hr
  | fn f caps => cases hr
  | gone n => cases hr
  | bad => cases hr
/-- Cells that do not hang on a region go along when it is told anew. -/
theorem Core.setReg_cell {C : Ctx} {G : Gh} {s : St} {w w' : World} (h : Core C G s w) {r : Nat} {g : Reg} {root : Value} {fp old : List Nat} (ha : Apart C G s r fp) (hm : Moved w w' old) (ho : ∀ k ∈ old, k ∈ fp ∨ (∃ g0, s.reg r = some g0 ∧ k ∈ G.fp r))
    {c : Cell} {v : Value} (hc : CRep G s.reg w c v) (hne : c.of ≠ some r) : CRep (G.setReg r root fp) (s.setReg r g).reg w' c v := by
  refine CRep.move (G := G) (G' := G.setReg r root fp) (fun _ hk => hk) (fun k hk => hm.keep k (h.ilt k hk) fun hk' => ?_) (fun _ hb => ⟨hb, rfl⟩) (fun q hq => ?_) hc
  · rcases ho k hk' with hk' | ⟨g0, hg0, hk'⟩
    · exact ha.still k hk' hk
    · exact h.ir r g0 k hg0 hk' hk
  · have hqr : q ≠ r := fun e => hne (by rw [hq, e])
    refine ⟨fun g' hg' => ⟨g', by rw [setReg_reg, if_neg hqr]; exact hg', rfl, rfl⟩, upd_ne _ _ hqr, fun gb n c0 hroot => ?_⟩
    by_cases hs : (s.reg q).isSome = true
    · obtain ⟨g', hg'⟩ := Option.isSome_iff_exists.1 hs
      have hgb := h.rootIn hg' hroot
      refine hm.keep gb (h.fpLt hg' gb hgb) fun hk' => ?_
      rcases ho gb hk' with hk' | ⟨g0, hg0, hk'⟩
      · exact ha.reg gb hk' q g' hqr hg' hgb
      · exact h.rr q r g' g0 hg' hg0 hqr gb hgb hk'
    · exact absurd (hc.has hq) hs
/-- A new region. -/
theorem Inv.newReg {C : Ctx} {G : Gh} {s : St} {a : Act} {w w' : World} (h : Inv C G s a w) {r : Nat} (hn : s.reg r = none) {g : Reg} {root : Value} {fp old : List Nat} (ha : Apart C G s r fp) (hm : Moved w w' old) (ho : ∀ k ∈ old, k ∈ fp) (hf : Frame_ C w') (hor : g.orig = 0)
    (hd : DRep w' (.sl g.e g.t) g.xs [root] fp) : Inv C (G.setReg r root fp) (s.setReg r g) a w' := by
  have mv : ∀ c v, CRep G s.reg w c v → CRep (G.setReg r root fp) (s.setReg r g).reg w' c v := fun c v hc =>
    h.toCore.setReg_cell ha hm (fun k hk => .inl (ho k hk)) hc fun e => by have := hc.has e; rw [hn] at this; cases this
  exact h.step0 (h.toCore.setReg ha hm (fun k hk => .inl (ho k hk)) hf (fun j hj => by rw [hor] at hj; cases hj) hd fun b x c v _ _ hc => mv c v hc) rfl mv
/-- A region whose elements are put anew. -/
theorem Inv.setReg {C : Ctx} {G : Gh} {s : St} {a : Act} {w w' : World} (h : Inv C G s a w) {r : Nat} {g0 : Reg} (hg : s.reg r = some g0) {g : Reg} {fp old : List Nat} (ht : g.t = g0.t) (hl : g.xs.length = g0.xs.length) (hor : g.orig = g0.orig) (ha : Apart C G s r fp) (hm : Moved w w' old) (ho : ∀ k ∈ old, k ∈ fp ∨ k ∈ G.fp r) (hf : Frame_ C w')
    (hd : DRep w' (.sl g.e g.t) g.xs [G.root r] fp) : Inv C (G.setReg r (G.root r) fp) ((s.map (noInn r)).setReg r g) a w' := by
  have ho' : ∀ k ∈ old, k ∈ fp ∨ (∃ g0, s.reg r = some g0 ∧ k ∈ G.fp r) := fun k hk => (ho k hk).imp id fun hk => ⟨g0, hg, hk⟩
  have mv : ∀ c v, CRep G s.reg w c v → CRep (G.setReg r (G.root r) fp) ((s.map (noInn r)).setReg r g).reg w' (noInn r c) v := by
    intro c v hc
    rw [show ((s.map (noInn r)).setReg r g).reg = (s.setReg r g).reg from rfl]
    by_cases hr : c.of = some r
    · have same : ∀ c, CRep G s.reg w c v → (∀ i o e t, c ≠ .inn r i o e t) → c.of = some r → CRep (G.setReg r (G.root r) fp) (s.setReg r g).reg w' c v := by
        intro c hc hi hr
        cases c with
        | own q => obtain rfl : q = r := Option.some.inj hr; obtain ⟨g', _, rfl⟩ := hc; exact ⟨g, by rw [setReg_reg, if_pos rfl], (upd_same _ _ _).symm⟩
        | sub q z lo n =>
          obtain rfl : q = r := Option.some.inj hr
          obtain ⟨g', A, len, c, hg', h1, h2, h3, h4, h5, h6⟩ := hc
          obtain rfl : g' = g0 := by rw [hg] at hg'; exact (Option.some.inj hg').symm
          exact ⟨g, A, len, c, by rw [setReg_reg, if_pos rfl], (upd_same _ _ _).trans h1, h2, h3, by rw [hl]; exact h4, h5, by rw [ht]; exact h6⟩
        | eptr q i off =>
          obtain rfl : q = r := Option.some.inj hr
          obtain ⟨g', gb, n, c, hg', h1, h2, h3, h4⟩ := hc
          obtain rfl : g' = g0 := by rw [hg] at hg'; exact (Option.some.inj hg').symm
          exact ⟨g, gb, n, c, by rw [setReg_reg, if_pos rfl], (upd_same _ _ _).trans h1, h2, by rw [hl]; exact h3, by rw [ht]; exact h4⟩
        | inn q i o e' t' => obtain rfl : q = r := Option.some.inj hr; exact absurd rfl (hi i o e' t')
        | int k n => cases hr
        | bool b => cases hr
        | str b => cases hr
        | nil e t => cases hr
        | view e t xs => cases hr
        | ptr b off => cases hr
        | vptr t x off => cases hr
        | fn f caps => cases hr
        | gone n => cases hr
        | bad => cases hr
      cases c with
      | inn q i o e t =>
        obtain rfl : q = r := Option.some.inj hr
        simp only [noInn, beq_self_eq_true, cond_true]
        exact h.toCore.oneInn hc
      | own q => exact same _ hc (fun _ _ _ _ e => by cases e) hr
      | sub q z lo n => exact same _ hc (fun _ _ _ _ e => by cases e) hr
      | eptr q i off => exact same _ hc (fun _ _ _ _ e => by cases e) hr
      | int k n => cases hr
      | bool b => cases hr
      | str b => cases hr
      | nil e t => cases hr
      | view e t xs => cases hr
      | ptr b off => cases hr
      | vptr t x off => cases hr
      | fn f caps => cases hr
      | gone n => cases hr
      | bad => cases hr
    · have e2 : noInn r c = c := by
        cases c with
        | inn q i o e t =>
          have : (q == r) = false := by simp; exact fun e => hr (by rw [e]; rfl)
          simp [noInn, this]
        | _ => rfl
      rw [e2]
      exact h.toCore.setReg_cell ha hm ho' hc hr
  refine h.step ?_ (noInn r) rfl mv
  -- the core, with the variables' cells swept
  have hsw : Core C G (s.map (noInn r)) w := by
    have bx : ∀ {b x}, get (s.map (noInn r)).boxes b = some x → ∃ y, get s.boxes b = some y ∧ x = { y with cells := y.cells.map (noInn r) } := fun hb => map_box hb
    have nin : ∀ c v, CRep G s.reg w c v → CRep G s.reg w (noInn r c) v := by
      intro c v hc
      cases c with
      | inn q i o e t =>
        simp only [noInn]
        cases (q == r)
        · exact hc
        · exact h.toCore.oneInn hc
      | _ => exact hc
    refine ⟨?_, h.reg, ?_, ?_, h.rr, ?_, ?_, h.ir, ?_, h.or, h.ilt, h.frame, (fun b k hb => by rw [map_boxSome]; exact h.home b k hb), h.orig, h.i0, h.i1⟩
    · intro b x hb
      obtain ⟨y, hy, rfl⟩ := bx hb
      obtain ⟨arr, h1, h2⟩ := h.box b y hy
      exact ⟨arr, h1, h2.map _ nin⟩
    · intro b hb; rw [map_boxSome]; exact h.pb b hb
    · intro b b' x x' hb hb'; obtain ⟨y, hy, _⟩ := bx hb; obtain ⟨y', hy', _⟩ := bx hb'; exact h.bb b b' y y' hy hy'
    · intro q g b x hq hb; obtain ⟨y, hy, _⟩ := bx hb; exact h.rb q g b y hq hy
    · intro b x hb; obtain ⟨y, hy, _⟩ := bx hb; exact h.ib b y hy
    · intro b x hb; obtain ⟨y, hy, _⟩ := bx hb; exact h.ob b y hy
  have ha' : Apart C G (s.map (noInn r)) r fp := ⟨ha.nodup, ha.still, fun k hk b x hb => by obtain ⟨y, hy, _⟩ := map_box hb; exact ha.box k hk b y hy, ha.reg, ha.ok⟩
  refine hsw.setReg ha' hm ho' hf (fun j hj => h.orig r g0 j hg (hor.symm.trans hj)) hd fun b x c v hb hcx hc => ?_
  obtain ⟨y, hy, rfl⟩ := map_box hb
  obtain ⟨c', hc', rfl⟩ := List.mem_map.1 hcx
  -- what was swept once stays so
  have := mv (noInn r c') v hc
  have idem : noInn r (noInn r c') = noInn r c' := by
    cases c' with
    | inn q i o e t =>
      simp only [noInn]
      cases hq : (q == r)
      · simp [hq]
      · rfl
    | _ => rfl
  rw [idem] at this
  exact this

/-! ### variables -/
def Gh.newBox (G : Gh) (b k : Nat) : Gh := { G with blk := upd G.blk b k, pb := fun x => G.pb x ∨ x = b }
theorem Frame_.alloc {C : Ctx} {w : World} (h : Frame_ C w) (o : Obj) : Frame_ C (w.alloc o) := by
  refine ⟨h.os, h.tape, h.output, ?_, fun k hk hl => ?_⟩
  · have := h.size; show _ ≤ (w.heap.push o).size; rw [Array.size_push]; omega
  · rw [heap_alloc_old w o (r := k) (by have := h.size; omega)]; exact h.block k hk hl
/-- A block that is new. -/
theorem Core.fresh {C : Ctx} {G : Gh} {s : St} {w : World} (h : Core C G s w) (r : Nat) : Apart C G s r [w.heap.size] := by
  refine ⟨by simp, ?_, ?_, ?_, ?_⟩
  · intro k hk hI; simp at hk; subst hk; have := h.ilt _ hI; omega
  · intro k hk b x hb e; simp at hk; subst hk; have := h.blkLt hb; omega
  · intro k hk q g _ hq hin; simp at hk; subst hk; have := h.fpLt hq _ hin; omega
  · intro k hk; simp at hk; subst hk; exact .inl h.frame.size
theorem Moved.alloc (w : World) (o : Obj) : Moved w (w.alloc o) [] := by
  refine ⟨?_, fun k hk _ => heap_alloc_old w o (r := k) hk⟩
  show _ ≤ (w.heap.push o).size; rw [Array.size_push]; omega
theorem CRep.keep {G : Gh} {R : Nat → Option Reg} {w w' : World} {C : Ctx} {s : St} (h : Core C G s w) (hR : R = s.reg) (hm : Moved w w' []) {c : Cell} {v : Value} (hc : CRep G R w c v) : CRep G R w' c v := by
  subst hR
  refine CRep.move (G := G) (G' := G) (fun _ hk => hk) (fun k hk => hm.keep k (h.ilt k hk) (by simp)) (fun _ hb => ⟨hb, rfl⟩) (fun q hq => ⟨fun g hg => ⟨g, hg, rfl, rfl⟩, rfl, fun gb n c0 hroot => ?_⟩) hc
  obtain ⟨g, hg⟩ := Option.isSome_iff_exists.1 (hc.has hq)
  exact hm.keep gb (h.fpLt hg gb (h.rootIn hg hroot)) (by simp)
theorem Core.newBox_cell {C : Ctx} {G : Gh} {s : St} {w : World} (h : Core C G s w) {d : Nat} (hn : get s.boxes d = none) (o : Obj) (x : Box) {c : Cell} {v : Value} (hc : CRep G s.reg w c v) : CRep (G.newBox d w.heap.size) (s.setBox d x).reg (w.alloc o) c v := by
  have hm := Moved.alloc w o
  refine CRep.move (G := G) (G' := G.newBox d w.heap.size) (fun _ hk => hk) (fun k hk => hm.keep k (h.ilt k hk) (by simp)) (fun b hb => ⟨.inl hb, upd_ne _ _ fun e => ?_⟩) (fun q hq => ⟨fun g hg => ⟨g, hg, rfl, rfl⟩, rfl, fun gb n c0 hroot => ?_⟩) hc
  · have := h.pb b hb; rw [e, hn] at this; cases this
  · obtain ⟨g, hg⟩ := Option.isSome_iff_exists.1 (hc.has hq)
    exact hm.keep gb (h.fpLt hg gb (h.rootIn hg hroot)) (by simp)
theorem Inv.newBox {C : Ctx} {G : Gh} {s : St} {a : Act} {w : World} (h : Inv C G s a w) {d : Nat} (hn : get s.boxes d = none) {tid : TypeId} {cells : List Cell} {arr : Array Value} (hc : Cells G s.reg w cells arr.toList) :
    Inv C (G.newBox d w.heap.size) (s.setBox d ⟨tid, cells⟩) a (w.alloc (.cells arr tid)) := by
  have hm := Moved.alloc w (.cells arr tid)
  have mv : ∀ c v, CRep G s.reg w c v → CRep (G.newBox d w.heap.size) (s.setBox d ⟨tid, cells⟩).reg (w.alloc (.cells arr tid)) c v := fun c v hc => h.toCore.newBox_cell hn _ _ hc
  have bx : ∀ {b x}, get (s.setBox d ⟨tid, cells⟩).boxes b = some x → (b = d ∧ x = ⟨tid, cells⟩) ∨ (b ≠ d ∧ get s.boxes b = some x) := by
    intro b x hb
    rw [setBox_box] at hb
    by_cases e : b = d
    · rw [if_pos e] at hb; exact .inl ⟨e, (Option.some.inj hb).symm⟩
    · rw [if_neg e] at hb; exact .inr ⟨e, hb⟩
  have bd : (G.newBox d w.heap.size).blk d = w.heap.size := upd_same _ _ _
  have bn : ∀ {b}, b ≠ d → (G.newBox d w.heap.size).blk b = G.blk b := fun hb => upd_ne _ _ hb
  refine h.step0 ?_ rfl mv
  refine ⟨?_, ?_, ?_, ?_, h.rr, ?_, ?_, h.ir, ?_, h.or, ?_, h.frame.alloc _, ?_, h.orig, h.i0, h.i1⟩
  · intro b x hb
    rcases bx hb with ⟨rfl, rfl⟩ | ⟨hne, hb⟩
    · exact ⟨arr, by rw [bd]; exact heap_alloc_new w _, hc.move mv⟩
    · obtain ⟨arr', h1, h2⟩ := h.box b x hb
      exact ⟨arr', by rw [bn hne, hm.keep _ (h.toCore.blkLt hb) (by simp)]; exact h1, h2.move mv⟩
  · intro r g hg
    exact ⟨(h.reg r g hg).1.frame fun k hk => hm.keep k (h.toCore.fpLt hg k hk) (by simp), (h.reg r g hg).2⟩
  · intro b hb
    rw [setBox_box]
    by_cases e : b = d
    · rw [if_pos e]; rfl
    · rw [if_neg e]; exact h.pb b (hb.resolve_right e)
  · intro b b' x x' hb hb' hne
    rcases bx hb with ⟨e1, _⟩ | ⟨n1, hb1⟩
    · rcases bx hb' with ⟨e2, _⟩ | ⟨n2, hb2⟩
      · exact absurd (e1.trans e2.symm) hne
      · rw [e1, bd, bn n2]; have := h.toCore.blkLt hb2; omega
    · rcases bx hb' with ⟨e2, _⟩ | ⟨n2, hb2⟩
      · rw [e2, bd, bn n1]; have := h.toCore.blkLt hb1; omega
      · rw [bn n1, bn n2]; exact h.bb b b' x x' hb1 hb2 hne
  · intro r g b x hr hb
    rcases bx hb with ⟨rfl, rfl⟩ | ⟨n1, hb⟩
    · rw [bd]; exact fun hk => by have := h.toCore.fpLt hr _ hk; omega
    · rw [bn n1]; exact h.rb r g b x hr hb
  · intro b x hb
    rcases bx hb with ⟨rfl, rfl⟩ | ⟨n1, hb⟩
    · rw [bd]; exact fun hI => by have := h.ilt _ hI; omega
    · rw [bn n1]; exact h.ib b x hb
  · intro b x hb
    rcases bx hb with ⟨rfl, rfl⟩ | ⟨n1, hb⟩
    · rw [bd]; exact .inl h.frame.size
    · rw [bn n1]; exact h.ob b x hb
  · intro k hk; have := h.ilt k hk; have := hm.size; omega
  · intro b k hb
    obtain ⟨h1, h2⟩ := h.home b k hb
    have hne : b ≠ d := fun e => by rw [e, hn] at h1; cases h1
    rw [setBox_box, if_neg hne, bn hne]
    exact ⟨h1, h2⟩
theorem Frame_.setRow {C : Ctx} {w : World} (h : Frame_ C w) {g : Nat} (hg : C.ok g) (cs : Array Value) : Frame_ C (w.setRow g cs) := by
  refine ⟨h.os, h.tape, h.output, ?_, fun k hk hl => ?_⟩
  · have := h.size; simp only [World.setRow, Array.size_modify]; exact this
  · rw [setRow_other w g k cs (fun e => by subst e; rcases hg with hg | hg; · omega
                                           · exact hl hg)]; exact h.block k hk hl
theorem Moved.setRow (w : World) (g : Nat) (cs : Array Value) : Moved w (w.setRow g cs) [g] := by
  refine ⟨?_, fun k _ hk => setRow_other w g k cs (by simpa using hk)⟩
  simp [World.setRow]
/-- A variable holds something else. -/
theorem Inv.setBox {C : Ctx} {G : Gh} {s : St} {a : Act} {w : World} (h : Inv C G s a w) {b : Nat} {x : Box} (hb : get s.boxes b = some x) {cells : List Cell} {arr : Array Value} (hc : Cells G s.reg w cells arr.toList) :
    Inv C G (s.setBox b { x with cells := cells }) a (w.setRow (G.blk b) arr) := by
  have hm := Moved.setRow w (G.blk b) arr
  obtain ⟨arr0, hrow, _⟩ := h.box b x hb
  have mv : ∀ c v, CRep G s.reg w c v → CRep G s.reg (w.setRow (G.blk b) arr) c v := by
    intro c v hc
    refine CRep.move (G := G) (G' := G) (fun _ hk => hk) (fun k hk => hm.keep k (h.ilt k hk) ?_) (fun _ hb => ⟨hb, rfl⟩) (fun q hq => ⟨fun g hg => ⟨g, hg, rfl, rfl⟩, rfl, fun gb n c0 hroot => ?_⟩) hc
    · simp; exact fun e => h.ib b x hb (e ▸ hk)
    · obtain ⟨g, hg⟩ := Option.isSome_iff_exists.1 (hc.has hq)
      refine hm.keep gb (h.toCore.fpLt hg gb (h.toCore.rootIn hg hroot)) ?_
      simp; exact fun e => h.rb q g b x hg hb (e ▸ h.toCore.rootIn hg hroot)
  have bx : ∀ {b' y}, get (s.setBox b { x with cells := cells }).boxes b' = some y → (b' = b ∧ y = { x with cells := cells }) ∨ (b' ≠ b ∧ get s.boxes b' = some y) := by
    intro b' y hb
    rw [setBox_box] at hb
    by_cases e : b' = b
    · rw [if_pos e] at hb; exact .inl ⟨e, (Option.some.inj hb).symm⟩
    · rw [if_neg e] at hb; exact .inr ⟨e, hb⟩
  have bx' : ∀ {b' y}, get (s.setBox b { x with cells := cells }).boxes b' = some y → ∃ y', get s.boxes b' = some y' := by
    intro b' y hy
    rcases bx hy with ⟨rfl, rfl⟩ | ⟨_, hy⟩
    · exact ⟨x, hb⟩
    · exact ⟨y, hy⟩
  refine h.step0 ?_ rfl mv
  refine ⟨?_, ?_, ?_, ?_, h.rr, ?_, ?_, h.ir, ?_, h.or, ?_, h.frame.setRow (h.ob b x hb) _, ?_, h.orig, h.i0, h.i1⟩
  · intro b' y hy
    rcases bx hy with ⟨rfl, rfl⟩ | ⟨hne, hy⟩
    · exact ⟨arr, setRow_heap w _ arr0 arr _ _ hrow, hc.move mv⟩
    · obtain ⟨arr', h1, h2⟩ := h.box b' y hy
      refine ⟨arr', ?_, h2.move mv⟩
      rw [hm.keep _ (h.toCore.blkLt hy) (by simp; exact h.bb b' b y x hy hb hne)]; exact h1
  · intro r g hg
    refine ⟨(h.reg r g hg).1.frame fun k hk => hm.keep k (h.toCore.fpLt hg k hk) ?_, (h.reg r g hg).2⟩
    simp; exact fun e => h.rb r g b x hg hb (e ▸ hk)
  · intro b' hb'
    rw [setBox_box]
    by_cases e : b' = b
    · rw [if_pos e]; rfl
    · rw [if_neg e]; exact h.pb b' hb'
  · intro b1 b2 x1 x2 h1 h2; obtain ⟨y1, h1⟩ := bx' h1; obtain ⟨y2, h2⟩ := bx' h2; exact h.bb b1 b2 y1 y2 h1 h2
  · intro r g b1 x1 hr h1; obtain ⟨y1, h1⟩ := bx' h1; exact h.rb r g b1 y1 hr h1
  · intro b1 x1 h1; obtain ⟨y1, h1⟩ := bx' h1; exact h.ib b1 y1 h1
  · intro b1 x1 h1; obtain ⟨y1, h1⟩ := bx' h1; exact h.ob b1 y1 h1
  · intro k hk; have := h.ilt k hk; have := hm.size; omega
  · intro b' k hb'
    obtain ⟨h1, h2⟩ := h.home b' k hb'
    refine ⟨?_, h2⟩
    rw [setBox_box]
    by_cases e : b' = b
    · rw [if_pos e]; rfl
    · rw [if_neg e]; exact h1
/-- The world has only drawn. -/
theorem Inv.drew {C : Ctx} {G : Gh} {s : St} {a : Act} {w : World} (h : Inv C G s a w) : Inv C G s a w.drew := by
  have hm : Moved w w.drew [] := ⟨Nat.le_refl _, fun _ _ _ => rfl⟩
  have mv : ∀ c v, CRep G s.reg w c v → CRep G s.reg w.drew c v := fun c v hc => CRep.keep h.toCore rfl hm hc
  refine h.step0 ⟨fun b x hb => ?_, fun r g hg => ⟨DRep.frame (w := w) (w' := w.drew) (fun _ _ => rfl) (h.reg r g hg).1, (h.reg r g hg).2⟩, h.pb, h.bb, h.rr, h.rb, h.ib, h.ir, h.ob, h.or, h.ilt, ⟨h.frame.os, h.frame.tape, h.frame.output, h.frame.size, h.frame.block⟩, h.home, h.orig, h.i0, h.i1⟩ rfl mv
  obtain ⟨arr, h1, h2⟩ := h.box b x hb
  exact ⟨arr, h1, h2.move mv⟩

end Go.Proofs.Ytigkodlbjimikaa.Vc
