/- Calls: the caller's state while what it handed over is out of sight. -/
import Derived.Test.YtigkodlbjimikaaVcW
namespace Go.Proofs.Ytigkodlbjimikaa.Vc
open Go Go.RowKit
set_option linter.unusedVariables false
set_option linter.unusedSimpArgs false

def hide (hr : List Nat) (c : Cell) : Cell := match c with | .inn q _ _ _ _ => bif hr.contains q then .bad else c | c => c
/-- Variables of HB and regions of HR are out of sight; no slice is told by its place in a region of hr. -/
structure HInv (C : Ctx) (G : Gh) (s : St) (a : Act) (w : World) (hr : List Nat) (HB HR : Nat → Prop) : Prop where
  box : ∀ b x, get s.boxes b = some x → ¬ HB b → (∃ arr : Array Value, w.heap[G.blk b]? = some (.cells arr x.tid (0, 0)) ∧ Cells G s.reg w x.cells arr.toList) ∧ x.cells.map (hide hr) = x.cells
  reg : ∀ r g, s.reg r = some g → ¬ HR r → DRep w (.sl g.e g.t) g.xs [G.root r] (G.fp r) ∧ (G.fp r).Nodup
  pb : ∀ b, G.pb b → (get s.boxes b).isSome = true
  bb : ∀ b b' x x', get s.boxes b = some x → get s.boxes b' = some x' → ¬ HB b → ¬ HB b' → b ≠ b' → G.blk b ≠ G.blk b'
  rr : ∀ r r' g g', s.reg r = some g → s.reg r' = some g' → ¬ HR r → ¬ HR r' → r ≠ r' → ∀ k ∈ G.fp r, k ∉ G.fp r'
  rb : ∀ r g b x, s.reg r = some g → get s.boxes b = some x → ¬ HR r → ¬ HB b → G.blk b ∉ G.fp r
  ib : ∀ b x, get s.boxes b = some x → ¬ HB b → ¬ G.I (G.blk b)
  ir : ∀ r g k, s.reg r = some g → ¬ HR r → k ∈ G.fp r → ¬ G.I k
  ob : ∀ b x, get s.boxes b = some x → ¬ HB b → C.ok (G.blk b)
  or : ∀ r g k, s.reg r = some g → ¬ HR r → k ∈ G.fp r → C.ok k
  ilt : ∀ k, G.I k → k < w.heap.size
  frame : Frame_ C w
  home : ∀ b k, C.home b = some k → (get s.boxes b).isSome = true ∧ G.blk b = k
  orig : ∀ r g j, s.reg r = some g → g.orig = j + 1 → G.root r = C.arg j
  i0 : ∀ k, C.I0 k → G.I k
  i1 : ∀ k, G.I k → C.I0 k ∨ C.ok k
  sub : ∀ r, HR r → r ∈ hr
  defers : a.defers = []
  size : a.tmps.size = C.nt
  tmp : ∀ t v, get s.tmps t = some v → ARep G s.reg w v (a.tmps.getD t undef) ∧ v.map (hide hr) = v
structure LoneH (G : Gh) (s : St) (HB HR : Nat → Prop) (k : Nat) : Prop where
  still : ¬ G.I k
  box : ∀ b x, get s.boxes b = some x → ¬ HB b → G.blk b ≠ k
  reg : ∀ r g, s.reg r = some g → ¬ HR r → k ∉ G.fp r
section
variable {C : Ctx} {G : Gh} {s : St} {a : Act} {w : World} {hr : List Nat} {HB HR : Nat → Prop}
theorem Inv.hide (h : Inv C G s a w) (ht : ∀ t v, get s.tmps t = some v → v.map (hide hr) = v) (hb : ∀ b x, get s.boxes b = some x → ¬ HB b → x.cells.map (Vc.hide hr) = x.cells) (hs : ∀ r, HR r → r ∈ hr) : HInv C G s a w hr HB HR :=
  ⟨fun b x hx hn => ⟨h.box b x hx, hb b x hx hn⟩, fun r g hg _ => h.reg r g hg, h.pb, fun b b' x x' h1 h2 _ _ => h.bb b b' x x' h1 h2, fun r r' g g' h1 h2 _ _ => h.rr r r' g g' h1 h2, fun r g b x h1 h2 _ _ => h.rb r g b x h1 h2,
    fun b x h1 _ => h.ib b x h1, fun r g k h1 _ => h.ir r g k h1, fun b x h1 _ => h.ob b x h1, fun r g k h1 _ => h.or r g k h1, h.ilt, h.frame, h.home, h.orig, h.i0, h.i1, hs, h.defers, h.size, fun t v hv => ⟨h.tmp t v hv, ht t v hv⟩⟩
theorem HInv.inv (h : HInv C G s a w hr HB HR) (hB : ∀ b, ¬ HB b) (hR : ∀ r, ¬ HR r) : Inv C G s a w :=
  { box := fun b x hx => (h.box b x hx (hB b)).1, reg := fun r g hg => h.reg r g hg (hR r), pb := h.pb, bb := fun b b' x x' h1 h2 => h.bb b b' x x' h1 h2 (hB _) (hB _), rr := fun r r' g g' h1 h2 => h.rr r r' g g' h1 h2 (hR _) (hR _), rb := fun r g b x h1 h2 => h.rb r g b x h1 h2 (hR _) (hB _),
    ib := fun b x h1 => h.ib b x h1 (hB _), ir := fun r g k h1 => h.ir r g k h1 (hR _), ob := fun b x h1 => h.ob b x h1 (hB _), or := fun r g k h1 => h.or r g k h1 (hR _), ilt := h.ilt, frame := h.frame, home := h.home, orig := h.orig, i0 := h.i0, i1 := h.i1, defers := h.defers, size := h.size, tmp := fun t v hv => (h.tmp t v hv).1 }

/-! ### cells that are clean -/
theorem hide_inn {r : Nat} {i : Int} {off : Nat} {e : TypeId} {t : Ty} (h : hide hr (.inn r i off e t) = .inn r i off e t) : r ∉ hr := by
  intro hm
  simp only [hide, List.contains_eq_mem, hm, decide_true, cond_true] at h
  cases h
theorem CRep.moveN {G' : Gh} {R R' : Nat → Option Reg} {w' : World} (hI : ∀ k, G.I k → G'.I k) (hw : ∀ k, G.I k → w'.heap[k]? = w.heap[k]?)
    (hb : ∀ b, G.pb b → G'.pb b ∧ G'.blk b = G.blk b) {c : Cell} {v : Value} (hq : ∀ r, c.of = some r → (∀ g, R r = some g → ∃ g', R' r = some g' ∧ g'.t = g.t ∧ g'.xs.length = g.xs.length) ∧ G'.root r = G.root r)
    (hn : ∀ r i off e t, c = .inn r i off e t → ∀ gb n c, G.root r = .slice (some ⟨gb, 0, none⟩) n c → w'.heap[gb]? = w.heap[gb]?) (h : CRep G R w c v) : CRep G' R' w' c v := by
  cases c with
  | inn r i off e t => exact CRep.move hI hw hb (fun q hq' => ⟨(hq q hq').1, (hq q hq').2, by obtain rfl : r = q := Option.some.inj hq'; exact hn r i off e t rfl⟩) h
  | own r =>
    obtain ⟨g, hg, rfl⟩ := h
    obtain ⟨g', h1, _⟩ := (hq r rfl).1 g hg
    exact ⟨g', h1, (hq r rfl).2.symm⟩
  | sub r z lo n =>
    obtain ⟨g, A, len, c, hg, h1, h2, h3, h4, h5, h6⟩ := h
    obtain ⟨g', k1, k2, k3⟩ := (hq r rfl).1 g hg
    exact ⟨g', A, len, c, k1, (hq r rfl).2.trans h1, h2, h3, by rw [k3]; exact h4, h5, by rw [k2]; exact h6⟩
  | eptr r i off =>
    obtain ⟨g, gb, n, c, hg, h1, h2, h3, h4⟩ := h
    obtain ⟨g', k1, k2, k3⟩ := (hq r rfl).1 g hg
    exact ⟨g', gb, n, c, k1, (hq r rfl).2.trans h1, h2, by rw [k3]; exact h3, by rw [k2]; exact h4⟩
  | int k n => exact h
  | bool b => exact h
  | str s => exact h
  | nil e t => exact h
  | view e t xs => exact VRep.mono hI hw h
  | ptr b off => exact ⟨(hb b h.1).1, by rw [(hb b h.1).2]; exact h.2⟩
  | vptr t x off => exact CRep.move (c := .vptr t x off) hI hw hb (fun q hq' => by cases hq') h
  | fn f caps => exact CRep.move (c := .fn f caps) hI hw hb (fun q hq' => by cases hq') h
  | gone n => exact h
  | bad => exact h
theorem Cells.moveC {G' : Gh} {R R' : Nat → Option Reg} {w' : World} (hf : ∀ c v, hide hr c = c → CRep G R w c v → CRep G' R' w' c v) : ∀ {cs : List Cell} {vs : List Value}, cs.map (hide hr) = cs → Cells G R w cs vs → Cells G' R' w' cs vs
  | [], _, _, h => h
  | c :: cs, _, hc, h => by
    obtain ⟨v, l, e, h1, h2⟩ := h
    simp only [List.map_cons, List.cons.injEq] at hc
    exact ⟨v, l, e, hf c v hc.1 h1, h2.moveC hf hc.2⟩
theorem KRep.moveC {G' : Gh} {R R' : Nat → Option Reg} {w' : World} (hf : ∀ c v, hide hr c = c → CRep G R w c v → CRep G' R' w' c v) {c : Comp} {v : Value} (hc : c.map (hide hr) = c) (h : KRep G R w c v) : KRep G' R' w' c v := by
  cases c with
  | one c => simp only [Comp.map, Comp.one.injEq] at hc; exact hf c v hc h
  | agg cs => simp only [Comp.map, Comp.agg.injEq] at hc; obtain ⟨arr, e, h⟩ := h; exact ⟨arr, e, h.moveC hf hc⟩
theorem Comps.moveC {G' : Gh} {R R' : Nat → Option Reg} {w' : World} (hf : ∀ c v, hide hr c = c → CRep G R w c v → CRep G' R' w' c v) : ∀ {cs : List Comp} {vs : List Value}, cs.map (Comp.map (hide hr)) = cs → Comps G R w cs vs → Comps G' R' w' cs vs
  | [], _, _, h => h
  | c :: cs, _, hc, h => by
    obtain ⟨v, l, e, h1, h2⟩ := h
    simp only [List.map_cons, List.cons.injEq] at hc
    exact ⟨v, l, e, h1.moveC hf hc.1, h2.moveC hf hc.2⟩
theorem ARep.moveC {G' : Gh} {R R' : Nat → Option Reg} {w' : World} (hf : ∀ c v, hide hr c = c → CRep G R w c v → CRep G' R' w' c v) {x : AVal} {v : Value} (hc : x.map (hide hr) = x) (h : ARep G R w x v) : ARep G' R' w' x v := by
  cases x with
  | cp c => simp only [AVal.map, AVal.cp.injEq] at hc; exact KRep.moveC hf hc h
  | tup l => simp only [AVal.map, AVal.tup.injEq] at hc; obtain ⟨vs, e, h⟩ := h; exact ⟨vs, e, h.moveC hf hc⟩
  | bad => trivial
  | und => exact h

/-! ### moves -/
theorem HInv.rootIn (h : HInv C G s a w hr HB HR) {r : Nat} {g : Reg} (hg : s.reg r = some g) (hH : ¬ HR r) {gb n c : Nat} (hroot : G.root r = .slice (some ⟨gb, 0, none⟩) n c) : gb ∈ G.fp r := by
  obtain ⟨v, cells, fps, e1, ho, e2, hel⟩ := (h.reg r g hg hH).1
  obtain rfl : G.root r = v := by simpa using e1
  rw [e2, hroot]
  simp [blockOf, Value.ownBlock]
theorem HInv.moved (h : HInv C G s a w hr HB HR) {w' : World} {old : List Nat} (hm : Moved w w' old) (ho : ∀ k ∈ old, LoneH G s HB HR k) (hf : Frame_ C w') : HInv C G s a w' hr HB HR := by
  have keepI : ∀ k, G.I k → w'.heap[k]? = w.heap[k]? := fun k hk => hm.keep k (h.ilt k hk) fun hk' => (ho k hk').still hk
  have keepR : ∀ r g, s.reg r = some g → ¬ HR r → ∀ k ∈ G.fp r, w'.heap[k]? = w.heap[k]? := fun r g hg hH k hk => hm.keep k ((h.reg r g hg hH).1.lt k hk) fun hk' => (ho k hk').reg r g hg hH hk
  have mv : ∀ c v, hide hr c = c → CRep G s.reg w c v → CRep G s.reg w' c v := by
    intro c v hcl hc
    refine CRep.moveN (fun _ hk => hk) keepI (fun _ hb => ⟨hb, rfl⟩) (fun q hq => ⟨fun g hg => ⟨g, hg, rfl, rfl⟩, rfl⟩) (fun r i off e t ec gb n c0 hroot => ?_) hc
    subst ec
    obtain ⟨g, hg⟩ := Option.isSome_iff_exists.1 (hc.has (r := r) rfl)
    have hH : ¬ HR r := fun hH => hide_inn hcl (h.sub r hH)
    exact keepR r g hg hH gb (h.rootIn hg hH hroot)
  refine ⟨fun b x hb hH => ?_, fun r g hg hH => ⟨(h.reg r g hg hH).1.frame (keepR r g hg hH), (h.reg r g hg hH).2⟩, h.pb, h.bb, h.rr, h.rb, h.ib, h.ir, h.ob, h.or, fun k hk => ?_, hf, h.home, h.orig, h.i0, h.i1, h.sub, h.defers, h.size, fun t v hv => ?_⟩
  · obtain ⟨⟨arr, h1, h2⟩, h3⟩ := h.box b x hb hH
    exact ⟨⟨arr, by rw [hm.keep _ (Array.getElem?_eq_some_iff.1 h1).1 fun hk => (ho _ hk).box b x hb hH rfl]; exact h1, h2.moveC mv h3⟩, h3⟩
  · have := h.ilt k hk; have := hm.size; omega
  · obtain ⟨h1, h2⟩ := h.tmp t v hv
    exact ⟨h1.moveC mv h2, h2⟩
/-- A region is told: a new one, or one that was out of sight. -/
theorem HInv.tell (h : HInv C G s a w hr HB HR) {r : Nat} {g : Reg} {root : Value} {f : List Nat} (hold : s.reg r = none ∨ ∃ g0, s.reg r = some g0 ∧ HR r ∧ g.t = g0.t ∧ g.xs.length = g0.xs.length ∧ g.orig = g0.orig ∧ root = G.root r)
    (hd : DRep w (.sl g.e g.t) g.xs [root] f) (hf : f.Nodup) (hl : ∀ k ∈ f, LoneH G s HB HR k) (hok : ∀ k ∈ f, C.ok k) (hor : ∀ j, g.orig = j + 1 → root = C.arg j) :
    HInv C (G.setReg r root f) (s.setReg r g) a w hr HB (fun q => HR q ∧ q ≠ r) ∧ (∀ c v, hide hr c = c → CRep G s.reg w c v → CRep (G.setReg r root f) (s.setReg r g).reg w c v) ∧ (∀ k, LoneH G s HB HR k → k ∉ f → LoneH (G.setReg r root f) (s.setReg r g) HB (fun q => HR q ∧ q ≠ r) k) := by
  have rs : (G.setReg r root f).root r = root := upd_same _ _ _
  have fs : (G.setReg r root f).fp r = f := upd_same _ _ _
  have rn : ∀ {q}, q ≠ r → (G.setReg r root f).root q = G.root q := fun hq => upd_ne _ _ hq
  have fn : ∀ {q}, q ≠ r → (G.setReg r root f).fp q = G.fp q := fun hq => upd_ne _ _ hq
  have mv : ∀ c v, hide hr c = c → CRep G s.reg w c v → CRep (G.setReg r root f) (s.setReg r g).reg w c v := by
    intro c v hcl hc
    refine CRep.moveN (G := G) (G' := G.setReg r root f) (fun _ hk => hk) (fun _ _ => rfl) (fun _ hb => ⟨hb, rfl⟩) (fun q hq => ?_) (fun _ _ _ _ _ _ _ _ _ _ => rfl) hc
    by_cases e : q = r
    · subst e
      rcases hold with hn | ⟨g0, hg0, _, h1, h2, _, h3⟩
      · have := hc.has hq; rw [hn] at this; cases this
      · refine ⟨fun g1 hg1 => ⟨g, by rw [setReg_reg, if_pos rfl], ?_⟩, by rw [rs]; exact h3⟩
        obtain rfl : g0 = g1 := by rw [hg0] at hg1; exact Option.some.inj hg1
        exact ⟨h1, h2⟩
    · exact ⟨fun g1 hg1 => ⟨g1, by rw [setReg_reg, if_neg e]; exact hg1, rfl, rfl⟩, rn e⟩
  have rg : ∀ {q g'}, (s.setReg r g).reg q = some g' → (q = r ∧ g' = g) ∨ (q ≠ r ∧ s.reg q = some g') := by
    intro q g' hq
    rw [setReg_reg] at hq
    by_cases e : q = r
    · rw [if_pos e] at hq; exact .inl ⟨e, (Option.some.inj hq).symm⟩
    · rw [if_neg e] at hq; exact .inr ⟨e, hq⟩
  have nh : ∀ {q}, ¬ (HR q ∧ q ≠ r) → q ≠ r → ¬ HR q := fun hn hq hH => hn ⟨hH, hq⟩
  refine ⟨⟨?_, ?_, h.pb, h.bb, ?_, ?_, h.ib, ?_, h.ob, ?_, h.ilt, h.frame, h.home, ?_, h.i0, h.i1, fun q hq => h.sub q hq.1, h.defers, h.size, ?_⟩, mv, fun k hk hnk => ⟨hk.still, hk.box, ?_⟩⟩
  · intro b x hb hH
    obtain ⟨⟨arr, h1, h2⟩, h3⟩ := h.box b x hb hH
    exact ⟨⟨arr, h1, h2.moveC mv h3⟩, h3⟩
  · intro q g' hq hH
    rcases rg hq with ⟨rfl, rfl⟩ | ⟨hne, hq'⟩
    · rw [fs, rs]; exact ⟨hd, hf⟩
    · rw [fn hne, rn hne]; exact h.reg q g' hq' (nh hH hne)
  · intro q q' g1 g2 hq hq' hH hH' hne k hk
    rcases rg hq with ⟨rfl, rfl⟩ | ⟨n1, hq1⟩
    · rcases rg hq' with ⟨rfl, rfl⟩ | ⟨n2, hq2⟩
      · exact absurd rfl hne
      · rw [fs] at hk; rw [fn n2]; exact (hl k hk).reg q' g2 hq2 (nh hH' n2)
    · rcases rg hq' with ⟨rfl, rfl⟩ | ⟨n2, hq2⟩
      · rw [fn n1] at hk; rw [fs]; exact fun hk' => (hl k hk').reg q g1 hq1 (nh hH n1) hk
      · rw [fn n1] at hk; rw [fn n2]; exact h.rr q q' g1 g2 hq1 hq2 (nh hH n1) (nh hH' n2) hne k hk
  · intro q g' b x hq hb hH hB
    rcases rg hq with ⟨rfl, rfl⟩ | ⟨n1, hq1⟩
    · rw [fs]; exact fun hk => (hl _ hk).box b x hb hB rfl
    · rw [fn n1]; exact h.rb q g' b x hq1 hb (nh hH n1) hB
  · intro q g' k hq hH hk
    rcases rg hq with ⟨rfl, rfl⟩ | ⟨n1, hq1⟩
    · rw [fs] at hk; exact (hl k hk).still
    · rw [fn n1] at hk; exact h.ir q g' k hq1 (nh hH n1) hk
  · intro q g' k hq hH hk
    rcases rg hq with ⟨rfl, rfl⟩ | ⟨n1, hq1⟩
    · rw [fs] at hk; exact hok k hk
    · rw [fn n1] at hk; exact h.or q g' k hq1 (nh hH n1) hk
  · intro q g' j hq hj
    rcases rg hq with ⟨rfl, rfl⟩ | ⟨n1, hq1⟩
    · rw [rs]; exact hor j hj
    · rw [rn n1]; exact h.orig q g' j hq1 hj
  · intro t v hv
    obtain ⟨h1, h2⟩ := h.tmp t v hv
    exact ⟨h1.moveC mv h2, h2⟩
  · intro q g' hq hH
    rcases rg hq with ⟨rfl, rfl⟩ | ⟨n1, hq1⟩
    · rw [fs]; exact hnk
    · rw [fn n1]; exact hk.reg q g' hq1 (nh hH n1)
/-- A variable that was out of sight is told. -/
theorem HInv.tellBox (h : HInv C G s a w hr HB HR) {b : Nat} {x0 : Box} (hb0 : get s.boxes b = some x0) {tid : TypeId} {cells : List Cell} {arr : Array Value} (hw : w.heap[G.blk b]? = some (.cells arr tid (0, 0))) (hc : Cells G s.reg w cells arr.toList) (hcl : cells.map (hide hr) = cells) (hl : LoneH G s HB HR (G.blk b)) (hok : C.ok (G.blk b)) :
    HInv C G (s.setBox b ⟨tid, cells⟩) a w hr (fun q => HB q ∧ q ≠ b) HR ∧ (∀ k, LoneH G s HB HR k → k ≠ G.blk b → LoneH G (s.setBox b ⟨tid, cells⟩) (fun q => HB q ∧ q ≠ b) HR k) := by
  have bx : ∀ {b' y}, get (s.setBox b ⟨tid, cells⟩).boxes b' = some y → (b' = b ∧ y = ⟨tid, cells⟩) ∨ (b' ≠ b ∧ get s.boxes b' = some y) := by
    intro b' y hb
    rw [setBox_box] at hb
    by_cases e : b' = b
    · rw [if_pos e] at hb; exact .inl ⟨e, (Option.some.inj hb).symm⟩
    · rw [if_neg e] at hb; exact .inr ⟨e, hb⟩
  have nh : ∀ {q}, ¬ (HB q ∧ q ≠ b) → q ≠ b → ¬ HB q := fun hn hq hH => hn ⟨hH, hq⟩
  have some_ : ∀ b', (get s.boxes b').isSome = true → (get (s.setBox b ⟨tid, cells⟩).boxes b').isSome = true := by
    intro b' hb'
    rw [setBox_box]
    by_cases e : b' = b
    · rw [if_pos e]; rfl
    · rw [if_neg e]; exact hb'
  refine ⟨⟨?_, h.reg, fun b' hb' => some_ b' (h.pb b' hb'), ?_, h.rr, ?_, ?_, h.ir, ?_, h.or, h.ilt, h.frame, fun b' k hb' => ⟨some_ b' (h.home b' k hb').1, (h.home b' k hb').2⟩, h.orig, h.i0, h.i1, h.sub, h.defers, h.size, h.tmp⟩, fun k hk hne => ⟨hk.still, ?_, hk.reg⟩⟩
  · intro b' y hb' hH
    rcases bx hb' with ⟨rfl, rfl⟩ | ⟨n1, hb1⟩
    · exact ⟨⟨arr, hw, hc⟩, hcl⟩
    · exact h.box b' y hb1 (nh hH n1)
  · intro b1 b2 x1 x2 h1 h2 hH1 hH2 hne
    rcases bx h1 with ⟨e1, _⟩ | ⟨n1, p1⟩
    · rcases bx h2 with ⟨e2, _⟩ | ⟨n2, p2⟩
      · exact absurd (e1.trans e2.symm) hne
      · rw [e1]; exact (hl.box b2 x2 p2 (nh hH2 n2)).symm
    · rcases bx h2 with ⟨e2, _⟩ | ⟨n2, p2⟩
      · rw [e2]; exact hl.box b1 x1 p1 (nh hH1 n1)
      · exact h.bb b1 b2 x1 x2 p1 p2 (nh hH1 n1) (nh hH2 n2) hne
  · intro r g b1 x1 hg h1 hH hH1
    rcases bx h1 with ⟨rfl, _⟩ | ⟨n1, h1⟩
    · exact hl.reg r g hg hH
    · exact h.rb r g b1 x1 hg h1 hH (nh hH1 n1)
  · intro b1 x1 h1 hH1
    rcases bx h1 with ⟨rfl, _⟩ | ⟨n1, h1⟩
    · exact hl.still
    · exact h.ib b1 x1 h1 (nh hH1 n1)
  · intro b1 x1 h1 hH1
    rcases bx h1 with ⟨rfl, _⟩ | ⟨n1, h1⟩
    · exact hok
    · exact h.ob b1 x1 h1 (nh hH1 n1)
  · intro b1 x1 h1 hH1
    rcases bx h1 with ⟨rfl, _⟩ | ⟨n1, h1⟩
    · exact hne.symm
    · exact hk.box b1 x1 h1 (nh hH1 n1)
end

end Go.Proofs.Ytigkodlbjimikaa.Vc
