/- Calls: what a function is handed, what it leaves, in memory; entering. -/
import Derived.Test.YtigkodlbjimikaaVcT
namespace Go.Proofs.Ytigkodlbjimikaa.Vc
open Go Go.RowKit
set_option linter.unusedVariables false
set_option linter.unusedSimpArgs false

/-! ### what is handed over -/
/-- Cells by their shapes, with the memory they own. -/
def RowRep (I : Nat → Prop) (w : World) : (l : List CSh) → (rowTy l).den → List Value → List Nat → Prop
  | [], _, vs, fp => vs = [] ∧ fp = []
  | .val t :: l, x, vs, fp => ∃ v vl, vs = v :: vl ∧ (VRep I w t x.1 [v] ∧ t.deep = false) ∧ RowRep I w l x.2 vl fp
  | .view e t :: l, x, vs, fp => ∃ v vl, vs = v :: vl ∧ VRep I w (.sl e t) x.1 [v] ∧ RowRep I w l x.2 vl fp
  | .own e t :: l, x, vs, fp => ∃ v vl f fl, vs = v :: vl ∧ fp = f ++ fl ∧ DRep w (.sl e t) x.1 [v] f ∧ RowRep I w l x.2 vl fl
def ValRep (I : Nat → Prop) (w : World) (t : Ty) (x : t.den) (v : Value) : Prop := ∃ cs : Array Value, VRep I w t x cs.toList ∧ (isAggTy t = true → v = .agg cs) ∧ (isAggTy t = false → cs.toList = [v])
def ParsRep (I : Nat → Prop) (w : World) : (l : List Par) → (parsTy l).den → List Value → List Nat → Prop
  | [], _, vs, fp => vs = [] ∧ fp = []
  | .val t :: l, x, vs, fp => ∃ v vl, vs = v :: vl ∧ ValRep I w t x.1 v ∧ ParsRep I w l x.2 vl fp
  | .own e t _ :: l, x, vs, fp => ∃ v vl f fl, vs = v :: vl ∧ fp = f ++ fl ∧ DRep w (.sl e t) x.1 [v] f ∧ ParsRep I w l x.2 vl fl
  | .box tid sh _ :: l, x, vs, fp => ∃ k vl f fl, ∃ arr : Array Value, vs = .pointer (some ⟨k, 0, none⟩) :: vl ∧ fp = (k :: f) ++ fl ∧ w.heap[k]? = some (.cells arr tid (0, 0)) ∧ RowRep I w sh x.1 arr.toList f ∧ ParsRep I w l x.2 vl fl
  | .agg sh :: l, x, vs, fp => ∃ vl f fl, ∃ arr : Array Value, vs = .agg arr :: vl ∧ fp = f ++ fl ∧ RowRep I w sh x.1 arr.toList f ∧ ParsRep I w l x.2 vl fl
  | .fn f caps :: l, x, vs, fp => ∃ vl, vs = .func (.func f) #[] #[] :: vl ∧ caps = [] ∧ ParsRep I w l x.2 vl fp
/-! ### what comes back -/
def ResRep (I : Nat → Prop) (w : World) : (l : List RSh) → (ressTy l).den → List Value → List Nat → Prop
  | [], _, vs, fp => vs = [] ∧ fp = []
  | .one c :: l, x, vs, fp => ∃ v vl f fl, vs = v :: vl ∧ fp = f ++ fl ∧ RowRep I w [c] (x.1, ()) [v] f ∧ ResRep I w l x.2 vl fl
  | .agg cs :: l, x, vs, fp => ∃ arr : Array Value, ∃ vl f fl, vs = .agg arr :: vl ∧ fp = f ++ fl ∧ RowRep I w cs x.1 arr.toList f ∧ ResRep I w l x.2 vl fl
def OutsRep (I : Nat → Prop) (w : World) : (l : List Par) → (outsTy l).den → List Value → List Nat → Prop
  | [], _, vs, fp => fp = []
  | .own e t true :: l, x, vs, fp => ∃ v vl f fl, vs = v :: vl ∧ fp = f ++ fl ∧ DRep w (.sl e t) x.1 [v] f ∧ OutsRep I w l x.2 vl fl
  | .box tid _ out :: l, x, vs, fp => ∃ k vl f fl, ∃ arr : Array Value, vs = .pointer (some ⟨k, 0, none⟩) :: vl ∧ fp = (k :: f) ++ fl ∧ w.heap[k]? = some (.cells arr tid (0, 0)) ∧ RowRep I w out x.1 arr.toList f ∧ OutsRep I w l x.2 vl fl
  | .own _ _ false :: l, x, vs, fp => ∃ v vl, vs = v :: vl ∧ OutsRep I w l x.2 vl fp
  | .val _ :: l, x, vs, fp => ∃ v vl, vs = v :: vl ∧ OutsRep I w l x.2 vl fp
  | .agg _ :: l, x, vs, fp => ∃ v vl, vs = v :: vl ∧ OutsRep I w l x.2 vl fp
  | .fn _ _ :: l, x, vs, fp => ∃ v vl, vs = v :: vl ∧ OutsRep I w l x.2 vl fp
def resVal (vs : List Value) : Value := match vs with | [v] => v | _ => .tuple vs.toArray

section
variable {P : Program} {E : Env} {C : Ctx} {G : Gh} {s : St} {a : Act} {w : World}
theorem Inv.putS (h : Inv C G s a w) {d : Tmp} {x : AVal} (hv : ARep G s.reg w x (a.tmps.getD d undef)) : Inv C G (s.put (some d) x) a w := by
  refine { toCore := ?_, defers := h.defers, size := h.size, tmp := ?_ }
  · exact ⟨h.box, h.reg, h.pb, h.bb, h.rr, h.rb, h.ib, h.ir, h.ob, h.or, h.ilt, h.frame, h.home, h.orig, h.i0, h.i1⟩
  · intro t y hy
    have hy' : get (ins d x s.tmps) t = some y := hy
    rw [get_ins] at hy'
    by_cases e : t = d
    · subst e
      rw [if_pos rfl] at hy'
      obtain rfl := Option.some.inj hy'
      exact hv
    · rw [if_neg e] at hy'
      exact h.tmp t y hy'
/-- A region that is there is told. -/
theorem Inv.bring (h : Inv C G s a w) {r : Nat} (hn : s.reg r = none) {g : Reg} {root : Value} {f : List Nat} (hd : DRep w (.sl g.e g.t) g.xs [root] f) (hf : f.Nodup) (hl : ∀ k ∈ f, Lone G s k) (hok : ∀ k ∈ f, C.ok k) (hor : ∀ j, g.orig = j + 1 → root = C.arg j) :
    Inv C (G.setReg r root f) (s.setReg r g) a w ∧ (∀ c v, CRep G s.reg w c v → CRep (G.setReg r root f) (s.setReg r g).reg w c v) ∧ (∀ k, Lone G s k → k ∉ f → Lone (G.setReg r root f) (s.setReg r g) k) := by
  have ha : Apart C G s r f := ⟨hf, fun k hk => (hl k hk).still, fun k hk => (hl k hk).box, fun k hk q g _ hg => (hl k hk).reg q g hg, hok⟩
  have hm : Moved w w [] := ⟨Nat.le_refl _, fun _ _ _ => rfl⟩
  have mv : ∀ c v, CRep G s.reg w c v → CRep (G.setReg r root f) (s.setReg r g).reg w c v := fun c v hc =>
    h.toCore.setReg_cell ha hm (fun k hk => by cases hk) hc fun e => by have := hc.has e; rw [hn] at this; cases this
  refine ⟨h.step0 (h.toCore.setReg ha hm (fun k hk => by cases hk) h.frame hor hd fun b x c v _ _ hc => mv c v hc) rfl mv, mv, fun k hk hnk => ⟨hk.still, hk.box, fun q g' hq => ?_⟩⟩
  rw [setReg_reg] at hq
  by_cases e : q = r
  · rw [e, show (G.setReg r root f).fp r = f from upd_same _ _ _]; exact hnk
  · rw [if_neg e] at hq
    rw [show (G.setReg r root f).fp q = G.fp q from upd_ne _ _ e]; exact hk.reg q g' hq
/-- A variable that is there is told; it came in. -/
theorem Inv.bringBox (h : Inv C G s a w) {d k : Nat} (hn : get s.boxes d = none) (hh : C.home d = none) {tid : TypeId} {cells : List Cell} {arr : Array Value} (hw : w.heap[k]? = some (.cells arr tid (0, 0))) (hc : Cells G s.reg w cells arr.toList) (hl : Lone G s k) (hok : C.ok k) :
    Inv { C with home := upd C.home d (some k) } (G.newBox d k) (s.setBox d ⟨tid, cells⟩) a w ∧ (∀ c v, CRep G s.reg w c v → CRep (G.newBox d k) (s.setBox d ⟨tid, cells⟩).reg w c v) ∧ (∀ q, Lone G s q → q ≠ k → Lone (G.newBox d k) (s.setBox d ⟨tid, cells⟩) q) := by
  have mv : ∀ c v, CRep G s.reg w c v → CRep (G.newBox d k) (s.setBox d ⟨tid, cells⟩).reg w c v := by
    intro c v hc
    refine CRep.move (G := G) (G' := G.newBox d k) (fun _ hk => hk) (fun _ _ => rfl) (fun b hb => ⟨.inl hb, upd_ne _ _ fun e => ?_⟩) (fun q hq => ⟨fun g hg => ⟨g, hg, rfl, rfl⟩, rfl, fun _ _ _ _ => rfl⟩) hc
    have := h.pb b hb; rw [e, hn] at this; cases this
  have bx : ∀ {b x}, get (s.setBox d ⟨tid, cells⟩).boxes b = some x → (b = d ∧ x = ⟨tid, cells⟩) ∨ (b ≠ d ∧ get s.boxes b = some x) := by
    intro b x hb
    rw [setBox_box] at hb
    by_cases e : b = d
    · rw [if_pos e] at hb; exact .inl ⟨e, (Option.some.inj hb).symm⟩
    · rw [if_neg e] at hb; exact .inr ⟨e, hb⟩
  have bd : (G.newBox d k).blk d = k := upd_same _ _ _
  have bn : ∀ {b}, b ≠ d → (G.newBox d k).blk b = G.blk b := fun hb => upd_ne _ _ hb
  have hklt : k < w.heap.size := (Array.getElem?_eq_some_iff.1 hw).1
  have core : Core { C with home := upd C.home d (some k) } (G.newBox d k) (s.setBox d ⟨tid, cells⟩) w := by
    refine ⟨?_, h.reg, ?_, ?_, h.rr, ?_, ?_, h.ir, ?_, h.or, h.ilt, ⟨h.frame.os, h.frame.tape, h.frame.output, h.frame.size, h.frame.block⟩, ?_, h.orig, h.i0, h.i1⟩
    · intro b x hb
      rcases bx hb with ⟨rfl, rfl⟩ | ⟨hne, hb⟩
      · exact ⟨arr, by rw [bd]; exact hw, hc.move mv⟩
      · obtain ⟨arr', h1, h2⟩ := h.box b x hb
        exact ⟨arr', by rw [bn hne]; exact h1, h2.move mv⟩
    · intro b hb
      rw [setBox_box]
      by_cases e : b = d
      · rw [if_pos e]; rfl
      · rw [if_neg e]; exact h.pb b (hb.resolve_right e)
    · intro b b' x x' hb hb' hne
      rcases bx hb with ⟨e1, _⟩ | ⟨n1, hb1⟩
      · rcases bx hb' with ⟨e2, _⟩ | ⟨n2, hb2⟩
        · exact absurd (e1.trans e2.symm) hne
        · rw [e1, bd, bn n2]; exact (hl.box b' x' hb2).symm
      · rcases bx hb' with ⟨e2, _⟩ | ⟨n2, hb2⟩
        · rw [e2, bd, bn n1]; exact hl.box b x hb1
        · rw [bn n1, bn n2]; exact h.bb b b' x x' hb1 hb2 hne
    · intro r g b x hr hb
      rcases bx hb with ⟨rfl, rfl⟩ | ⟨n1, hb⟩
      · rw [bd]; exact hl.reg r g hr
      · rw [bn n1]; exact h.rb r g b x hr hb
    · intro b x hb
      rcases bx hb with ⟨rfl, rfl⟩ | ⟨n1, hb⟩
      · rw [bd]; exact hl.still
      · rw [bn n1]; exact h.ib b x hb
    · intro b x hb
      rcases bx hb with ⟨rfl, rfl⟩ | ⟨n1, hb⟩
      · rw [bd]; exact hok
      · rw [bn n1]; exact h.ob b x hb
    · intro b q hb
      rw [setBox_box]
      by_cases e : b = d
      · subst e
        replace hb : upd C.home b (some k) b = some q := hb
        rw [upd_same] at hb
        obtain rfl := Option.some.inj hb
        rw [if_pos rfl]; exact ⟨rfl, bd⟩
      · replace hb : upd C.home d (some k) b = some q := hb
        rw [upd_ne _ _ e] at hb
        rw [if_neg e, bn e]; exact h.home b q hb
  refine ⟨?_, mv, fun q hq hne => ⟨hq.still, fun b x hb => ?_, hq.reg⟩⟩
  · refine { toCore := core, defers := h.defers, size := h.size, tmp := fun t y hy => ?_ }
    exact (h.tmp t y hy).move mv
  · rcases bx hb with ⟨rfl, rfl⟩ | ⟨n1, hb⟩
    · rw [bd]; exact hne.symm
    · rw [bn n1]; exact hq.box b x hb

theorem Lone.put {d : Option Tmp} {v : AVal} {k : Nat} (h : Lone G s k) : Lone G (s.put d v) k := by
  cases d <;> exact ⟨h.still, h.box, h.reg⟩
/-! ### entering -/
theorem lab_box {b o b' o' : Nat} (ho : o < 1000) (ho' : o' < 1000) (h : boxLab b o = boxLab b' o') : b = b' ∧ o = o' := by unfold boxLab at h; omega
theorem lab_home {t b o : Nat} (ht : t ≤ 1000) : homeLab t ≠ boxLab b o := by unfold homeLab boxLab; omega
theorem lab_homes {t u : Nat} (h : homeLab t = homeLab u) : t = u := by unfold homeLab at h; omega
/-- The regions that are there come of the parameters before. -/
def Before (s : St) (i : Nat) (r : Nat) : Prop := (s.reg r).isSome = true → (∃ j, j < i ∧ r = homeLab j) ∨ ∃ j o, j < i ∧ o < 1000 ∧ r = boxLab j o
theorem rowCells_ok {b : Nat} (hI : ∀ k, C.lent k → True) : ∀ (l : List CSh) (o : Nat) (x : (rowTy l).den) (vs : List Value) (f : List Nat) {G : Gh} {s : St} {I : Nat → Prop}, (∀ k, I k → G.I k) → Inv C G s a w → RowRep I w l x vs f → f.Nodup → (∀ k ∈ f, Lone G s k ∧ C.ok k) → o + l.length ≤ 1000 → (∀ o', o ≤ o' → o' < 1000 → s.reg (boxLab b o') = none) →
    ∃ G', Inv C G' (rowCells s b l o x).1 a w ∧ Cells G' (rowCells s b l o x).1.reg w (rowCells s b l o x).2 vs ∧ G'.I = G.I ∧ (∀ c v, CRep G s.reg w c v → CRep G' (rowCells s b l o x).1.reg w c v) ∧ (∀ k, Lone G s k → k ∉ f → Lone G' (rowCells s b l o x).1 k) ∧
      (rowCells s b l o x).1.tmps = s.tmps ∧ (rowCells s b l o x).1.boxes = s.boxes ∧ (∀ r, ((rowCells s b l o x).1.reg r).isSome = true → (s.reg r).isSome = true ∨ ∃ o', o ≤ o' ∧ o' < 1000 ∧ r = boxLab b o')
  | [], o, x, vs, f, G, s, I, hGI, h, hr, hn, hl, hlen, hfr => by
    obtain ⟨rfl, rfl⟩ := hr
    exact ⟨G, h, rfl, rfl, fun _ _ hc => hc, fun _ hk _ => hk, rfl, rfl, fun r hr => .inl hr⟩
  | .val t :: l, o, x, vs, f, G, s, I, hGI, h, hr, hn, hl, hlen, hfr => by
    obtain ⟨v, vl, rfl, ⟨hv, _⟩, hr⟩ := hr
    obtain ⟨G', k1, k2, k3, k4, k5, k6, k7, k8⟩ := rowCells_ok hI l (o + 1) x.2 vl f hGI h hr hn hl (by simp only [List.length_cons] at hlen; omega) (fun o' h1 h2 => hfr o' (by omega) h2)
    refine ⟨G', k1, ?_, k3, k4, k5, k6, k7, fun r hr => (k8 r hr).imp id fun ⟨o', h1, h2, h3⟩ => ⟨o', by omega, h2, h3⟩⟩
    exact (vcells_ok (hv.mono (fun k hk => by rw [k3]; exact hGI k hk) fun _ _ => rfl)).append k2
  | .view e t :: l, o, x, vs, f, G, s, I, hGI, h, hr, hn, hl, hlen, hfr => by
    obtain ⟨v, vl, rfl, hv, hr⟩ := hr
    obtain ⟨G', k1, k2, k3, k4, k5, k6, k7, k8⟩ := rowCells_ok hI l (o + 1) x.2 vl f hGI h hr hn hl (by simp only [List.length_cons] at hlen; omega) (fun o' h1 h2 => hfr o' (by omega) h2)
    exact ⟨G', k1, ⟨v, vl, rfl, hv.mono (fun k hk => by rw [k3]; exact hGI k hk) fun _ _ => rfl, k2⟩, k3, k4, k5, k6, k7, fun r hr => (k8 r hr).imp id fun ⟨o', h1, h2, h3⟩ => ⟨o', by omega, h2, h3⟩⟩
  | .own e t :: l, o, x, vs, f, G, s, I, hGI, h, hr, hn, hl, hlen, hfr => by
    obtain ⟨v, vl, f1, fl, rfl, rfl, hv, hr⟩ := hr
    obtain ⟨n1, n2, n3⟩ := List.nodup_append.1 hn
    have hlen' : o + 1 + l.length ≤ 1000 := by simp only [List.length_cons] at hlen; omega
    obtain ⟨G', k1, k2, k3, k4, k5, k6, k7, k8⟩ := rowCells_ok hI l (o + 1) x.2 vl fl hGI h hr n2 (fun k hk => hl k (List.mem_append.2 (.inr hk))) hlen' (fun o' h1 h2 => hfr o' (by omega) h2)
    have hnone : (rowCells s b l (o + 1) x.2).1.reg (boxLab b o) = none := by
      cases hg : (rowCells s b l (o + 1) x.2).1.reg (boxLab b o) with
      | none => rfl
      | some g =>
        rcases k8 _ (by rw [hg]; rfl) with hs | ⟨o', h1, h2, h3⟩
        · rw [hfr o (Nat.le_refl _) (by omega)] at hs; cases hs
        · have := (lab_box (by omega) h2 h3).2; omega
    obtain ⟨m1, m2, m3⟩ := k1.bring (g := ⟨e, t, x.1, 0⟩) (root := v) hnone hv n1 (fun k hk => k5 k (hl k (List.mem_append.2 (.inl hk))).1 fun hk' => n3 k hk k hk' rfl) (fun k hk => (hl k (List.mem_append.2 (.inl hk))).2) (fun j hj => by cases hj)
    refine ⟨_, m1, ⟨v, vl, rfl, ⟨⟨e, t, x.1, 0⟩, by show (St.setReg _ _ _).reg _ = _; rw [setReg_reg, if_pos rfl], (upd_same _ _ _).symm⟩, k2.move m2⟩, k3, fun c v hc => m2 c v (k4 c v hc), fun k hk hnk => m3 k (k5 k hk fun hk' => hnk (List.mem_append.2 (.inr hk'))) fun hk' => hnk (List.mem_append.2 (.inl hk')), k6, k7, fun r hr => ?_⟩
    replace hr : (((rowCells s b l (o + 1) x.2).1.setReg (boxLab b o) ⟨e, t, x.1, 0⟩).reg r).isSome = true := hr
    rw [setReg_reg] at hr
    by_cases e : r = boxLab b o
    · exact .inr ⟨o, Nat.le_refl _, by omega, e⟩
    · rw [if_neg e] at hr
      exact (k8 r hr).imp id fun ⟨o', h1, h2, h3⟩ => ⟨o', by omega, h2, h3⟩
theorem vcells_comp {I : Nat → Prop} {R : Nat → Option Reg} {t : Ty} {x : t.den} {v : Value} (hI : ∀ k, I k → G.I k) (h : ValRep I w t x v) : ∃ c, compOf t (vcells t x) = some c ∧ KRep G R w c v := by
  obtain ⟨cs, h1, h2, h3⟩ := h
  have hc := vcells_ok (G := G) (R := R) (h1.mono hI fun _ _ => rfl)
  unfold compOf
  cases ht : isAggTy t with
  | true =>
    rw [h2 ht]
    exact ⟨_, rfl, cs, rfl, hc⟩
  | false =>
    rw [h3 ht] at hc
    simp only [cond_false]
    cases hv : vcells t x with
    | nil => rw [hv] at hc; cases hc
    | cons c l =>
      rw [hv] at hc
      obtain ⟨u, ul, e, h4, h5⟩ := hc
      obtain ⟨rfl, rfl⟩ : v = u ∧ ul = [] := by simpa [eq_comm] using e
      cases l with
      | nil => exact ⟨_, rfl, h4⟩
      | cons _ _ => obtain ⟨_, _, e, _⟩ := h5; cases e
/-- What is handed over is told. -/
theorem enter_ok : ∀ (l : List Par) (i : Nat) (x : (parsTy l).den) (vs : List Value) (fp : List Nat) {C : Ctx} {G : Gh} {s : St} {I : Nat → Prop}, (∀ k, I k → G.I k) → Inv C G s a w → ParsRep I w l x vs fp → fp.Nodup → (∀ k ∈ fp, Lone G s k ∧ C.ok k) → i + l.length ≤ 1000 → (∀ p ∈ l, match p with | .box _ sh _ => sh.length ≤ 1000 | .agg sh => sh.length ≤ 1000 | _ => True) →
    (∀ j v, vs[j]? = some v → a.tmps.getD (i + j) undef = v) → (∀ j e t b, l[j]? = some (.own e t b) → ∃ v, vs[j]? = some v ∧ C.arg (i + j) = v) → (∀ r, Before s i r) → (∀ b, (get s.boxes b).isSome = true → b < i) → (∀ b, i ≤ b → C.home b = none) →
    ∃ C' G', Inv C' G' (enter s l i x) a w ∧ C'.w0 = C.w0 ∧ C'.lent = C.lent ∧ C'.nt = C.nt ∧ C'.arg = C.arg ∧ C'.I0 = C.I0 ∧ (∀ b, C'.home b ≠ none → C.home b ≠ none ∨ b ∈ boxPars l i) ∧ (∀ b, b < i → C'.home b = C.home b) ∧ (∀ j tid sh out, l[j]? = some (.box tid sh out) → ∃ k, vs[j]? = some (.pointer (some ⟨k, 0, none⟩)) ∧ C'.home (i + j) = some k) ∧ G'.I = G.I
  | [], i, x, vs, fp, C, G, s, I, hGI, h, hr, hn, hl, hlen, hrows, htm, harg, hbe, hbx, hho => ⟨C, G, h, rfl, rfl, rfl, rfl, rfl, fun b hb => .inl hb, fun _ _ => rfl, fun j _ _ _ hj => by simp at hj, rfl⟩
  | .val t :: l, i, x, vs, fp, C, G, s, I, hGI, h, hr, hn, hl, hlen, hrows, htm, harg, hbe, hbx, hho => by
    obtain ⟨v, vl, rfl, hv, hr⟩ := hr
    obtain ⟨c, hc, hk⟩ := vcells_comp (R := s.reg) hGI hv
    have h2 : Inv C G (s.put (some i) (.cp c)) a w := h.putS (by rw [show a.tmps.getD i undef = v from htm 0 v rfl]; exact hk)
    have hlen' : i + 1 + l.length ≤ 1000 := by simp only [List.length_cons] at hlen; omega
    obtain ⟨C', G', k1, k2, k3, k4, k5, k5', k6, k6', k7, k8⟩ := enter_ok l (i + 1) x.2 vl fp hGI h2 hr hn (fun k hk => ⟨(hl k hk).1.put, (hl k hk).2⟩) hlen' (fun p hp => hrows p (List.mem_cons_of_mem _ hp)) (fun j v hj => by rw [Nat.add_assoc, Nat.add_comm 1]; exact htm (j + 1) v hj) (fun j e t b hj => by rw [Nat.add_assoc, Nat.add_comm 1]; exact harg (j + 1) e t b hj)
      (fun r hr => (hbe r hr).imp (fun ⟨j, h1, h2⟩ => ⟨j, by omega, h2⟩) fun ⟨j, o, h1, h2⟩ => ⟨j, o, by omega, h2⟩) (fun b hb => by have := hbx b hb; omega) (fun b hb => hho b (by omega))
    refine ⟨C', G', ?_, k2, k3, k4, k5, k5', k6, fun b hb => k6' b (by omega), fun j tid sh out hj => ?_, k8⟩
    · rw [enter, hc]; exact k1
    · cases j with
      | zero => simp at hj
      | succ j => obtain ⟨k, h3, h4⟩ := k7 j tid sh out hj; exact ⟨k, h3, by rw [← h4]; congr 1; omega⟩
  | .own e t bk :: l, i, x, vs, fp, C, G, s, I, hGI, h, hr, hn, hl, hlen, hrows, htm, harg, hbe, hbx, hho => by
    obtain ⟨v, vl, f1, fl, rfl, rfl, hv, hr⟩ := hr
    obtain ⟨n1, n2, n3⟩ := List.nodup_append.1 hn
    have hlen' : i + 1 + l.length ≤ 1000 := by simp only [List.length_cons] at hlen; omega
    have hnone : s.reg (homeLab i) = none := by
      cases hg : s.reg (homeLab i) with
      | none => rfl
      | some g =>
        rcases hbe _ (by rw [hg]; rfl) with ⟨j, h1, h2⟩ | ⟨j, o, h1, _, h2⟩
        · have := lab_homes h2; omega
        · exact absurd h2 (lab_home (by omega))
    obtain ⟨v', hv', harg0⟩ := harg 0 e t bk rfl
    obtain rfl : v' = v := by simpa using hv'.symm
    obtain ⟨m1, m2, m3⟩ := h.bring (g := ⟨e, t, x.1, i + 1⟩) (root := v') hnone hv n1 (fun k hk => (hl k (List.mem_append.2 (.inl hk))).1) (fun k hk => (hl k (List.mem_append.2 (.inl hk))).2) (fun j hj => by
      obtain rfl : i = j := by simpa using hj
      exact harg0.symm)
    have h2 : Inv C (G.setReg (homeLab i) v' f1) ((s.setReg (homeLab i) ⟨e, t, x.1, i + 1⟩).put (some i) (.c (.own (homeLab i)))) a w := m1.putS (by
      rw [show a.tmps.getD i undef = v' from htm 0 v' rfl]
      exact ⟨_, by rw [setReg_reg, if_pos rfl], (upd_same _ _ _).symm⟩)
    obtain ⟨C', G', k1, k2, k3, k4, k5, k5', k6, k6', k7, k8⟩ := enter_ok l (i + 1) x.2 vl fl (G := G.setReg (homeLab i) v' f1) (I := I) hGI h2 hr n2 (fun k hk => ⟨(m3 k (hl k (List.mem_append.2 (.inr hk))).1 fun hk' => n3 k hk' k hk rfl).put, (hl k (List.mem_append.2 (.inr hk))).2⟩) hlen' (fun p hp => hrows p (List.mem_cons_of_mem _ hp)) (fun j v hj => by rw [Nat.add_assoc, Nat.add_comm 1]; exact htm (j + 1) v hj) (fun j e t b hj => by rw [Nat.add_assoc, Nat.add_comm 1]; exact harg (j + 1) e t b hj)
      (fun r hr => by
        have hr' : ((s.setReg (homeLab i) ⟨e, t, x.1, i + 1⟩).reg r).isSome = true := hr
        rw [setReg_reg] at hr'
        by_cases er : r = homeLab i
        · exact .inl ⟨i, by omega, er⟩
        · rw [if_neg er] at hr'
          exact (hbe r hr').imp (fun ⟨j, h1, h2⟩ => ⟨j, by omega, h2⟩) fun ⟨j, o, h1, h2⟩ => ⟨j, o, by omega, h2⟩) (fun b hb => by have := hbx b hb; omega) (fun b hb => hho b (by omega))
    refine ⟨C', G', k1, k2, k3, k4, k5, k5', k6, fun b hb => k6' b (by omega), fun j tid sh out hj => ?_, k8⟩
    cases j with
    | zero => simp at hj
    | succ j => obtain ⟨k, h3, h4⟩ := k7 j tid sh out hj; exact ⟨k, h3, by rw [← h4]; congr 1; omega⟩
  | .box tid sh out :: l, i, x, vs, fp, C, G, s, I, hGI, h, hr, hn, hl, hlen, hrows, htm, harg, hbe, hbx, hho => by
    obtain ⟨kb, vl, f1, fl, arr, rfl, rfl, hheap, hrow, hr⟩ := hr
    obtain ⟨n1, n2, n3⟩ := List.nodup_append.1 hn
    obtain ⟨n4, n5⟩ := List.nodup_cons.1 n1
    have hlen' : i + 1 + l.length ≤ 1000 := by simp only [List.length_cons] at hlen; omega
    have hsh : sh.length ≤ 1000 := hrows _ List.mem_cons_self
    obtain ⟨G1, r1, r2, r3, r4, r5, r6, r7, r8⟩ := rowCells_ok (b := i) (fun _ _ => trivial) sh 0 x.1 arr.toList f1 hGI h hrow n5 (fun k hk => hl k (by simp [hk])) (by omega) (fun o' _ ho' => by
      cases hg : s.reg (boxLab i o') with
      | none => rfl
      | some g =>
        rcases hbe _ (by rw [hg]; rfl) with ⟨j, h1, h2⟩ | ⟨j, o, h1, h0, h2⟩
        · exact absurd h2.symm (lab_home (by omega))
        · have := (lab_box ho' h0 h2).1; omega)
    have hnb : get (rowCells s i sh 0 x.1).1.boxes i = none := by
      rw [r7]
      cases hg : get s.boxes i with
      | none => rfl
      | some b => have := hbx i (by rw [hg]; rfl); omega
    obtain ⟨m1, m2, m3⟩ := r1.bringBox hnb (hho i (Nat.le_refl _)) hheap r2 (r5 kb (hl kb (by simp)).1 n4) (hl kb (by simp)).2
    have h2 := m1.putS (d := i) (x := .c (.ptr i 0)) (by
      rw [show a.tmps.getD i undef = _ from htm 0 _ rfl]
      refine ⟨.inr rfl, ?_⟩
      rw [show (G1.newBox i kb).blk i = kb from upd_same _ _ _])
    obtain ⟨C', G', k1, k2, k3, k4, k5, k5', k6, k6', k7, k8⟩ := enter_ok l (i + 1) x.2 vl fl (C := { C with home := upd C.home i (some kb) }) (G := G1.newBox i kb) (I := I) (fun k hk => by show G1.I k; rw [r3]; exact hGI k hk) h2 hr n2 (fun k hk => ⟨(m3 k (r5 k (hl k (by simp [hk])).1 fun hk' => n3 k (by simp [hk']) k hk rfl) fun e => n3 kb (by simp) k hk e.symm).put, (hl k (by simp [hk])).2⟩) hlen' (fun p hp => hrows p (List.mem_cons_of_mem _ hp)) (fun j v hj => by rw [Nat.add_assoc, Nat.add_comm 1]; exact htm (j + 1) v hj) (fun j e t b hj => by rw [Nat.add_assoc, Nat.add_comm 1]; exact harg (j + 1) e t b hj)
      (fun r hr => by
        rcases r8 r hr with hr | ⟨o', _, ho', e⟩
        · exact (hbe r hr).imp (fun ⟨j, h1, h2⟩ => ⟨j, by omega, h2⟩) fun ⟨j, o, h1, h2⟩ => ⟨j, o, by omega, h2⟩
        · exact .inr ⟨i, o', by omega, ho', e⟩) (fun b hb => by
        have hb' : (get ((rowCells s i sh 0 x.1).1.setBox i ⟨tid, (rowCells s i sh 0 x.1).2⟩).boxes b).isSome = true := hb
        rw [setBox_box, r7] at hb'
        by_cases e : b = i
        · omega
        · rw [if_neg e] at hb'; have := hbx b hb'; omega) (fun b hb => by
        show upd C.home i (some kb) b = none
        rw [upd_ne _ _ (by omega)]; exact hho b (by omega))
    refine ⟨C', G', k1, k2, k3, k4, k5, k5', fun b hb => ?_, fun b hb => by rw [k6' b (by omega)]; exact upd_ne _ _ (by omega), fun j tid' sh' out' hj => ?_, k8.trans r3⟩
    · rcases k6 b hb with hb | hb
      · by_cases e : b = i
        · exact .inr (by simp [boxPars, e])
        · replace hb : upd C.home i (some kb) b ≠ none := hb
          rw [upd_ne _ _ e] at hb
          exact .inl hb
      · exact .inr (by simp [boxPars, hb])
    · cases j with
      | zero => exact ⟨kb, rfl, by rw [Nat.add_zero, k6' i (by omega)]; exact upd_same _ _ _⟩
      | succ j => obtain ⟨k, h3, h4⟩ := k7 j tid' sh' out' hj; exact ⟨k, h3, by rw [← h4]; congr 1; omega⟩
  | .agg sh :: l, i, x, vs, fp, C, G, s, I, hGI, h, hr, hn, hl, hlen, hrows, htm, harg, hbe, hbx, hho => by
    obtain ⟨vl, f1, fl, arr, rfl, rfl, hrow, hr⟩ := hr
    obtain ⟨n1, n2, n3⟩ := List.nodup_append.1 hn
    have hlen' : i + 1 + l.length ≤ 1000 := by simp only [List.length_cons] at hlen; omega
    have hsh : sh.length ≤ 1000 := hrows _ List.mem_cons_self
    obtain ⟨G1, r1, r2, r3, r4, r5, r6, r7, r8⟩ := rowCells_ok (b := i) (fun _ _ => trivial) sh 0 x.1 arr.toList f1 hGI h hrow n1 (fun k hk => hl k (by simp [hk])) (by omega) (fun o' _ ho' => by
      cases hg : s.reg (boxLab i o') with
      | none => rfl
      | some g =>
        rcases hbe _ (by rw [hg]; rfl) with ⟨j, h1, h2⟩ | ⟨j, o, h1, h0, h2⟩
        · exact absurd h2.symm (lab_home (by omega))
        · have := (lab_box ho' h0 h2).1; omega)
    have h2 := r1.putS (d := i) (x := .cp (.agg (rowCells s i sh 0 x.1).2)) (by
      rw [show a.tmps.getD i undef = _ from htm 0 _ rfl]
      exact ⟨arr, rfl, r2⟩)
    obtain ⟨C', G', k1, k2, k3, k4, k5, k5', k6, k6', k7, k8⟩ := enter_ok l (i + 1) x.2 vl fl (G := G1) (I := I) (fun k hk => by rw [r3]; exact hGI k hk) h2 hr n2 (fun k hk => ⟨(r5 k (hl k (by simp [hk])).1 fun hk' => n3 k hk' k hk rfl).put, (hl k (by simp [hk])).2⟩) hlen' (fun p hp => hrows p (List.mem_cons_of_mem _ hp)) (fun j v hj => by rw [Nat.add_assoc, Nat.add_comm 1]; exact htm (j + 1) v hj) (fun j e t b hj => by rw [Nat.add_assoc, Nat.add_comm 1]; exact harg (j + 1) e t b hj)
      (fun r hr => by
        rcases r8 r hr with hr | ⟨o', _, ho', e⟩
        · exact (hbe r hr).imp (fun ⟨j, h1, h2⟩ => ⟨j, by omega, h2⟩) fun ⟨j, o, h1, h2⟩ => ⟨j, o, by omega, h2⟩
        · exact .inr ⟨i, o', by omega, ho', e⟩) (fun b hb => by
        have hb' : (get (rowCells s i sh 0 x.1).1.boxes b).isSome = true := hb
        rw [r7] at hb'
        have := hbx b hb'; omega) (fun b hb => hho b (by omega))
    refine ⟨C', G', k1, k2, k3, k4, k5, k5', k6, fun b hb => k6' b (by omega), fun j tid' sh' out' hj => ?_, k8.trans r3⟩
    cases j with
    | zero => simp at hj
    | succ j => obtain ⟨k, h3, h4⟩ := k7 j tid' sh' out' hj; exact ⟨k, h3, by rw [← h4]; congr 1; omega⟩
  | .fn f caps :: l, i, x, vs, fp, C, G, s, I, hGI, h, hr, hn, hl, hlen, hrows, htm, harg, hbe, hbx, hho => by
    obtain ⟨vl, rfl, rfl, hr⟩ := hr
    have h2 : Inv C G (s.put (some i) (.c (.fn f []))) a w := h.putS (by rw [show a.tmps.getD i undef = _ from htm 0 _ rfl]; exact ⟨fun b hb => (by cases hb), rfl⟩)
    have hlen' : i + 1 + l.length ≤ 1000 := by simp only [List.length_cons] at hlen; omega
    obtain ⟨C', G', k1, k2, k3, k4, k5, k5', k6, k6', k7, k8⟩ := enter_ok l (i + 1) x.2 vl fp hGI h2 hr hn (fun k hk => ⟨(hl k hk).1.put, (hl k hk).2⟩) hlen' (fun p hp => hrows p (List.mem_cons_of_mem _ hp)) (fun j v hj => by rw [Nat.add_assoc, Nat.add_comm 1]; exact htm (j + 1) v hj) (fun j e t b hj => by rw [Nat.add_assoc, Nat.add_comm 1]; exact harg (j + 1) e t b hj)
      (fun r hr => (hbe r hr).imp (fun ⟨j, h1, h2⟩ => ⟨j, by omega, h2⟩) fun ⟨j, o, h1, h2⟩ => ⟨j, o, by omega, h2⟩) (fun b hb => by have := hbx b hb; omega) (fun b hb => hho b (by omega))
    refine ⟨C', G', k1, k2, k3, k4, k5, k5', k6, fun b hb => k6' b (by omega), fun j tid sh out hj => ?_, k8⟩
    cases j with
    | zero => simp at hj
    | succ j => obtain ⟨k, h3, h4⟩ := k7 j tid sh out hj; exact ⟨k, h3, by rw [← h4]; congr 1; omega⟩
end

end Go.Proofs.Ytigkodlbjimikaa.Vc
