/- Loops begin anew: the state is told by less, and by other names. -/
import Derived.Test.YtigkodlbjimikaaVcZc
namespace Go.Proofs.Ytigkodlbjimikaa.Vc
open Go Go.RowKit
set_option linter.unusedVariables false
set_option linter.unusedSimpArgs false

section
variable {C : Ctx} {G : Gh} {s : St} {a : Act} {w : World}

/-! ### what is forgotten -/
theorem get_keep {α : Type} (m t : Nat) : ∀ l : List (Nat × α), get (keep m l) t = bif (m >>> t) % 2 == 1 then get l t else none
  | [] => by simp [keep, get]
  | (k, x) :: l => by
    have ih := get_keep m t l
    simp only [keep]
    by_cases e : k = t
    · subst e
      cases hb : ((m >>> k) % 2 == 1) with
      | true => simp [get]
      | false => rw [hb] at ih; simpa using ih
    · have h1 : (k == t) = false := by simp [e]
      cases hb : ((m >>> k) % 2 == 1) with
      | true => simp only [cond_true, get, h1, cond_false]; exact ih
      | false => simp only [cond_false, get, h1]; exact ih
theorem get_keepL {α : Type} (l : List Nat) (t : Nat) : ∀ r : List (Nat × α), get (keepL l r) t = bif l.contains t then get r t else none
  | [] => by simp [keepL, get]
  | (k, x) :: r => by
    have ih := get_keepL l t r
    simp only [keepL]
    by_cases e : k = t
    · subst e
      cases hb : l.contains k with
      | true => simp [get]
      | false => rw [hb] at ih; simpa using ih
    · have h1 : (k == t) = false := by simp [e]
      cases hb : l.contains k with
      | true => simp only [cond_true, get, h1, cond_false]; exact ih
      | false => simp only [cond_false, get, h1]; exact ih
def Gh.only (G : Gh) (ks : List Nat) : Gh := { G with pb := fun b => G.pb b ∧ b ∈ ks }
theorem capB_ok {ks : List Nat} {R : Nat → Option Reg} {c : Cell} {v : Value} (hc : CRep G R w c v) : CRep (G.only ks) R w (capB ks c) v := by
  cases c with
  | ptr b off =>
    obtain ⟨h1, h2⟩ := hc
    simp only [capB]
    cases hb : ks.contains b with
    | true => exact ⟨⟨h1, by simpa using hb⟩, h2⟩
    | false => rw [h2]; rfl
  | fn f caps =>
    obtain ⟨h1, h2⟩ := hc
    simp only [capB]
    cases hb : (caps.all fun b => ks.contains b) with
    | true => exact ⟨fun b hb' => ⟨h1 b hb', by simpa using List.all_eq_true.1 hb b hb'⟩, h2⟩
    | false => rw [h2]; rfl
  | _ => exact hc
theorem Inv.cut (h : Inv C G s a w) (m : Nat) {ks : List Nat} (hk : ∀ b k, C.home b = some k → b ∈ ks) : Inv C (G.only ks) (s.cut m ks) a w := by
  have bx : ∀ {b x}, get (s.cut m ks).boxes b = some x → b ∈ ks ∧ ∃ y, get s.boxes b = some y ∧ x = { y with cells := y.cells.map (capB ks) } := by
    intro b x hb
    replace hb : get (mapv (fun x : Box => { x with cells := x.cells.map (capB ks) }) (keepL ks s.boxes)) b = some x := hb
    rw [get_mapv, get_keepL] at hb
    cases hc : ks.contains b with
    | false => rw [hc] at hb; cases hb
    | true =>
      rw [hc] at hb
      obtain ⟨y, hy, rfl⟩ := Option.map_eq_some_iff.1 hb
      exact ⟨by simpa using hc, y, hy, rfl⟩
  have bs : ∀ {b}, b ∈ ks → (get s.boxes b).isSome = true → (get (s.cut m ks).boxes b).isSome = true := by
    intro b hm hb
    show (get (mapv (fun x : Box => { x with cells := x.cells.map (capB ks) }) (keepL ks s.boxes)) b).isSome = true
    rw [get_mapv, get_keepL, show ks.contains b = true by simpa using hm]
    simpa using hb
  refine { box := ?_, reg := h.reg, pb := ?_, bb := ?_, rr := h.rr, rb := ?_, ib := ?_, ir := h.ir, ob := ?_, or := h.or, ilt := h.ilt, frame := h.frame, home := ?_, orig := h.orig, i0 := h.i0, i1 := h.i1, defers := h.defers, size := h.size, tmp := ?_ }
  · intro b x hb
    obtain ⟨_, y, hy, rfl⟩ := bx hb
    obtain ⟨arr, h1, h2⟩ := h.box b y hy
    exact ⟨arr, h1, h2.map _ fun c v hc => capB_ok hc⟩
  · intro b hb; exact bs hb.2 (h.pb b hb.1)
  · intro b b' x x' hb hb'; obtain ⟨_, y, hy, _⟩ := bx hb; obtain ⟨_, y', hy', _⟩ := bx hb'; exact h.bb b b' y y' hy hy'
  · intro r g b x hg hb; obtain ⟨_, y, hy, _⟩ := bx hb; exact h.rb r g b y hg hy
  · intro b x hb; obtain ⟨_, y, hy, _⟩ := bx hb; exact h.ib b y hy
  · intro b x hb; obtain ⟨_, y, hy, _⟩ := bx hb; exact h.ob b y hy
  · intro b k hb; obtain ⟨h1, h2⟩ := h.home b k hb; exact ⟨bs (hk b k hb) h1, h2⟩
  · intro t v hv
    replace hv : get (mapv (AVal.map (capB ks)) (keep m s.tmps)) t = some v := hv
    rw [get_mapv, get_keep] at hv
    cases hc : ((m >>> t) % 2 == 1) with
    | false => rw [hc] at hv; cases hv
    | true =>
      rw [hc] at hv
      obtain ⟨u, hu, rfl⟩ := Option.map_eq_some_iff.1 hv
      exact (h.tmp t u hu).map _ fun c v hc => capB_ok hc

/-! ### nil slices are regions with nothing in them -/
structure NilExt (r0 r1 : List (Nat × Reg)) : Prop where
  low : ∀ q, q < 300000000 → get r1 q = get r0 q
  high : ∀ q g, 300000000 ≤ q → get r1 q = some g → g.xs = [] ∧ g.orig = 0
theorem NilExt.ins {r0 r1 : List (Nat × Reg)} (h : NilExt r0 r1) {q : Nat} (hq : 300000000 ≤ q) (e : TypeId) (u : Ty) : NilExt r0 (Vc.ins q ⟨e, u, [], 0⟩ r1) := by
  refine ⟨fun p hp => ?_, fun p g hp hg => ?_⟩
  · rw [get_ins, if_neg (by omega)]; exact h.low p hp
  · rw [get_ins] at hg
    by_cases e : p = q
    · rw [if_pos e] at hg; obtain rfl := Option.some.inj hg; exact ⟨rfl, rfl⟩
    · rw [if_neg e] at hg; exact h.high p g hp hg
theorem ins_some {q p : Nat} {g : Reg} {r : List (Nat × Reg)} (h : (get r p).isSome = true) : (get (ins q g r) p).isSome = true := by
  rw [get_ins]; split
  · rfl
  · exact h
def Gh.nils (G : Gh) : Gh := { G with fp := fun q => if 300000000 ≤ q then [] else G.fp q, root := fun q => if 300000000 ≤ q then .slice none 0 0 else G.root q }
theorem nil_move {rF : List (Nat × Reg)} (hlow : ∀ q, 300000000 ≤ q → s.reg q = none) (hx : NilExt s.regs rF) {c : Cell} {v : Value} (hc : CRep G s.reg w c v) : CRep G.nils (get rF) w c v := by
  refine CRep.move (G := G) (G' := G.nils) (fun _ hk => hk) (fun _ _ => rfl) (fun _ hb => ⟨hb, rfl⟩) (fun r hr => ?_) hc
  have hs := hc.has hr
  have hlt : r < 300000000 := by
    rcases Nat.lt_or_ge r 300000000 with h | h
    · exact h
    · rw [hlow r h] at hs; cases hs
  refine ⟨fun g hg => ⟨g, ?_, rfl, rfl⟩, ?_, fun _ _ _ _ => rfl⟩
  · rw [hx.low r hlt]; exact hg
  · show (if 300000000 ≤ r then _ else _) = _; rw [if_neg (by omega)]
theorem nil_own {rF : List (Nat × Reg)} {R : Nat → Option Reg} {e : TypeId} {u : Ty} {v : Value} (hc : CRep G R w (.nil e u) v) {q : Nat} (hq : 300000000 ≤ q) (hs : (get rF q).isSome = true) : CRep G.nils (get rF) w (.own q) v := by
  obtain ⟨g, hg⟩ := Option.isSome_iff_exists.1 hs
  refine ⟨g, hg, ?_⟩
  show v = if 300000000 ≤ q then _ else _
  rw [if_pos hq]; exact hc
theorem nilTmps_ok {r0 : List (Nat × Reg)} : ∀ (l : List (Nat × AVal)) (r : List (Nat × Reg)), NilExt r0 r →
    NilExt r0 (nilTmps l r).2 ∧ (∀ q, (get r q).isSome = true → (get (nilTmps l r).2 q).isSome = true) ∧
      ∀ t v', get (nilTmps l r).1 t = some v' → ∃ v, get l t = some v ∧ (v' = v ∨ ∃ e u q, v = .c (.nil e u) ∧ v' = .c (.own q) ∧ 300000000 ≤ q ∧ (get (nilTmps l r).2 q).isSome = true)
  | [], r, h => ⟨h, fun _ hq => hq, fun t v' hv => by cases hv⟩
  | (t, v) :: l, r, h => by
    by_cases hv : ∃ e u, v = .cp (.one (.nil e u))
    · obtain ⟨e, u, rfl⟩ := hv
      obtain ⟨h1, h2, h3⟩ := nilTmps_ok l (ins (300000000 + t) ⟨e, u, [], 0⟩ r) (h.ins (by omega) e u)
      simp only [nilTmps]
      refine ⟨h1, fun q hq => h2 q (ins_some hq), fun t' v' hv' => ?_⟩
      simp only [get] at hv' ⊢
      cases hk : (t == t') with
      | true =>
        rw [hk] at hv'
        obtain rfl := Option.some.inj hv'
        exact ⟨_, rfl, .inr ⟨e, u, 300000000 + t, rfl, rfl, by omega, h2 _ (by rw [get_ins, if_pos rfl]; rfl)⟩⟩
      | false =>
        rw [hk] at hv'
        obtain ⟨v, h4, h5⟩ := h3 t' v' hv'
        exact ⟨v, h4, h5⟩
    · have e : nilTmps ((t, v) :: l) r = ((t, v) :: (nilTmps l r).1, (nilTmps l r).2) := by
        cases v with
        | cp c =>
          cases c with
          | one c => cases c <;> first | rfl | exact absurd ⟨_, _, rfl⟩ hv
          | agg _ => rfl
        | _ => rfl
      obtain ⟨h1, h2, h3⟩ := nilTmps_ok l r h
      rw [e]
      refine ⟨h1, h2, fun t' v' hv' => ?_⟩
      simp only [get] at hv' ⊢
      cases hk : (t == t') with
      | true => rw [hk] at hv'; exact ⟨v, rfl, .inl (Option.some.inj hv').symm⟩
      | false =>
        rw [hk] at hv'
        obtain ⟨v, h4, h5⟩ := h3 t' v' hv'
        exact ⟨v, h4, h5⟩
theorem nilCells_more {r0 : List (Nat × Reg)} (b : Nat) : ∀ (cs : List Cell) (o : Nat) (r : List (Nat × Reg)), NilExt r0 r → NilExt r0 (nilCells b o cs r).2 ∧ ∀ q, (get r q).isSome = true → (get (nilCells b o cs r).2 q).isSome = true
  | [], o, r, h => ⟨h, fun _ hq => hq⟩
  | c :: cs, o, r, h => by
    cases c with
    | nil e u =>
      obtain ⟨h1, h2⟩ := nilCells_more b cs (o + 1) (ins (400000000 + b * 1000 + o) ⟨e, u, [], 0⟩ r) (h.ins (by omega) e u)
      exact ⟨h1, fun q hq => h2 q (ins_some hq)⟩
    | _ => exact nilCells_more b cs (o + 1) r h
theorem nilCells_ok {rF : List (Nat × Reg)} (hlow : ∀ q, 300000000 ≤ q → s.reg q = none) (hx : NilExt s.regs rF) (b : Nat) : ∀ (cs : List Cell) (o : Nat) (r : List (Nat × Reg)) (vs : List Value), NilExt s.regs r → (∀ q, (get (nilCells b o cs r).2 q).isSome = true → (get rF q).isSome = true) → Cells G s.reg w cs vs → Cells G.nils (get rF) w (nilCells b o cs r).1 vs
  | [], o, r, vs, h, hF, hc => hc
  | c :: cs, o, r, vs, h, hF, hc => by
    obtain ⟨v, l, rfl, h1, h2⟩ := hc
    have other : (nilCells b o (c :: cs) r) = (c :: (nilCells b (o + 1) cs r).1, (nilCells b (o + 1) cs r).2) → Cells G.nils (get rF) w (nilCells b o (c :: cs) r).1 (v :: l) := by
      intro e
      rw [e] at hF ⊢
      exact ⟨v, l, rfl, nil_move hlow hx h1, nilCells_ok hlow hx b cs (o + 1) r l h hF h2⟩
    cases c with
    | nil e u =>
      have hn := h.ins (q := 400000000 + b * 1000 + o) (by omega) e u
      have ih := nilCells_ok hlow hx b cs (o + 1) (ins (400000000 + b * 1000 + o) ⟨e, u, [], 0⟩ r) l hn hF h2
      refine ⟨v, l, rfl, nil_own h1 (by omega) (hF _ ?_), ih⟩
      exact (nilCells_more b cs (o + 1) _ hn).2 _ (by rw [get_ins, if_pos rfl]; rfl)
    | _ => exact other rfl
theorem nilBoxes_ok {r0 : List (Nat × Reg)} : ∀ (l : List (Nat × Box)) (r : List (Nat × Reg)), NilExt r0 r →
    NilExt r0 (nilBoxes l r).2 ∧ (∀ q, (get r q).isSome = true → (get (nilBoxes l r).2 q).isSome = true) ∧ (∀ b, (get (nilBoxes l r).1 b).isSome = (get l b).isSome) ∧
      ∀ b x', get (nilBoxes l r).1 b = some x' → ∃ x r', get l b = some x ∧ x' = { x with cells := (nilCells b 0 x.cells r').1 } ∧ NilExt r0 r' ∧ ∀ q, (get (nilCells b 0 x.cells r').2 q).isSome = true → (get (nilBoxes l r).2 q).isSome = true
  | [], r, h => ⟨h, fun _ hq => hq, fun _ => rfl, fun b x' hv => by cases hv⟩
  | (k, y) :: l, r, h => by
    obtain ⟨c1, c2⟩ := nilCells_more k y.cells 0 r h
    obtain ⟨h1, h2, h3, h4⟩ := nilBoxes_ok l (nilCells k 0 y.cells r).2 c1
    simp only [nilBoxes]
    refine ⟨h1, fun q hq => h2 q (c2 q hq), fun b => ?_, fun b x' hb => ?_⟩
    · simp only [get]
      cases (k == b) with
      | true => rfl
      | false => exact h3 b
    · simp only [get] at hb ⊢
      cases hk : (k == b) with
      | true =>
        rw [hk] at hb
        obtain rfl := Option.some.inj hb
        obtain rfl : k = b := by simpa using hk
        exact ⟨y, r, rfl, rfl, h, h2⟩
      | false => rw [hk] at hb; exact h4 b x' hb
theorem Inv.nils (h : Inv C G s a w) (hlow : ∀ q, 300000000 ≤ q → s.reg q = none) : Inv C G.nils s.nils a w := by
  obtain ⟨t1, t2, t3⟩ := nilTmps_ok (r0 := s.regs) s.tmps s.regs ⟨fun _ _ => rfl, fun q g hq hg => by rw [show get s.regs q = none from hlow q hq] at hg; cases hg⟩
  obtain ⟨b1, b2, b3, b4⟩ := nilBoxes_ok (r0 := s.regs) s.boxes (nilTmps s.tmps s.regs).2 t1
  have rg : ∀ {q g}, s.nils.reg q = some g → (s.reg q = some g ∧ G.nils.fp q = G.fp q ∧ G.nils.root q = G.root q) ∨ (g.xs = [] ∧ g.orig = 0 ∧ G.nils.fp q = [] ∧ G.nils.root q = .slice none 0 0) := by
    intro q g hg
    replace hg : get (nilBoxes s.boxes (nilTmps s.tmps s.regs).2).2 q = some g := hg
    rcases Nat.lt_or_ge q 300000000 with hq | hq
    · rw [b1.low q hq] at hg
      exact .inl ⟨hg, if_neg (by omega), if_neg (by omega)⟩
    · obtain ⟨p1, p2⟩ := b1.high q g hq hg
      exact .inr ⟨p1, p2, if_pos hq, if_pos hq⟩
  have bx : ∀ {b x}, get s.nils.boxes b = some x → ∃ y, get s.boxes b = some y := fun {b x} hb => Option.isSome_iff_exists.1 (by rw [← b3 b]; exact Option.isSome_iff_exists.2 ⟨x, hb⟩)
  refine { box := ?_, reg := ?_, pb := fun b hb => (b3 b).trans (h.pb b hb), bb := ?_, rr := ?_, rb := ?_, ib := ?_, ir := ?_, ob := ?_, or := ?_, ilt := h.ilt, frame := h.frame, home := fun b k hb => ⟨(b3 b).trans (h.home b k hb).1, (h.home b k hb).2⟩, orig := ?_, i0 := h.i0, i1 := h.i1, defers := h.defers, size := h.size, tmp := ?_ }
  · intro b x hb
    obtain ⟨y, r', hy, rfl, hn, hF⟩ := b4 b x hb
    obtain ⟨arr, h1, h2⟩ := h.box b y hy
    exact ⟨arr, h1, nilCells_ok hlow b1 b y.cells 0 r' _ hn hF h2⟩
  · intro q g hg
    rcases rg hg with ⟨p1, p2, p3⟩ | ⟨p1, p2, p3, p4⟩
    · rw [p2, p3]; exact h.reg q g p1
    · rw [p3, p4]
      obtain ⟨e, t, xs, og⟩ := g
      obtain rfl : xs = [] := p1
      exact ⟨⟨_, [], [], rfl, World.ownsRow_nil w 0 e t.size, rfl, rfl, rfl⟩, List.nodup_nil⟩
  · intro b b' x x' hb hb'; obtain ⟨y, hy⟩ := bx hb; obtain ⟨y', hy'⟩ := bx hb'; exact h.bb b b' y y' hy hy'
  · intro q q' g g' hq hq' hne k hk
    rcases rg hq with ⟨p1, p2, p3⟩ | ⟨p1, p2, p3, p4⟩
    · rw [p2] at hk
      rcases rg hq' with ⟨o1, o2, o3⟩ | ⟨o1, o2, o3, o4⟩
      · rw [o2]; exact h.rr q q' g g' p1 o1 hne k hk
      · rw [o3]; exact List.not_mem_nil
    · rw [p3] at hk; cases hk
  · intro q g b x hq hb
    obtain ⟨y, hy⟩ := bx hb
    rcases rg hq with ⟨p1, p2, p3⟩ | ⟨p1, p2, p3, p4⟩
    · rw [p2]; exact h.rb q g b y p1 hy
    · rw [p3]; exact List.not_mem_nil
  · intro b x hb; obtain ⟨y, hy⟩ := bx hb; exact h.ib b y hy
  · intro q g k hq hk
    rcases rg hq with ⟨p1, p2, p3⟩ | ⟨p1, p2, p3, p4⟩
    · rw [p2] at hk; exact h.ir q g k p1 hk
    · rw [p3] at hk; cases hk
  · intro b x hb; obtain ⟨y, hy⟩ := bx hb; exact h.ob b y hy
  · intro q g k hq hk
    rcases rg hq with ⟨p1, p2, p3⟩ | ⟨p1, p2, p3, p4⟩
    · rw [p2] at hk; exact h.or q g k p1 hk
    · rw [p3] at hk; cases hk
  · intro q g j hq hj
    rcases rg hq with ⟨p1, p2, p3⟩ | ⟨p1, p2, p3, p4⟩
    · rw [p3]; exact h.orig q g j p1 hj
    · omega
  · intro t v hv
    replace hv : get (nilTmps s.tmps s.regs).1 t = some v := hv
    obtain ⟨u, hu, hc⟩ := t3 t v hv
    have hr := h.tmp t u hu
    rcases hc with rfl | ⟨e, y, q, rfl, rfl, hq, hs⟩
    · exact hr.move fun c v hc => nil_move hlow b1 hc
    · exact nil_own (w := w) (e := e) (u := y) (R := s.reg) hr hq (b2 q hs)

/-! ### other names -/
theorem noDup2_inj : ∀ {m : List (Nat × Nat)}, noDup2 m = true → ∀ {r r' q : Nat}, (r, q) ∈ m → (r', q) ∈ m → r = r'
  | [], _, _, _, _, h, _ => by cases h
  | (k, p) :: l, hd, r, r', q, h, h' => by
    simp only [noDup2, Bool.and_eq_true, Bool.not_eq_true', List.any_eq_false] at hd
    have no : ∀ {x}, (x, p) ∈ l → False := fun hx => hd.1 _ hx (by simp)
    rcases List.mem_cons.1 h with e | h1
    · obtain ⟨e1, e2⟩ := Prod.mk.inj e
      rcases List.mem_cons.1 h' with e' | h2
      · rw [e1, (Prod.mk.inj e').1]
      · rw [e2] at h2; exact (no h2).elim
    · rcases List.mem_cons.1 h' with e' | h2
      · rw [(Prod.mk.inj e').2] at h1; exact (no h1).elim
      · exact noDup2_inj hd.2 h1 h2
theorem names_inj {m : List (Nat × Nat)} (hd : noDup2 m = true) {r r' q : Nat} (h : get m r = some q) (h' : get m r' = some q) : r = r' := noDup2_inj hd (get_mem h) (get_mem h')
theorem renameRegs_of {m : List (Nat × Nat)} (hd : noDup2 m = true) : ∀ {l : List (Nat × Reg)} {q : Nat} {g : Reg}, get (renameRegs m l) q = some g → ∃ r, get m r = some q ∧ get l r = some g
  | [], q, g, h => by cases h
  | (k, x) :: l, q, g, h => by
    simp only [renameRegs] at h
    cases hk : get m k with
    | none =>
      rw [hk] at h
      obtain ⟨r, h1, h2⟩ := renameRegs_of hd h
      refine ⟨r, h1, ?_⟩
      have : (k == r) = false := by simp; rintro rfl; rw [hk] at h1; cases h1
      simp only [get, this, cond_false]; exact h2
    | some p =>
      rw [hk] at h
      replace h : get (ins p x (renameRegs m l)) q = some g := h
      rw [get_ins] at h
      by_cases e : q = p
      · rw [if_pos e] at h
        exact ⟨k, by rw [e]; exact hk, by simp only [get, beq_self_eq_true, cond_true]; exact h⟩
      · rw [if_neg e] at h
        obtain ⟨r, h1, h2⟩ := renameRegs_of hd h
        refine ⟨r, h1, ?_⟩
        have : (k == r) = false := by simp; rintro rfl; rw [hk] at h1; exact e (Option.some.inj h1).symm
        simp only [get, this, cond_false]; exact h2
theorem renameRegs_to {m : List (Nat × Nat)} (hd : noDup2 m = true) : ∀ {l : List (Nat × Reg)} {r q : Nat} {g : Reg}, get m r = some q → get l r = some g → get (renameRegs m l) q = some g
  | [], _, _, _, _, h => by cases h
  | (k, x) :: l, r, q, g, hm, h => by
    simp only [get] at h
    simp only [renameRegs]
    by_cases e : k = r
    · subst e
      simp only [beq_self_eq_true, cond_true] at h
      rw [hm]
      show get (ins q x _) q = _
      rw [get_ins, if_pos rfl]; exact h
    · have h1 : (k == r) = false := by simp [e]
      rw [h1] at h
      have ih := renameRegs_to hd hm h
      cases hk : get m k with
      | none => exact ih
      | some p =>
        show get (ins p x _) q = _
        rw [get_ins, if_neg]
        · exact ih
        · rintro rfl; exact e (names_inj hd hk hm)
open Classical in
noncomputable def oldName (m : List (Nat × Nat)) (q : Nat) : Nat := if h : ∃ r, get m r = some q then h.choose else 0
theorem oldName_eq {m : List (Nat × Nat)} (hd : noDup2 m = true) {r q : Nat} (h : get m r = some q) : oldName m q = r := by
  unfold oldName
  have he : ∃ r, get m r = some q := ⟨r, h⟩
  rw [dif_pos he]
  exact names_inj hd he.choose_spec h
noncomputable def Gh.rename (G : Gh) (m : List (Nat × Nat)) : Gh := { G with fp := fun q => G.fp (oldName m q), root := fun q => G.root (oldName m q) }
theorem Core.rename_cell (h : Core C G s w) {m : List (Nat × Nat)} (hd : noDup2 m = true) {c : Cell} {v : Value} (hc : CRep G s.reg w c v) : CRep (G.rename m) (s.rename m).reg w (c.rename m) v := by
  have h1 := h.oneInn hc
  have rt : ∀ {r q}, get m r = some q → (G.rename m).root q = G.root r := fun hq => by show G.root (oldName m _) = _; rw [oldName_eq hd hq]
  have rr : ∀ {r q g}, get m r = some q → s.reg r = some g → (s.rename m).reg q = some g := fun hq hg => renameRegs_to hd hq hg
  cases c with
  | own r =>
    simp only [Cell.rename]
    cases hm : get m r with
    | none => exact h1
    | some q => obtain ⟨g, hg, hv⟩ := hc; exact ⟨g, rr hm hg, by rw [rt hm]; exact hv⟩
  | sub r z lo n =>
    simp only [Cell.rename]
    cases hm : get m r with
    | none => exact h1
    | some q => obtain ⟨g, A, len, c, hg, hr, hx⟩ := hc; exact ⟨g, A, len, c, rr hm hg, (rt hm).trans hr, hx⟩
  | inn r i off e t =>
    simp only [Cell.rename]
    cases hm : get m r with
    | none => exact h1
    | some q => obtain ⟨g, gb, n, c, hg, hr, hx⟩ := hc; exact ⟨g, gb, n, c, rr hm hg, (rt hm).trans hr, hx⟩
  | eptr r i off =>
    simp only [Cell.rename]
    cases hm : get m r with
    | none => exact h1
    | some q => obtain ⟨g, gb, n, c, hg, hr, hx⟩ := hc; exact ⟨g, gb, n, c, rr hm hg, (rt hm).trans hr, hx⟩
  | _ => exact hc
theorem Inv.rename (h : Inv C G s a w) {m : List (Nat × Nat)} (hd : noDup2 m = true) : Inv C (G.rename m) (s.rename m) a w := by
  have mv : ∀ c v, CRep G s.reg w c v → CRep (G.rename m) (s.rename m).reg w (c.rename m) v := fun c v hc => h.toCore.rename_cell hd hc
  have bx : ∀ {b x}, get (s.rename m).boxes b = some x → ∃ y, get s.boxes b = some y ∧ x = { y with cells := y.cells.map (Cell.rename m) } := fun hb => map_box hb
  have bs : ∀ b, (get (s.rename m).boxes b).isSome = (get s.boxes b).isSome := fun b => map_boxSome (Cell.rename m) s b
  have rg : ∀ {q g}, (s.rename m).reg q = some g → ∃ r, get m r = some q ∧ s.reg r = some g ∧ (G.rename m).fp q = G.fp r ∧ (G.rename m).root q = G.root r := by
    intro q g hq
    obtain ⟨r, h1, h2⟩ := renameRegs_of hd hq
    exact ⟨r, h1, h2, by show G.fp (oldName m q) = _; rw [oldName_eq hd h1], by show G.root (oldName m q) = _; rw [oldName_eq hd h1]⟩
  refine { box := ?_, reg := ?_, pb := fun b hb => (bs b).trans (h.pb b hb), bb := ?_, rr := ?_, rb := ?_, ib := ?_, ir := ?_, ob := ?_, or := ?_, ilt := h.ilt, frame := h.frame, home := fun b k hb => ⟨(bs b).trans (h.home b k hb).1, (h.home b k hb).2⟩, orig := ?_, i0 := h.i0, i1 := h.i1, defers := h.defers, size := h.size, tmp := ?_ }
  · intro b x hb
    obtain ⟨y, hy, rfl⟩ := bx hb
    obtain ⟨arr, h1, h2⟩ := h.box b y hy
    exact ⟨arr, h1, h2.map _ mv⟩
  · intro q g hq
    obtain ⟨r, h1, h2, h3, h4⟩ := rg hq
    rw [h3, h4]; exact h.reg r g h2
  · intro b b' x x' hb hb'; obtain ⟨y, hy, _⟩ := bx hb; obtain ⟨y', hy', _⟩ := bx hb'; exact h.bb b b' y y' hy hy'
  · intro q q' g g' hq hq' hne k hk
    obtain ⟨r, h1, h2, h3, h4⟩ := rg hq
    obtain ⟨r', o1, o2, o3, o4⟩ := rg hq'
    rw [h3] at hk; rw [o3]
    exact h.rr r r' g g' h2 o2 (fun e => hne (by rw [e, o1] at h1; exact (Option.some.inj h1).symm)) k hk
  · intro q g b x hq hb
    obtain ⟨y, hy, _⟩ := bx hb
    obtain ⟨r, h1, h2, h3, h4⟩ := rg hq
    rw [h3]; exact h.rb r g b y h2 hy
  · intro b x hb; obtain ⟨y, hy, _⟩ := bx hb; exact h.ib b y hy
  · intro q g k hq hk
    obtain ⟨r, h1, h2, h3, h4⟩ := rg hq
    rw [h3] at hk; exact h.ir r g k h2 hk
  · intro b x hb; obtain ⟨y, hy, _⟩ := bx hb; exact h.ob b y hy
  · intro q g k hq hk
    obtain ⟨r, h1, h2, h3, h4⟩ := rg hq
    rw [h3] at hk; exact h.or r g k h2 hk
  · intro q g j hq hj
    obtain ⟨r, h1, h2, h3, h4⟩ := rg hq
    rw [h4]; exact h.orig r g j h2 hj
  · intro t v hv
    replace hv : get (mapv (AVal.map (Cell.rename m)) s.tmps) t = some v := hv
    rw [get_mapv] at hv
    obtain ⟨u, hu, rfl⟩ := Option.map_eq_some_iff.1 hv
    exact (h.tmp t u hu).map _ mv
/-- A loop begins anew. -/
theorem anew_ok (h : Inv C G s a w) {hs : List Nat} {m : Nat} {s' : St} (ha : anew hs m s = some s') (hh : ∀ b k, C.home b = some k → b ∈ hs) : ∃ G', Inv C G' s' a w := by
  let ks := reach s.boxes 1000 (hs ++ (keep m s.tmps).flatMap fun x => ptrs x.2.cells) []
  let s2 := (s.cut m ks).nils
  let names := nameBoxes s2.boxes (nameTmps s2.tmps [])
  have ha' : (bif noDup2 names && (hs.all fun b => ks.contains b) && (s.regs.all fun p => Nat.blt p.1 300000000) then some (s2.rename names) else none) = some s' := ha
  cases hc : (noDup2 names && (hs.all fun b => ks.contains b) && (s.regs.all fun p => Nat.blt p.1 300000000)) with
  | false => rw [hc] at ha'; cases ha'
  | true =>
    rw [hc] at ha'
    obtain rfl := Option.some.inj ha'
    simp only [Bool.and_eq_true] at hc
    obtain ⟨⟨h1, h2⟩, h3⟩ := hc
    have hlow : ∀ q, 300000000 ≤ q → s.reg q = none := by
      intro q hq
      cases hg : s.reg q with
      | none => rfl
      | some g =>
        have h4 : Nat.blt q 300000000 = true := List.all_eq_true.1 h3 _ (get_mem hg)
        have h5 : q + 1 ≤ 300000000 := Nat.le_of_ble_eq_true h4
        omega
    exact ⟨_, ((h.cut m (fun b k hb => by simpa using List.all_eq_true.1 h2 b (hh b k hb))).nils hlow).rename h1⟩
end

end Go.Proofs.Ytigkodlbjimikaa.Vc
