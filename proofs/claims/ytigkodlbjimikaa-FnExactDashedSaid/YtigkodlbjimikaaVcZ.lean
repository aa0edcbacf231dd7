/- Calls: the state when the call begins. -/
import Derived.Test.YtigkodlbjimikaaVcYc
namespace Go.Proofs.Ytigkodlbjimikaa.Vc
open Go Go.RowKit
set_option linter.unusedVariables false
set_option linter.unusedSimpArgs false

/-! ### sweeps, one behind the other -/
theorem Comp.map_map (f g : Cell → Cell) (c : Comp) : (c.map f).map g = c.map (fun c => g (f c)) := by
  cases c <;> simp [Comp.map, Function.comp_def]
theorem AVal.map_map (f g : Cell → Cell) (v : AVal) : (v.map f).map g = v.map (fun c => g (f c)) := by
  cases v with
  | cp c => simp only [AVal.map, Comp.map_map]
  | tup l => simp only [AVal.map, List.map_map]; congr 1; exact List.map_congr_left fun c _ => Comp.map_map f g c
  | bad => rfl
  | und => rfl
theorem mapv_mapv {α β γ : Type} (f : α → β) (g : β → γ) : ∀ l : List (Nat × α), mapv g (mapv f l) = mapv (fun x => g (f x)) l
  | [] => rfl
  | (k, v) :: l => by simp only [mapv]; rw [mapv_mapv f g l]
theorem mapv_congr {α β : Type} {f g : α → β} (h : ∀ x, f x = g x) : ∀ l : List (Nat × α), mapv f l = mapv g l
  | [] => rfl
  | (k, v) :: l => by simp only [mapv]; rw [h, mapv_congr h l]
theorem St.map_map (f g : Cell → Cell) (s : St) : (s.map f).map g = s.map (fun c => g (f c)) := by
  simp only [St.map, mapv_mapv]
  congr 1
  · exact mapv_congr (fun v => AVal.map_map f g v) _
  · exact mapv_congr (fun b => by simp [Function.comp_def]) _
theorem St.map_congr {f g : Cell → Cell} (h : ∀ c, f c = g c) (s : St) : s.map f = s.map g := by
  obtain rfl : f = g := funext h
  rfl
theorem hide_cons (r : Nat) (l : List Nat) (c : Cell) : hide l (noInn r c) = hide (r :: l) c := by
  cases c with
  | inn q i o e t =>
    simp only [noInn, hide, List.contains_cons]
    cases h : (q == r)
    · simp
    · simp [hide]
  | _ => rfl
theorem hide_nil (c : Cell) : hide [] c = c := by
  cases c <;> rfl
theorem hide_hide (l : List Nat) (c : Cell) : hide l (hide l c) = hide l c := by
  cases c with
  | inn q i o e t =>
    simp only [hide]
    cases h : l.contains q
    · simp only [cond_false, h]
    · rfl
  | _ => rfl
theorem mapv_id_box : ∀ l : List (Nat × Box), mapv (fun b => { b with cells := b.cells.map (hide []) }) l = l
  | [] => rfl
  | (k, b) :: l => by
    simp only [mapv]
    rw [mapv_id_box l, List.map_congr_left (g := id) fun c _ => hide_nil c, List.map_id]
theorem noInn_fold : ∀ (l : List Nat) (s : St), l.foldl (fun s r => s.map (noInn r)) s = s.map (hide l)
  | [], s => by
    show s = _
    have e : (hide []) = id := funext hide_nil
    have h1 : mapv (AVal.map (hide [])) s.tmps = s.tmps := by rw [e]; exact mapv_id
    show s = { s with tmps := _, boxes := _ }
    rw [h1, mapv_id_box]
  | r :: l, s => by
    show l.foldl (fun s r => s.map (noInn r)) (s.map (noInn r)) = _
    rw [noInn_fold l, St.map_map]
    exact St.map_congr (fun c => hide_cons r l c) s
theorem stillAll_reg : ∀ (l : List Nat) (s : St) (q : Nat), q ∉ l → (stillAll l s).reg q = s.reg q
  | [], s, q, _ => rfl
  | r :: l, s, q, h => by
    show (stillAll l (stillOne s r)).reg q = _
    rw [stillAll_reg l _ q (fun hm => h (List.mem_cons_of_mem _ hm))]
    unfold stillOne
    cases (s.reg r).isSome
    · rfl
    · simp only [cond_true]; rw [still_reg, if_neg (fun e => h (by simp [e]))]
theorem stillAll_box : ∀ (l : List Nat) (s : St) (b : Nat), (get (stillAll l s).boxes b).isSome = (get s.boxes b).isSome
  | [], s, b => rfl
  | r :: l, s, b => by
    show (get (stillAll l (stillOne s r)).boxes b).isSome = _
    rw [stillAll_box l]
    unfold stillOne
    cases (s.reg r).isSome
    · rfl
    · simp only [cond_true]
      exact map_boxSome (Cell.still s r) s b
theorem dropAll_boxSome : ∀ (l : List Nat) (s : St) (b : Nat), (get (dropAll l s).boxes b).isSome = (get s.boxes b).isSome
  | [], s, b => rfl
  | r :: l, s, b => by
    show (get (dropAll l (s.drop r)).boxes b).isSome = _
    rw [dropAll_boxSome l]
    exact map_boxSome (Cell.drop s r) s b
section
variable {C : Ctx} {G : Gh} {s : St} {a : Act} {w : World}
theorem Inv.hideAll (h : Inv C G s a w) (l : List Nat) : Inv C G (s.map (Vc.hide l)) a w := by
  have nin : ∀ c v, CRep G s.reg w c v → CRep G s.reg w (Vc.hide l c) v := by
    intro c v hc
    cases c with
    | inn q i o e t =>
      simp only [Vc.hide]
      cases l.contains q
      · exact hc
      · exact h.toCore.oneInn hc
    | _ => exact hc
  have bx : ∀ {b x}, get (s.map (Vc.hide l)).boxes b = some x → ∃ y, get s.boxes b = some y ∧ x = { y with cells := y.cells.map (Vc.hide l) } := fun hb => map_box hb
  refine h.step ⟨?_, h.reg, ?_, ?_, h.rr, ?_, ?_, h.ir, ?_, h.or, h.ilt, h.frame, (fun b k hb => by rw [map_boxSome]; exact h.home b k hb), h.orig, h.i0, h.i1⟩ (Vc.hide l) rfl nin
  · intro b x hb
    obtain ⟨y, hy, rfl⟩ := bx hb
    obtain ⟨arr, h1, h2⟩ := h.box b y hy
    exact ⟨arr, h1, h2.map _ nin⟩
  · intro b hb; rw [map_boxSome]; exact h.pb b hb
  · intro b b' x x' hb hb'; obtain ⟨y, hy, _⟩ := bx hb; obtain ⟨y', hy', _⟩ := bx hb'; exact h.bb b b' y y' hy hy'
  · intro q g b x hq hb; obtain ⟨y, hy, _⟩ := bx hb; exact h.rb q g b y hq hy
  · intro b x hb; obtain ⟨y, hy, _⟩ := bx hb; exact h.ib b y hy
  · intro b x hb; obtain ⟨y, hy, _⟩ := bx hb; exact h.ob b y hy
/-- The state when the call begins. -/
structure Ready (C : Ctx) (G : Gh) (IA : Nat → Prop) (s s3 : St) (a : Act) (w : World) (g : Sig) (own lent back : List Nat) : Prop where
  inv : Inv C { G with I := IA } s3 a w
  more : ∀ k, G.I k → IA k
  seen : g.hasView = true → ∀ q ∈ lent, ∀ gq, s.reg q = some gq → ∀ k ∈ G.fp q, IA k
  gone : ∀ q ∈ own, ∀ gq, s.reg q = some gq → ∀ k ∈ G.fp q, ¬ IA k
  reg : ∀ q gq, s3.reg q = some gq → s.reg q = some gq ∧ (q ∈ own → q ∈ back)
  kept : ∀ q ∈ back, s3.reg q = s.reg q
  box : ∀ b, (get s3.boxes b).isSome = (get s.boxes b).isSome
  cleanT : ∀ t v, get s3.tmps t = some v → v.map (hide back) = v
  cleanB : ∀ b x, get s3.boxes b = some x → x.cells.map (hide back) = x.cells
theorem ready_ok (h : Inv C G s a w) {g : Sig} {own lent back : List Nat} (hb : ∀ r ∈ back, r ∈ own) (hno : ∀ r ∈ own, r ∉ lent) : ∃ IA, Ready C G IA s (ready g s own lent back) a w g own lent back := by
  have first : ∃ IA s1, s1 = (bif g.hasView then stillAll lent s else s) ∧ Inv C { G with I := IA } s1 a w ∧ (∀ k, G.I k → IA k) ∧ (g.hasView = true → ∀ q ∈ lent, ∀ gq, s.reg q = some gq → ∀ k ∈ G.fp q, IA k) ∧ (∀ q gq, s1.reg q = some gq → s.reg q = some gq) ∧ (∀ q, q ∉ lent → s1.reg q = s.reg q) ∧ (∀ b, (get s1.boxes b).isSome = (get s.boxes b).isSome) := by
    cases hv : g.hasView with
    | false => exact ⟨G.I, s, rfl, h, fun _ hk => hk, fun e => (by cases e), fun _ _ hq => hq, fun _ _ => rfl, fun _ => rfl⟩
    | true =>
      obtain ⟨I', h1, h2, h3, h4⟩ := Inv.stillAll lent h
      exact ⟨I', _, rfl, h1, h2, fun _ => h3, h4, stillAll_reg lent s, stillAll_box lent s⟩
  obtain ⟨IA, s1, e1, h1, hm, hs, hr, hr2, hbx⟩ := first
  have e3 : ready g s own lent back = (dropAll (own.filter fun x => !(back.contains x)) s1).map (hide back) := by
    unfold ready
    rw [← e1]
    exact noInn_fold back _
  have h3 := (h1.dropAll (own.filter fun x => !(back.contains x))).hideAll back
  rw [← e3] at h3
  refine ⟨IA, h3, hm, hs, ?_, ?_, ?_, ?_, ?_, ?_⟩
  · intro q hq gq hg k hk
    exact h1.ir q gq k (by rw [hr2 q (hno q hq)]; exact hg) hk
  · intro q gq hg
    rw [e3] at hg
    replace hg : (dropAll (own.filter fun x => !(back.contains x)) s1).reg q = some gq := hg
    rw [dropAll_reg] at hg
    by_cases hm : q ∈ own.filter fun x => !(back.contains x)
    · rw [if_pos hm] at hg; cases hg
    · rw [if_neg hm] at hg
      refine ⟨hr q gq hg, fun hq => ?_⟩
      by_cases hb' : q ∈ back
      · exact hb'
      · exact absurd (List.mem_filter.2 ⟨hq, by simpa using hb'⟩) hm
  · intro q hq
    rw [e3]
    show (dropAll (own.filter fun x => !(back.contains x)) s1).reg q = s.reg q
    rw [dropAll_reg, if_neg (fun hm => by have := (List.mem_filter.1 hm).2; simp [hq] at this), hr2 q (hno q (hb q hq))]
  · intro b
    rw [e3, map_boxSome, dropAll_boxSome, hbx]
  · intro t v hv
    rw [e3] at hv
    replace hv : get (mapv (AVal.map (hide back)) (dropAll (own.filter fun x => !(back.contains x)) s1).tmps) t = some v := hv
    rw [get_mapv] at hv
    obtain ⟨u, _, rfl⟩ := Option.map_eq_some_iff.1 hv
    rw [AVal.map_map]
    congr 1
    exact funext (hide_hide back)
  · intro b x hx
    rw [e3] at hx
    obtain ⟨y, _, rfl⟩ := map_box hx
    rw [List.map_map]
    exact List.map_congr_left fun c _ => hide_hide back c
end

end Go.Proofs.Ytigkodlbjimikaa.Vc
