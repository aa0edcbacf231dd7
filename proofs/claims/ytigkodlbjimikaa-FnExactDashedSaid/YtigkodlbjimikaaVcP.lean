/- Cells that give their memory away; slices that stay; worlds that move where nobody looks. -/
import Derived.Test.YtigkodlbjimikaaVcO
import Derived.Maps.AppendAt
namespace Go.Proofs.Ytigkodlbjimikaa.Vc
open Go Go.RowKit
set_option linter.unusedVariables false
set_option linter.unusedSimpArgs false

section
variable {P : Program} {E : Env} {C : Ctx} {G : Gh} {s : St} {a : Act} {w : World}

/-! ### the world moves where nobody looks -/
structure Lone (G : Gh) (s : St) (k : Nat) : Prop where
  still : ¬ G.I k
  box : ∀ b x, get s.boxes b = some x → G.blk b ≠ k
  reg : ∀ r g, s.reg r = some g → k ∉ G.fp r
theorem Inv.moved (h : Inv C G s a w) {w' : World} {old : List Nat} (hm : Moved w w' old) (ho : ∀ k ∈ old, Lone G s k) (hf : Frame_ C w') : Inv C G s a w' := by
  have keepI : ∀ k, G.I k → w'.heap[k]? = w.heap[k]? := fun k hk => hm.keep k (h.ilt k hk) fun hk' => (ho k hk').still hk
  have keepR : ∀ r g, s.reg r = some g → ∀ k ∈ G.fp r, w'.heap[k]? = w.heap[k]? := fun r g hg k hk => hm.keep k (h.toCore.fpLt hg k hk) fun hk' => (ho k hk').reg r g hg hk
  have mv : ∀ c v, CRep G s.reg w c v → CRep G s.reg w' c v := by
    intro c v hc
    refine CRep.move (G := G) (G' := G) (fun _ hk => hk) keepI (fun _ hb => ⟨hb, rfl⟩) (fun q hq => ⟨fun g hg => ⟨g, hg, rfl, rfl⟩, rfl, fun gb n c0 hroot => ?_⟩) hc
    obtain ⟨g, hg⟩ := Option.isSome_iff_exists.1 (hc.has hq)
    exact keepR q g hg gb (h.toCore.rootIn hg hroot)
  refine h.step0 ⟨fun b x hb => ?_, fun r g hg => ⟨(h.reg r g hg).1.frame (keepR r g hg), (h.reg r g hg).2⟩, h.pb, h.bb, h.rr, h.rb, h.ib, h.ir, h.ob, h.or, fun k hk => ?_, hf, h.home, h.orig, h.i0, h.i1⟩ rfl mv
  · obtain ⟨arr, h1, h2⟩ := h.box b x hb
    exact ⟨arr, by rw [hm.keep _ (h.toCore.blkLt hb) fun hk => (ho _ hk).box b x hb rfl]; exact h1, h2.move mv⟩
  · have := h.ilt k hk; have := hm.size; omega
/-- Blocks that nobody looks at stay from here on. -/
def Gh.addI (G : Gh) (J : Nat → Prop) : Gh := { G with I := fun k => G.I k ∨ J k }
theorem Inv.addI (h : Inv C G s a w) {J : Nat → Prop} (hJ : ∀ k, J k → (∀ b x, get s.boxes b = some x → G.blk b ≠ k) ∧ (∀ r g, s.reg r = some g → k ∉ G.fp r) ∧ k < w.heap.size ∧ C.ok k) : Inv C (G.addI J) s a w := by
  have mv : ∀ c v, CRep G s.reg w c v → CRep (G.addI J) s.reg w c v := fun c v hc =>
    CRep.move (G := G) (G' := G.addI J) (fun _ hk => .inl hk) (fun _ _ => rfl) (fun _ hb => ⟨hb, rfl⟩) (fun q hq => ⟨fun g hg => ⟨g, hg, rfl, rfl⟩, rfl, fun _ _ _ _ => rfl⟩) hc
  refine h.step0 ⟨fun b x hb => ?_, h.reg, h.pb, h.bb, h.rr, h.rb, ?_, ?_, h.ob, h.or, ?_, h.frame, h.home, h.orig, (fun k hk => .inl (h.i0 k hk)), ?_⟩ rfl mv
  · obtain ⟨arr, h1, h2⟩ := h.box b x hb
    exact ⟨arr, h1, h2.move mv⟩
  · intro b x hb hI
    rcases hI with hI | hI
    · exact h.ib b x hb hI
    · exact (hJ _ hI).1 b x hb rfl
  · intro r g k hg hk hI
    rcases hI with hI | hI
    · exact h.ir r g k hg hk hI
    · exact (hJ k hI).2.1 r g hg hk
  · intro k hk
    rcases hk with hk | hk
    · exact h.ilt k hk
    · exact (hJ k hk).2.2.1
  · intro k hk
    rcases hk with hk | hk
    · exact h.i1 k hk
    · exact .inr (hJ k hk).2.2.2
/-- Regions that stay from here on. -/
theorem Inv.stillAll : ∀ (l : List Nat) {G : Gh} {s : St}, Inv C G s a w → ∃ I', Inv C { G with I := I' } (stillAll l s) a w ∧ (∀ k, G.I k → I' k) ∧ (∀ r ∈ l, ∀ g, s.reg r = some g → ∀ k ∈ G.fp r, I' k) ∧ (∀ r g, (Vc.stillAll l s).reg r = some g → s.reg r = some g)
  | [], G, s, h => ⟨G.I, h, fun _ hk => hk, fun _ hr => (by cases hr), fun _ _ hg => hg⟩
  | r :: l, G, s, h => by
    cases hr : (s.reg r).isSome with
    | false =>
      have e : Vc.stillAll (r :: l) s = Vc.stillAll l s := by show Vc.stillAll l (stillOne s r) = _; unfold stillOne; rw [hr]; rfl
      obtain ⟨I', h1, h2, h3, h4⟩ := Inv.stillAll l h
      rw [e]
      refine ⟨I', h1, h2, fun q hq g hg => ?_, h4⟩
      rcases List.mem_cons.1 hq with rfl | hq
      · rw [hg] at hr; cases hr
      · exact h3 q hq g hg
    | true =>
      have e : Vc.stillAll (r :: l) s = Vc.stillAll l (s.still r) := by show Vc.stillAll l (stillOne s r) = _; unfold stillOne; rw [hr]; rfl
      obtain ⟨I', h1, h2, h3, h4⟩ := Inv.stillAll l (h.still hr)
      rw [e]
      refine ⟨I', h1, fun k hk => h2 k (.inl hk), fun q hq g hg => ?_, fun q g hg => (still_reg_some (h4 q g hg)).2⟩
      by_cases hqr : q = r
      · subst hqr; exact fun k hk => h2 k (.inr hk)
      · rcases List.mem_cons.1 hq with rfl | hq
        · exact absurd rfl hqr
        · exact h3 q hq g (by rw [still_reg, if_neg hqr]; exact hg)
theorem dropAll_reg : ∀ (l : List Nat) (s : St) (q : Nat), (dropAll l s).reg q = if q ∈ l then none else s.reg q
  | [], s, q => by simp [dropAll]
  | r :: l, s, q => by
    show (dropAll l (s.drop r)).reg q = _
    rw [dropAll_reg l, drop_reg]
    by_cases h1 : q ∈ l
    · rw [if_pos h1, if_pos (List.mem_cons_of_mem _ h1)]
    · rw [if_neg h1]
      by_cases h2 : q = r
      · subst h2; rw [if_pos rfl, if_pos List.mem_cons_self]
      · rw [if_neg h2, if_neg (by simp [h1, h2])]
theorem dropAll_box : ∀ (l : List Nat) (s : St) (b : Nat) (x : Box), get (dropAll l s).boxes b = some x → ∃ y, get s.boxes b = some y
  | [], s, b, x, h => ⟨x, h⟩
  | r :: l, s, b, x, h => by
    obtain ⟨y, hy⟩ := dropAll_box l (s.drop r) b x h
    obtain ⟨z, hz, _⟩ := map_box hy
    exact ⟨z, hz⟩
theorem dropAll_boxNone (l : List Nat) (s : St) (b : Nat) : get s.boxes b = none → get (dropAll l s).boxes b = none := by
  intro h
  cases hg : get (dropAll l s).boxes b with
  | none => rfl
  | some x => obtain ⟨y, hy⟩ := dropAll_box l s b x hg; rw [h] at hy; cases hy

/-! ### cells with the memory they own -/
def DC (s : St) (w : World) (c : Cell) (v : Value) (f : List Nat) : Prop := match c with
  | .int k n => v = .int k n ∧ f = []
  | .bool b => v = .bool b ∧ f = []
  | .str b => v = .string b ∧ f = []
  | c => ∀ e t xs, s.slice c = some ⟨e, t, xs⟩ → DRep w (.sl e t) xs [v] f
def DCs (s : St) (w : World) : List Cell → List Value → List Nat → Prop
  | [], vs, fp => vs = [] ∧ fp = []
  | c :: cs, vs, fp => ∃ v l f fl, vs = v :: l ∧ fp = f ++ fl ∧ DC s w c v f ∧ DCs s w cs l fl
theorem DCs.append : ∀ {a b : List Cell} {x y : List Value} {f g : List Nat}, DCs s w a x f → DCs s w b y g → DCs s w (a ++ b) (x ++ y) (f ++ g)
  | [], _, _, _, _, _, h, k => by obtain ⟨rfl, rfl⟩ := h; exact k
  | _ :: _, _, _, _, _, _, h, k => by obtain ⟨v, l, f, fl, rfl, rfl, h1, h2⟩ := h; exact ⟨v, l ++ _, f, fl ++ _, rfl, by rw [List.append_assoc], h1, h2.append k⟩
theorem DCs.split : ∀ {a b : List Cell} {x : List Value} {f : List Nat}, DCs s w (a ++ b) x f → ∃ y z g k, x = y ++ z ∧ f = g ++ k ∧ DCs s w a y g ∧ DCs s w b z k
  | [], _, x, f, h => ⟨[], x, [], f, rfl, rfl, ⟨rfl, rfl⟩, h⟩
  | _ :: _, _, _, _, h => by
    obtain ⟨v, l, f, fl, rfl, rfl, h1, h2⟩ := h
    obtain ⟨y, z, g, k, rfl, rfl, k1, k2⟩ := h2.split
    exact ⟨v :: y, z, f ++ g, k, rfl, by rw [List.append_assoc], ⟨v, y, f, g, rfl, rfl, h1, k1⟩, k2⟩
theorem DCs.length : ∀ {cs : List Cell} {vs : List Value} {fp : List Nat}, DCs s w cs vs fp → vs.length = cs.length
  | [], _, _, h => by rw [h.1]; rfl
  | _ :: _, _, _, h => by obtain ⟨v, l, _, _, rfl, _, _, h⟩ := h; simp [h.length]
theorem DCs.read : ∀ {t : Ty} {cs : List Cell} {vs : List Value} {fp : List Nat} {x : t.den} {rest : List Cell}, s.read t cs = some (x, rest) → DCs s w cs vs fp →
    ∃ v1 v2 f1 f2, vs = v1 ++ v2 ∧ fp = f1 ++ f2 ∧ DRep w t x v1 f1 ∧ DCs s w rest v2 f2
  | .int k, cs, vs, fp, x, rest, hr, hc => by
    rcases cs with _ | ⟨c, l⟩
    · simp [St.read] at hr
    cases c <;> simp only [St.read] at hr <;> try cases hr
    rename_i k' n
    by_cases e : k = k'
    · subst e
      simp at hr
      obtain ⟨rfl, rfl⟩ := hr
      obtain ⟨v, vl, f, fl, rfl, rfl, ⟨h1, h1'⟩, h2⟩ := hc
      subst h1 h1'
      exact ⟨[_], vl, [], fl, rfl, rfl, ⟨rfl, rfl⟩, h2⟩
    · simp [e] at hr
  | .bool, cs, vs, fp, x, rest, hr, hc => by
    rcases cs with _ | ⟨c, l⟩
    · simp [St.read] at hr
    cases c <;> simp only [St.read] at hr <;> try cases hr
    obtain ⟨v, vl, f, fl, rfl, rfl, ⟨h1, h1'⟩, h2⟩ := hc
    subst h1 h1'
    exact ⟨[_], vl, [], fl, rfl, rfl, ⟨rfl, rfl⟩, h2⟩
  | .str, cs, vs, fp, x, rest, hr, hc => by
    rcases cs with _ | ⟨c, l⟩
    · simp [St.read] at hr
    cases c <;> simp only [St.read] at hr <;> try cases hr
    obtain ⟨v, vl, f, fl, rfl, rfl, ⟨h1, h1'⟩, h2⟩ := hc
    subst h1 h1'
    exact ⟨[_], vl, [], fl, rfl, rfl, ⟨rfl, rfl⟩, h2⟩
  | .sl e t, cs, vs, fp, x, rest, hr, hc => by
    rcases cs with _ | ⟨c, l⟩
    · simp [St.read] at hr
    simp only [St.read] at hr
    split at hr
    · rename_i e' t' xs hsl
      cases he : (e == e') with
      | false => rw [he] at hr; cases hr
      | true =>
        rw [he] at hr
        obtain rfl : e = e' := by simpa using he
        simp only [cond_true] at hr
        cases hcast : cast (.sl e t') (.sl e t) xs with
        | none => rw [hcast] at hr; cases hr
        | some y =>
          rw [hcast] at hr
          simp only [Option.map_some, Option.some.injEq, Prod.mk.injEq] at hr
          obtain ⟨rfl, rfl⟩ := hr
          obtain ⟨eq, rfl⟩ := cast_some hcast
          obtain rfl : t' = t := by injection eq
          obtain ⟨v, vl, f, fl, rfl, rfl, h1, h2⟩ := hc
          refine ⟨[v], vl, f, fl, rfl, rfl, ?_, h2⟩
          cases c with
          | int k n => simp [St.slice] at hsl
          | bool b => simp [St.slice] at hsl
          | str b => simp [St.slice] at hsl
          | _ => exact h1 _ _ _ hsl
    · cases hr
  | .unit, cs, vs, fp, x, rest, hr, hc => by
    simp [St.read] at hr
    subst hr
    exact ⟨[], vs, [], fp, rfl, rfl, ⟨rfl, rfl⟩, hc⟩
  | .opq, cs, vs, fp, x, rest, hr, hc => by simp [St.read] at hr
  | .pair a b, cs, vs, fp, x, rest, hr, hc => by
    simp only [St.read] at hr
    split at hr
    · rename_i x1 l1 h1
      split at hr
      · rename_i x2 l2 h2
        simp only [Option.some.injEq, Prod.mk.injEq] at hr
        obtain ⟨rfl, rfl⟩ := hr
        obtain ⟨v1, v2, f1, f2, rfl, rfl, k1, k2⟩ := DCs.read h1 hc
        obtain ⟨v3, v4, f3, f4, rfl, rfl, k3, k4⟩ := DCs.read h2 k2
        exact ⟨v1 ++ v3, v4, f1 ++ f3, f4, by rw [List.append_assoc], by rw [List.append_assoc], ⟨v1, v3, f1, f3, rfl, rfl, k1, k3⟩, k4⟩
      · cases hr
    · cases hr
theorem DCs.readMany {u : Ty} : ∀ (n : Nat) {cs : List Cell} {vs : List Value} {fp : List Nat} {xs : List u.den}, readMany s u n cs = some xs → DCs s w cs vs fp →
    ∃ v1 v2 f1 f2, vs = v1 ++ v2 ∧ fp = f1 ++ f2 ∧ xs.length = n ∧ Elems (DRep w u) xs v1 f1
  | 0, cs, vs, fp, xs, hr, hc => by
    obtain rfl := Option.some.inj hr
    exact ⟨[], vs, [], fp, rfl, rfl, rfl, rfl, rfl⟩
  | n + 1, cs, vs, fp, xs, hr, hc => by
    simp only [Vc.readMany] at hr
    split at hr
    · rename_i x l h1
      split at hr
      · rename_i ys h2
        obtain rfl := Option.some.inj hr
        obtain ⟨v1, v2, f1, f2, rfl, rfl, k1, k2⟩ := DCs.read h1 hc
        obtain ⟨v3, v4, f3, f4, rfl, rfl, hn, k3⟩ := DCs.readMany n h2 k2
        exact ⟨v1 ++ v3, v4, f1 ++ f3, f4, by rw [List.append_assoc], by rw [List.append_assoc], by simp [hn], v1, v3, f1, f3, rfl, rfl, k1, k3⟩
      · cases hr
    · cases hr
theorem Core.readMany_v (h : Core C G s w) {I' : Nat → Prop} (hI : ∀ k, G.I k → I' k) {u : Ty} : ∀ (n : Nat) {cs : List Cell} {vs : List Value} {xs : List u.den}, readMany s u n cs = some xs → Cells G s.reg w cs vs → (∀ r ∈ hangs cs, ∀ k ∈ G.fp r, I' k) →
    ∃ v1 v2, vs = v1 ++ v2 ∧ xs.length = n ∧ Elems (fun x cs fp => VRep I' w u x cs ∧ fp = []) xs v1 []
  | 0, cs, vs, xs, hr, hc, hh => by
    obtain rfl := Option.some.inj hr
    exact ⟨[], vs, rfl, rfl, rfl, rfl⟩
  | n + 1, cs, vs, xs, hr, hc, hh => by
    simp only [Vc.readMany] at hr
    split at hr
    · rename_i x l h1
      split at hr
      · rename_i ys h2
        obtain rfl := Option.some.inj hr
        obtain ⟨v1, v2, rfl, k1, k2, k3⟩ := h.read_v hI h1 hc hh
        obtain ⟨v3, v4, rfl, hn, k4⟩ := h.readMany_v hI n h2 k2 (fun r hr => hh r (k3 r hr))
        exact ⟨v1 ++ v3, v4, by rw [List.append_assoc], by simp [hn], v1, v3, [], [], rfl, rfl, ⟨k1, rfl⟩, k4⟩
      · cases hr
    · cases hr
/-- Flat values own nothing. -/
theorem VRep.flat {I : Nat → Prop} : ∀ {t : Ty} {x : t.den} {vs : List Value}, t.deep = false → VRep I w t x vs → DRep w t x vs []
  | .int _, _, _, _, h => ⟨h, rfl⟩
  | .bool, _, _, _, h => ⟨h, rfl⟩
  | .str, _, _, _, h => ⟨h, rfl⟩
  | .unit, _, _, _, h => ⟨h, rfl⟩
  | .opq, _, _, _, h => ⟨h, rfl⟩
  | .sl _ _, _, _, hd, _ => by cases hd
  | .pair a b, _, _, hd, h => by
    simp only [Ty.deep, Bool.or_eq_false_iff] at hd
    obtain ⟨v1, v2, e, h1, h2⟩ := h
    exact ⟨v1, v2, [], [], e, rfl, h1.flat hd.1, h2.flat hd.2⟩
/-- Cells that give their regions away. -/
theorem Core.gives (h : Core C G s w) : ∀ {cs : List Cell} {vs : List Value} {gv : List Nat}, gives cs = some gv → Cells G s.reg w cs vs → DCs s w cs vs (gv.flatMap G.fp) ∧ ∀ r ∈ gv, (s.reg r).isSome = true
  | [], vs, gv, hg, hc => by
    obtain rfl := Option.some.inj hg
    rw [show vs = [] from hc]
    exact ⟨⟨rfl, rfl⟩, fun _ hr => (by cases hr)⟩
  | c :: cs, vs, gv, hg, hc => by
    obtain ⟨v, l, rfl, h1, h2⟩ := hc
    cases c with
    | own r =>
      simp only [Vc.gives] at hg
      cases hg' : Vc.gives cs with
      | none => rw [hg'] at hg; cases hg
      | some gv' =>
        rw [hg'] at hg
        obtain rfl := Option.some.inj hg
        obtain ⟨k1, k2⟩ := h.gives hg' h2
        obtain ⟨g, hgr, rfl⟩ := h1
        refine ⟨⟨_, l, G.fp r, _, rfl, List.flatMap_cons, ?_, k1⟩, fun q hq => ?_⟩
        · intro e t xs hsl
          simp only [St.slice, hgr, Option.map_some, Option.some.injEq] at hsl
          cases hsl
          exact (h.reg r g hgr).1
        · rcases List.mem_cons.1 hq with rfl | hq
          · rw [hgr]; rfl
          · exact k2 q hq
    | nil e t =>
      obtain ⟨k1, k2⟩ := h.gives (cs := cs) (gv := gv) hg h2
      refine ⟨⟨_, l, [], _, rfl, rfl, ?_, k1⟩, k2⟩
      intro e' t' xs hsl
      simp only [St.slice, Option.some.injEq] at hsl
      cases hsl
      exact ⟨_, [], [], by rw [show v = _ from h1], World.ownsRow_nil w 0 e t.size, rfl, rfl, rfl⟩
    | int k n =>
      obtain ⟨k1, k2⟩ := h.gives (cs := cs) (gv := gv) hg h2
      exact ⟨⟨_, l, [], _, rfl, rfl, ⟨h1, rfl⟩, k1⟩, k2⟩
    | bool b =>
      obtain ⟨k1, k2⟩ := h.gives (cs := cs) (gv := gv) hg h2
      exact ⟨⟨_, l, [], _, rfl, rfl, ⟨h1, rfl⟩, k1⟩, k2⟩
    | str b =>
      obtain ⟨k1, k2⟩ := h.gives (cs := cs) (gv := gv) hg h2
      exact ⟨⟨_, l, [], _, rfl, rfl, ⟨h1, rfl⟩, k1⟩, k2⟩
    | _ => cases hg
theorem nodup_of : ∀ {l : List Nat}, nodup l = true → l.Nodup
  | [], _ => List.nodup_nil
  | x :: l, h => by
    simp only [nodup, Bool.and_eq_true, Bool.not_eq_true'] at h
    refine List.nodup_cons.2 ⟨fun hm => ?_, nodup_of h.2⟩
    rw [List.contains_eq_mem, decide_eq_false_iff_not] at h
    exact h.1 hm
/-- What is given is apart from itself. -/
theorem Core.givenNodup (h : Core C G s w) : ∀ {gv : List Nat}, gv.Nodup → (∀ r ∈ gv, (s.reg r).isSome = true) → (gv.flatMap G.fp).Nodup
  | [], _, _ => List.nodup_nil
  | r :: gv, hn, hs => by
    obtain ⟨hn1, hn2⟩ := List.nodup_cons.1 hn
    obtain ⟨g, hg⟩ := Option.isSome_iff_exists.1 (hs r List.mem_cons_self)
    rw [List.flatMap_cons]
    refine List.nodup_append.2 ⟨(h.reg r g hg).2, h.givenNodup hn2 (fun q hq => hs q (List.mem_cons_of_mem _ hq)), fun k hk k' hk' e => ?_⟩
    subst e
    obtain ⟨q, hq, hkq⟩ := List.mem_flatMap.1 hk'
    obtain ⟨g', hg'⟩ := Option.isSome_iff_exists.1 (hs q (List.mem_cons_of_mem _ hq))
    exact h.rr r q g g' hg hg' (fun e => hn1 (e ▸ hq)) k hk hkq
/-- .. and from all that stays. -/
theorem Core.given (h : Core C G s w) {gv : List Nat} (hn : gv.Nodup) (hs : ∀ r ∈ gv, (s.reg r).isSome = true) (r0 : Nat) : Apart C G (dropAll gv s) r0 (gv.flatMap G.fp) := by
  have key : ∀ k ∈ gv.flatMap G.fp, ∃ q g, q ∈ gv ∧ s.reg q = some g ∧ k ∈ G.fp q := fun k hk => by
    obtain ⟨q, hq, hkq⟩ := List.mem_flatMap.1 hk
    obtain ⟨g, hg⟩ := Option.isSome_iff_exists.1 (hs q hq)
    exact ⟨q, g, hq, hg, hkq⟩
  refine ⟨h.givenNodup hn hs, ?_, ?_, ?_, ?_⟩
  · intro k hk; obtain ⟨q, g, _, hg, hkq⟩ := key k hk; exact h.ir q g k hg hkq
  · intro k hk b x hb e
    obtain ⟨q, g, _, hg, hkq⟩ := key k hk
    obtain ⟨y, hy⟩ := dropAll_box gv s b x hb
    exact h.rb q g b y hg hy (e ▸ hkq)
  · intro k hk p g' _ hp hkp
    obtain ⟨q, g, hq, hg, hkq⟩ := key k hk
    rw [dropAll_reg] at hp
    by_cases hpg : p ∈ gv
    · rw [if_pos hpg] at hp; cases hp
    · rw [if_neg hpg] at hp
      exact h.rr p q g' g hp hg (fun e => hpg (e ▸ hq)) k hkp hkq
  · intro k hk; obtain ⟨q, g, _, hg, hkq⟩ := key k hk; exact h.or q g k hg hkq
/-- Memory put together of apart parts. -/
theorem Apart.append {r : Nat} {f1 f2 : List Nat} (h1 : Apart C G s r f1) (h2 : Apart C G s r f2) (hd : ∀ k ∈ f1, k ∉ f2) : Apart C G s r (f1 ++ f2) := by
  have cs : ∀ k ∈ f1 ++ f2, k ∈ f1 ∨ k ∈ f2 := fun k hk => List.mem_append.1 hk
  refine ⟨List.nodup_append.2 ⟨h1.nodup, h2.nodup, fun k hk k' hk' e => hd k hk (e ▸ hk')⟩, ?_, ?_, ?_, ?_⟩
  · intro k hk; exact (cs k hk).elim (h1.still k) (h2.still k)
  · intro k hk; exact (cs k hk).elim (h1.box k) (h2.box k)
  · intro k hk; exact (cs k hk).elim (h1.reg k) (h2.reg k)
  · intro k hk; exact (cs k hk).elim (h1.ok k) (h2.ok k)
theorem Apart.sub {r : Nat} {f f' : List Nat} (h : Apart C G s r f) (hn : f'.Nodup) (hs : ∀ k ∈ f', k ∈ f) : Apart C G s r f' :=
  ⟨hn, fun k hk => h.still k (hs k hk), fun k hk => h.box k (hs k hk), fun k hk => h.reg k (hs k hk), fun k hk => h.ok k (hs k hk)⟩
end

end Go.Proofs.Ytigkodlbjimikaa.Vc
