/- Regions whose order is drawn: two operations that are apart, in either order. -/
import Derived.Test.YtigkodlbjimikaaVcZga
namespace Go.Proofs.Ytigkodlbjimikaa.Vc
open Go Go.RowKit
set_option linter.unusedVariables false
set_option linter.unusedSimpArgs false

section
variable {P : Program} {V : Prog} {C : Ctx} {G : Gh} {s s' s1 s2 : St} {a : Act} {w : World} {rf : CallF V} {nt : Nat} {ops : Array Oper} {lone_ : Nat → Bool × Bool} {o : Oper} {E : Env} {H : Hints}
theorem Inv.drawn (h : Inv C G s a w) : Inv C G s a { w with drawn := w.drawn + 1 } := by
  have mv : ∀ c v, CRep G s.reg w c v → CRep G s.reg { w with drawn := w.drawn + 1 } c v := fun c v hc =>
    CRep.move (G := G) (G' := G) (w := w) (w' := { w with drawn := w.drawn + 1 }) (fun _ hk => hk) (fun _ _ => rfl) (fun _ hb => ⟨hb, rfl⟩) (fun q hq => ⟨fun g hg => ⟨g, hg, rfl, rfl⟩, rfl, fun _ _ _ _ => rfl⟩) hc
  refine { box := fun b x hb => ?_, reg := fun r g hg => ⟨DRep.frame (w := w) (w' := { w with drawn := w.drawn + 1 }) (fun _ _ => rfl) (h.reg r g hg).1, (h.reg r g hg).2⟩, pb := h.pb, bb := h.bb, rr := h.rr, rb := h.rb, ib := h.ib, ir := h.ir, ob := h.ob, or := h.or, ilt := h.ilt, frame := ⟨h.frame.os, h.frame.tape, h.frame.output, h.frame.size, h.frame.block⟩, home := h.home, orig := h.orig, i0 := h.i0, i1 := h.i1, defers := h.defers, size := h.size, tmp := fun t v hv => (h.tmp t v hv).move mv }
  obtain ⟨arr, h1, h2⟩ := h.box b x hb
  exact ⟨arr, h1, h2.move mv⟩

/-- What an operation tells anew, its guard among it. -/
structure OwnG (ops : Array Oper) (s : St) (o : Oper) (D : Delta) : Prop where
  tmps : ∀ x ∈ D.tmps, o.dst = some x.1 ∨ (x.1 ∈ o.looksAt ops ∧ get s.tmps x.1 = some x.2)
  boxes : ∀ x ∈ D.boxes, o.dst = some x.1 ∧ get s.boxes x.1 = none
  regs : ∀ x ∈ D.regs, ((isCall o = false ∧ ∃ d, o.dst = some d ∧ x.1 = siteLab d) ∨ (isCall o = true ∧ ∃ j, j < 1000 ∧ x.1 = callLab (dstOr o.dst) j)) ∧ s.reg x.1 = none
theorem get_insAll_same {α : Type} {k : Nat} : ∀ (L : List (Nat × α)) (t : List (Nat × α)), (∀ p ∈ L, p.1 ≠ k ∨ get t k = some p.2) → get (insAll L t) k = get t k
  | [], t, _ => rfl
  | (n, v) :: L, t, h => by
    have e : get (ins n v t) k = get t k := by
      rw [get_ins]
      by_cases e : k = n
      · rw [if_pos e]
        rcases h (n, v) List.mem_cons_self with h1 | h1
        · exact absurd e.symm h1
        · exact h1.symm
      · rw [if_neg e]
    show get (insAll L (ins n v t)) k = _
    rw [get_insAll_same L _ fun p hp => by rw [e]; exact h p (List.mem_cons_of_mem _ hp), e]
theorem Le.refl {T : Tmp → Prop} : Le s s T := ⟨fun _ _ => rfl, fun _ _ h => h, fun _ _ h => h⟩
theorem OwnG.le {D : Delta} (hO : OwnG ops s o D) {T : Tmp → Prop} (hT : ∀ d, o.dst = some d → ¬ T d) : Le s (D.app s) T := by
  refine ⟨fun t ht => get_insAll_same _ _ fun p hp => ?_, fun b x hb => ?_, fun r g hg => ?_⟩
  · rcases hO.tmps p hp with h | ⟨_, h⟩
    · exact .inl fun e => hT p.1 h (e ▸ ht)
    · by_cases e : p.1 = t
      · exact .inr (e ▸ h)
      · exact .inl e
  · show get (insAll D.boxes s.boxes) b = _
    rw [get_insAll _ _ fun p hp e => by have := (hO.boxes p hp).2; rw [e, hb] at this; cases this]; exact hb
  · show get (insAll D.regs s.regs) r = _
    rw [get_insAll _ _ fun p hp e => by have := (hO.regs p hp).2; rw [e, hg] at this; cases this]; exact hg
theorem dst_10000 (h : dstOk nt o = true) : ∀ d : Nat, o.dst = some d → d < 10000 := by
  intro d hd
  unfold dstOk at h
  rw [hd] at h
  simp only [Bool.and_eq_true] at h
  exact Nat.le_of_ble_eq_true h.2
theorem OwnG.boxK {D : Delta} (hO : OwnG ops s o D) {d : Nat} (hd : o.dst ≠ some d) : get (D.app s).boxes d = get s.boxes d :=
  get_insAll _ _ fun p hp e => hd (by rw [← e]; exact (hO.boxes p hp).1)
theorem OwnG.regK {D : Delta} (hO : OwnG ops s o D) {d : Nat} (hd : o.dst ≠ some d) (hlt : d < 10000) : (D.app s).reg (siteLab d) = s.reg (siteLab d) := by
  refine get_insAll _ _ fun p hp e => ?_
  rcases (hO.regs p hp).1 with ⟨_, d', h1, h2⟩ | ⟨_, j, h1, h2⟩
  · rw [e] at h2
    obtain rfl : d = d' := (show ∀ a b : Nat, siteLab a = siteLab b → a = b from fun a b h => by unfold siteLab at h; omega) _ _ h2
    exact hd h1
  · rw [e] at h2
    exact (show ∀ a b j : Nat, a < 10000 → siteLab a = callLab b j → False from fun a b j h1 h2 => by unfold siteLab callLab at h2; omega) _ _ _ hlt h2
theorem OwnG.labK {D : Delta} (hO : OwnG ops s o D) (hc : isCall o = false) (hk : dstOk nt o = true) (d : Nat) : labsFree d (D.app s) = labsFree d s := by
  rw [Bool.eq_iff_iff]
  unfold labsFree
  rw [List.all_eq_true, List.all_eq_true]
  constructor
  · intro h p hp
    obtain ⟨v, hv⟩ := (keys_insAll D.regs s.regs p.1).2 (.inr ⟨p.2, hp⟩)
    exact h (p.1, v) hv
  · intro h p hp
    rcases (keys_insAll D.regs s.regs p.1).1 ⟨p.2, hp⟩ with ⟨v, hv⟩ | ⟨v, hv⟩
    · rcases (hO.regs (p.1, v) hv).1 with ⟨_, d', h1, h2⟩ | ⟨h1, _⟩
      · have h3 := dst_10000 hk d' h1
        have h4 : p.1 + 1 ≤ callLab d 0 := by
          replace h2 : p.1 = siteLab d' := h2
          rw [h2]
          exact (show ∀ a b : Nat, a < 10000 → siteLab a + 1 ≤ callLab b 0 from fun a b h => by unfold siteLab callLab; omega) _ _ h3
        rw [show Nat.blt p.1 (callLab d 0) = true from Nat.ble_eq_true_of_le h4]; rfl
      · rw [h1] at hc; cases hc
    · exact h (p.1, v) hv
theorem OwnG.comm {D D' : Delta} {x y : Oper} (h : OwnG ops s x D) (h' : OwnG ops s y D') (ha : x.apart ops y = true) (hcc : ¬ (isCall x = true ∧ isCall y = true)) (hkx : dstOk nt x = true) (hky : dstOk nt y = true) (t : St) : D.app (D'.app t) = D'.app (D.app t) := by
  obtain ⟨a1, a2, a3⟩ := Oper.apart_spec ha
  have no : ∀ a b j : Nat, a < 10000 → siteLab a = callLab b j → False := fun a b j h1 h2 => by unfold siteLab callLab at h2; omega
  show St.mk (insAll D.tmps (insAll D'.tmps t.tmps)) (insAll D.boxes (insAll D'.boxes t.boxes)) (insAll D.regs (insAll D'.regs t.regs)) = St.mk (insAll D'.tmps (insAll D.tmps t.tmps)) (insAll D'.boxes (insAll D.boxes t.boxes)) (insAll D'.regs (insAll D.regs t.regs))
  rw [insAll_comm D.tmps D'.tmps, insAll_comm D.boxes D'.boxes, insAll_comm D.regs D'.regs]
  · intro p hp q hq
    refine .inl fun e => ?_
    rcases (h.regs p hp).1 with ⟨_, d, h1, h2⟩ | ⟨c1, j, h1, h2⟩
    · have l1 := dst_10000 hkx d h1
      rcases (h'.regs q hq).1 with ⟨_, d', h3, h4⟩ | ⟨c2, j', h3, h4⟩
      · rw [h2, h4] at e
        obtain rfl : d = d' := (show ∀ a b : Nat, siteLab a = siteLab b → a = b from fun a b h => by unfold siteLab at h; omega) _ _ e
        exact a2 d h1 h3
      · rw [h2, h4] at e; exact no d _ j' l1 e
    · rcases (h'.regs q hq).1 with ⟨_, d', h3, h4⟩ | ⟨c2, j', h3, h4⟩
      · have l2 := dst_10000 hky d' h3
        rw [h2, h4] at e; exact no d' _ j l2 e.symm
      · exact hcc ⟨c1, c2⟩
  · intro p hp q hq
    refine .inl fun e => ?_
    exact a2 p.1 (h.boxes p hp).1 (by rw [e]; exact (h'.boxes q hq).1)
  · intro p hp q hq
    by_cases e : p.1 = q.1
    · rcases h.tmps p hp with h1 | ⟨h1, h2⟩
      · rcases h'.tmps q hq with h3 | ⟨h3, h4⟩
        · exact absurd (by rw [e]; exact h3) (a2 p.1 h1)
        · exact absurd (by rw [e]; exact h3) (a1 p.1 h1)
      · rcases h'.tmps q hq with h3 | ⟨h3, h4⟩
        · exact absurd (by rw [← e]; exact h1) (a3 q.1 h3)
        · refine .inr ?_
          rw [e, h4] at h2
          exact Prod.ext e (Option.some.inj h2).symm
    · exact .inl e

/-! ### a step of its own -/
theorem looks_tmp (ops : Array Oper) : ∀ x ∈ o.op.operands, ∀ u, x = .tmp u → u ∈ o.looksAt ops := fun x hx u hu => by
  subst hu
  exact List.mem_append_left _ (List.mem_filterMap.2 ⟨.tmp u, by simpa using hx, rfl⟩)
theorem looks_guard {g : Nat} {want : Bool} {d : Tmp} (hg : o.guard = some (g, want)) (hd : (ops[g]?).bind (·.dst) = some d) : d ∈ o.looksAt ops := by
  refine List.mem_append_right _ ?_
  rw [hg]
  simp only [hd]
  simp
theorem Closed.putB (hc : Closed s) {d : Tmp} {q : Bool} : Closed (s.put (some d) (.c (.bool q))) := by
  refine ⟨fun t v hv c hcm => ?_, hc.box⟩
  replace hv : get (ins d (AVal.c (.bool q)) s.tmps) t = some v := hv
  rw [get_ins] at hv
  by_cases e : t = d
  · rw [if_pos e] at hv
    obtain rfl := Option.some.inj hv
    obtain rfl := List.mem_singleton.1 hcm
    exact .plain rfl (fun _ _ e => by cases e) (fun _ _ e => by cases e)
  · rw [if_neg e] at hv
    exact hc.tmp t v hv c hcm
theorem Le.putB {T : Tmp → Prop} (h : Le s s1 T) {d : Tmp} {v : AVal} : Le (s.put (some d) v) (s1.put (some d) v) T := by
  refine ⟨fun t ht => ?_, h.box, h.reg⟩
  show get (ins d v s1.tmps) t = get (ins d v s.tmps) t
  rw [get_ins, get_ins, h.tmp t ht]
theorem own_g {D : Delta} (h : Own s o D) : OwnG ops s o D := ⟨fun x hx => .inl (h.tmps x hx), h.boxes, h.regs⟩
theorem own_guard {D : Delta} {d : Tmp} {v : AVal} (h : Own (s.put (some d) v) o D) (hd : d ∈ o.looksAt ops) (hv : get s.tmps d = some v) : OwnG ops s o ⟨(d, v) :: D.tmps, D.boxes, D.regs⟩ := by
  refine ⟨fun x hx => ?_, h.boxes, h.regs⟩
  rcases List.mem_cons.1 hx with rfl | hx
  · exact .inr ⟨hd, hv⟩
  · exact .inl (h.tmps x hx)
theorem Le.ptrLoad {T : Tmp → Prop} (hle : Le s s1 T) (hT : ∀ x ∈ o.op.operands, ∀ u, x = .tmp u → T u) : ptrLoad V s1 o = ptrLoad V s o := by
  unfold Vc.ptrLoad
  split
  · rename_i t x ho
    rw [ho] at hT
    rw [hle.opnd (E := V.E) (t := 0) (hT x (by simp [Op.operands]))]
  · rename_i x ho
    rw [ho] at hT
    rw [hle.opnd (E := V.E) (t := o.type) (hT x (by simp [Op.operands]))]
  · rename_i t x f ho
    rw [ho] at hT
    rw [hle.opnd (E := V.E) (t := 0) (hT x (by simp [Op.operands]))]
  · rfl
theorem step_frame (hsig : ∀ i, resLen (V.sig i).res ≤ 1000) (hc : Closed s) {j : Nat} (ho : ops[j]? = some o) (hl : (lone_ j).2 = false) (hle : Le s s1 (· ∈ o.looksAt ops)) (hlab : isCall o = true → labsFree (dstOr o.dst) s1 = labsFree (dstOr o.dst) s)
    (hb : ∀ d, o.dst = some d → get s1.boxes d = get s.boxes d) (hr : ∀ d, o.dst = some d → s1.reg (siteLab d) = s.reg (siteLab d)) :
    (∀ s', Step_ V rf nt ops true lone_ j s s' → ∃ D, s' = D.app s ∧ Step_ V rf nt ops true lone_ j s1 (D.app s1) ∧ OwnG ops s o D) ∧ ∀ s', Step_ V rf nt ops true lone_ j s1 s' → ∃ D, s' = D.app s1 ∧ Step_ V rf nt ops true lone_ j s (D.app s) ∧ OwnG ops s o D := by
  have hT := looks_tmp (o := o) ops
  have tag : ∀ {t : St}, (!true || tagOk V t o (lone_ j)) = true → quiet V t o = true ∧ (!(lone_ j).1 || ptrLoad V t o) = true := fun h => by
    unfold tagOk at h
    rw [hl] at h
    simpa only [Bool.not_true, Bool.false_or, Bool.or_false, Bool.and_eq_true] using h
  have tag' : ∀ {t : St}, quiet V t o = true ∧ (!(lone_ j).1 || ptrLoad V t o) = true → (!true || tagOk V t o (lone_ j)) = true := fun h => by
    unfold tagOk
    rw [h.1, h.2]; rfl
  have same : ∀ {t t1 : St}, Le t t1 (· ∈ o.looksAt ops) → Closed t → (quiet V t1 o = true ∧ (!(lone_ j).1 || ptrLoad V t1 o) = true ↔ quiet V t o = true ∧ (!(lone_ j).1 || ptrLoad V t o) = true) := fun hle hc => by
    rw [hle.quiet hc hT, hle.ptrLoad hT]
  constructor
  · rintro s' ⟨o', ho', hdst, h⟩
    obtain rfl : o = o' := by rw [ho] at ho'; exact Option.some.inj ho'
    rcases h with ⟨hg, hck, hd⟩ | ⟨g, want, d, hg, hgd, h⟩
    · have hq := tag hck
      obtain ⟨D, e, h1, h2⟩ := (quiet_does (rf := rf) hle hc hq.1 hsig hT hlab hb hr).1 s' hd
      exact ⟨D, e, ⟨o, ho, hdst, .inl ⟨hg, tag' ((same hle hc).2 hq), h1⟩⟩, own_g h2⟩
    · have hdl := looks_guard hg hgd
      rcases h with ⟨hv, hck, hd⟩ | ⟨hv, rfl⟩ | ⟨hv, rfl⟩
      · have hq := tag hck
        have hle' := hle.putB (d := d) (v := .c (.bool want))
        obtain ⟨D, e, h1, h2⟩ := (quiet_does (rf := rf) hle' hc.putB hq.1 hsig hT hlab hb hr).1 s' hd
        exact ⟨⟨(d, .c (.bool want)) :: D.tmps, D.boxes, D.regs⟩, e, ⟨o, ho, hdst, .inr ⟨g, want, d, hg, hgd, .inl ⟨(hle.tmp d hdl).trans hv, tag' ((same hle' hc.putB).2 hq), h1⟩⟩⟩, own_guard h2 hdl hv⟩
      · refine ⟨⟨(d, .c (.bool (!want))) :: dl o.dst .und, [], []⟩, by cases o.dst <;> rfl, ⟨o, ho, hdst, .inr ⟨g, want, d, hg, hgd, .inr (.inl ⟨(hle.tmp d hdl).trans hv, by cases o.dst <;> rfl⟩)⟩⟩, own_guard (dl_own _ o .und) hdl hv⟩
      · exact ⟨⟨dl o.dst .und, [], []⟩, (app_put _ _ _).symm, ⟨o, ho, hdst, .inr ⟨g, want, d, hg, hgd, .inr (.inr ⟨(hle.tmp d hdl).trans hv, app_put _ _ _⟩)⟩⟩, own_g (dl_own s o .und)⟩
  · rintro s' ⟨o', ho', hdst, h⟩
    obtain rfl : o = o' := by rw [ho] at ho'; exact Option.some.inj ho'
    rcases h with ⟨hg, hck, hd⟩ | ⟨g, want, d, hg, hgd, h⟩
    · have hq := (same hle hc).1 (tag hck)
      obtain ⟨D, e, h1, h2⟩ := (quiet_does (rf := rf) hle hc hq.1 hsig hT hlab hb hr).2 s' hd
      exact ⟨D, e, ⟨o, ho, hdst, .inl ⟨hg, tag' hq, h1⟩⟩, own_g h2⟩
    · have hdl := looks_guard hg hgd
      rcases h with ⟨hv, hck, hd⟩ | ⟨hv, rfl⟩ | ⟨hv, rfl⟩
      · have hle' := hle.putB (d := d) (v := .c (.bool want))
        have hq := (same hle' hc.putB).1 (tag hck)
        obtain ⟨D, e, h1, h2⟩ := (quiet_does (rf := rf) hle' hc.putB hq.1 hsig hT hlab hb hr).2 s' hd
        have hv' := (hle.tmp d hdl).symm.trans hv
        exact ⟨⟨(d, .c (.bool want)) :: D.tmps, D.boxes, D.regs⟩, e, ⟨o, ho, hdst, .inr ⟨g, want, d, hg, hgd, .inl ⟨hv', tag' hq, h1⟩⟩⟩, own_guard h2 hdl hv'⟩
      · have hv' := (hle.tmp d hdl).symm.trans hv
        refine ⟨⟨(d, .c (.bool (!want))) :: dl o.dst .und, [], []⟩, by cases o.dst <;> rfl, ⟨o, ho, hdst, .inr ⟨g, want, d, hg, hgd, .inr (.inl ⟨hv', by cases o.dst <;> rfl⟩)⟩⟩, own_guard (dl_own _ o .und) hdl hv'⟩
      · have hv' := (hle.tmp d hdl).symm.trans hv
        exact ⟨⟨dl o.dst .und, [], []⟩, (app_put _ _ _).symm, ⟨o, ho, hdst, .inr ⟨g, want, d, hg, hgd, .inr (.inr ⟨hv', app_put _ _ _⟩)⟩⟩, own_g (dl_own s o .und)⟩

/-! ### moves beside stores -/
theorem AVal.map_fix {f : Cell → Cell} : ∀ {v : AVal}, (∀ c ∈ v.cells, f c = c) → v.map f = v
  | .cp (.one c), h => by
    show AVal.cp (.one (f c)) = _
    rw [h c (by simp [AVal.cells, Comp.cells])]
  | .cp (.agg cs), h => by
    show AVal.cp (.agg (cs.map f)) = _
    rw [List.map_congr_left (g := id) (fun c hc => h c (by simpa [AVal.cells, Comp.cells] using hc)), List.map_id]
  | .tup l, h => by
    show AVal.tup (l.map (Comp.map f)) = _
    congr 1
    rw [List.map_congr_left (g := id), List.map_id]
    intro x hx
    have h2 : ∀ c ∈ x.cells, f c = c := fun c hc => h c (List.mem_flatMap.2 ⟨x, hx, hc⟩)
    cases x with
    | one c => show Comp.one (f c) = _; rw [h2 c (by simp [Comp.cells])]; rfl
    | agg cs => show Comp.agg (cs.map f) = _; rw [List.map_congr_left (g := id) (fun c hc => h2 c (by simpa [Comp.cells] using hc)), List.map_id]; rfl
  | .bad, _ => rfl
  | .und, _ => rfl
theorem opnd_map {f : Cell → Cell} (hf : ∀ c, c.of = none → f c = c) {t : TypeId} {x : Operand} (hx : ∀ u, x = .tmp u → get s1.tmps u = (get s.tmps u).map (AVal.map f)) : s1.opnd E t x = (s.opnd E t x).map (AVal.map f) := by
  cases x with
  | tmp n =>
    simp only [St.opnd, hx n rfl]
    cases get s.tmps n with
    | none => rfl
    | some v => cases v <;> rfl
  | const v =>
    show constVal E t v = (constVal E t v).map (AVal.map f)
    cases h : constVal E t v with
    | none => rfl
    | some y => rw [Option.map_some, AVal.map_fix fun c hc => hf c (constVal_plain (s := s) h c hc).1]
  | func n =>
    show some (AVal.c (.fn n [])) = some ((AVal.c (.fn n [])).map f)
    rw [AVal.map_fix fun c hc => hf c (by obtain rfl := List.mem_singleton.1 hc; rfl)]
  | global _ => rfl
/-- What but moves slots. -/
theorem m_step (hm : isM o = true) {f : Cell → Cell} (hf : ∀ c, c.of = none → f c = c) (hx : ∀ u, u ∈ o.looksAt ops → get s1.tmps u = (get s.tmps u).map (AVal.map f)) :
    (∀ q s', astep E H s o = some (q, s') → ∃ v, s' = s.put o.dst v ∧ astep E H s1 o = some (q, s1.put o.dst (v.map f))) ∧ ∀ q s', astep E H s1 o = some (q, s') → ∃ v, astep E H s o = some (q, s.put o.dst v) ∧ s' = s1.put o.dst (v.map f) := by
  have hT := looks_tmp (o := o) ops
  unfold isM at hm
  simp only [Bool.and_eq_true] at hm
  have mv : ∀ x, (∀ u, x = .tmp u → get s1.tmps u = (get s.tmps u).map (AVal.map f)) → astep E H s o = ((s.opnd E o.type x).map fun v => (true, s.put o.dst v)) → astep E H s1 o = ((s1.opnd E o.type x).map fun v => (true, s1.put o.dst v)) →
      (∀ q s', astep E H s o = some (q, s') → ∃ v, s' = s.put o.dst v ∧ astep E H s1 o = some (q, s1.put o.dst (v.map f))) ∧ ∀ q s', astep E H s1 o = some (q, s') → ∃ v, astep E H s o = some (q, s.put o.dst v) ∧ s' = s1.put o.dst (v.map f) := by
    intro x hx e1 e2
    rw [opnd_map hf hx] at e2
    cases hv : s.opnd E o.type x with
    | none => rw [hv] at e1 e2; exact ⟨fun q s' h => (by rw [e1] at h; cases h), fun q s' h => (by rw [e2] at h; cases h)⟩
    | some v =>
      rw [hv] at e1 e2
      simp only [Option.map_some] at e1 e2
      constructor
      · intro q s' h
        rw [e1] at h
        simp only [Option.some.injEq, Prod.mk.injEq] at h
        obtain ⟨rfl, rfl⟩ := h
        exact ⟨v, rfl, e2⟩
      · intro q s' h
        rw [e2] at h
        simp only [Option.some.injEq, Prod.mk.injEq] at h
        obtain ⟨rfl, rfl⟩ := h
        exact ⟨v, e1, rfl⟩
  cases ho : o.op with
  | move x => exact mv x (fun u hu => hx u (hT x (by rw [ho]; simp [Op.operands]) u hu)) (by unfold astep; simp only [ho]) (by unfold astep; simp only [ho])
  | assign x => exact mv x (fun u hu => hx u (hT x (by rw [ho]; simp [Op.operands]) u hu)) (by unfold astep; simp only [ho]) (by unfold astep; simp only [ho])
  | extract x i =>
    have hop := opnd_map (E := E) (t := 0) (x := x) hf (fun u hu => hx u (hT x (by rw [ho]; simp [Op.operands]) u hu))
    have e1 : astep E H s o = (match s.opnd E 0 x with | some (.tup l) => (l[i]?).map fun c => (true, s.put o.dst (.cp c)) | _ => none) := by unfold astep; simp only [ho]; rfl
    have e2 : astep E H s1 o = (match s1.opnd E 0 x with | some (.tup l) => (l[i]?).map fun c => (true, s1.put o.dst (.cp c)) | _ => none) := by unfold astep; simp only [ho]; rfl
    rw [hop] at e2
    have bad : astep E H s o = none → astep E H s1 o = none → (∀ q s', astep E H s o = some (q, s') → ∃ v, s' = s.put o.dst v ∧ astep E H s1 o = some (q, s1.put o.dst (v.map f))) ∧ ∀ q s', astep E H s1 o = some (q, s') → ∃ v, astep E H s o = some (q, s.put o.dst v) ∧ s' = s1.put o.dst (v.map f) :=
      fun k1 k2 => ⟨fun q s' h => (by rw [k1] at h; cases h), fun q s' h => (by rw [k2] at h; cases h)⟩
    cases hv : s.opnd E 0 x with
    | none => rw [hv] at e1 e2; exact bad e1 e2
    | some v =>
      rw [hv] at e1 e2
      cases v with
      | tup l =>
        simp only [Option.map_some, AVal.map, List.getElem?_map] at e1 e2
        cases hl : l[i]? with
        | none => rw [hl] at e1 e2; exact bad e1 e2
        | some c =>
          rw [hl] at e1 e2
          simp only [Option.map_some] at e1 e2
          constructor
          · intro q s' h
            rw [e1] at h
            simp only [Option.some.injEq, Prod.mk.injEq] at h
            obtain ⟨rfl, rfl⟩ := h
            exact ⟨.cp c, rfl, e2⟩
          · intro q s' h
            rw [e2] at h
            simp only [Option.some.injEq, Prod.mk.injEq] at h
            obtain ⟨rfl, rfl⟩ := h
            exact ⟨.cp c, e1, rfl⟩
      | cp c => exact bad e1 e2
      | bad => exact bad e1 e2
      | und => exact bad e1 e2
  | _ => rw [ho] at hm; exact absurd hm.2 (by simp)
theorem isM_quiet (hm : isM o = true) (s : St) : quiet V s o = true ∧ isCall o = false ∧ isWild V.E o = false ∧ o.dst.isSome = true ∧ isLoad o = false := by
  unfold isM at hm
  simp only [Bool.and_eq_true] at hm
  obtain ⟨h1, h2⟩ := hm
  unfold quiet isCall isWild isStore isWildB isLoad
  split at h2 <;> rename_i ho <;> first | (rw [ho]; exact ⟨rfl, rfl, rfl, h1, by simp⟩) | cases h2
theorem isLoad_not (hm : isLoad o = true) : isCall o = false ∧ isWild V.E o = false ∧ o.dst.isSome = true := by
  unfold isLoad at hm
  simp only [Bool.and_eq_true] at hm
  obtain ⟨h1, h2⟩ := hm
  unfold isCall isWild isStore isWildB
  split at h2 <;> rename_i ho <;> first | (rw [ho]; exact ⟨rfl, rfl, h1⟩) | cases h2
theorem isWild_call (h : isWild V.E o = true) : isCall o = false := by
  unfold isWild isStore isWildB at h
  unfold isCall
  cases ho : o.op with
  | call c =>
    obtain ⟨cl, args, ats⟩ := c
    cases cl with
    | builtin b => rfl
    | _ => rw [ho] at h; simp at h
  | _ => rfl
theorem does_op (h : Does V rf s o s') (hc : isCall o = false) : astep V.E V.H s o = some (true, s') := by
  cases h with
  | op _ h => exact h
  | call _ h0 => rw [h0] at hc; cases hc
theorem compOf_map (f : Cell → Cell) (u : Ty) (cs : List Cell) : compOf u (cs.map f) = (compOf u cs).map (Comp.map f) := by
  unfold compOf
  cases isAggTy u with
  | true => rfl
  | false => rcases cs with _ | ⟨c, _ | ⟨c2, l⟩⟩ <;> rfl
theorem isPtr_of {x : Option AVal} (h : isPtr (cell? x) = true) : ∃ b off, x = some (.cp (.one (.ptr b off))) := by
  unfold isPtr at h
  split at h
  · rename_i b off hv
    unfold cell? at hv
    split at hv
    · rename_i c
      obtain rfl := Option.some.inj hv
      exact ⟨b, off, rfl⟩
    · cases hv
  · cases h
/-- A variable that is read, beside what moves whole regions. -/
theorem load_step (hl : isLoad o = true) {f : Cell → Cell} (hf : ∀ c, c.of = none → f c = c) (hp : ∀ c b o', f c = .ptr b o' → c = .ptr b o') (hx : ∀ u, u ∈ o.looksAt ops → get s1.tmps u = (get s.tmps u).map (AVal.map f)) (hb : ∀ b, get s1.boxes b = (get s.boxes b).map fun x => { x with cells := x.cells.map f }) :
    (∀ q s', ptrLoad V s o = true → astep V.E V.H s o = some (q, s') → ∃ v, s' = s.put o.dst v ∧ astep V.E V.H s1 o = some (q, s1.put o.dst (v.map f)) ∧ ptrLoad V s1 o = true ∧ quiet V s1 o = true) ∧ ∀ q s', ptrLoad V s1 o = true → astep V.E V.H s1 o = some (q, s') → ∃ v, astep V.E V.H s o = some (q, s.put o.dst v) ∧ s' = s1.put o.dst (v.map f) ∧ ptrLoad V s o = true ∧ quiet V s o = true := by
  have hT := looks_tmp (o := o) ops
  unfold isLoad at hl
  simp only [Bool.and_eq_true] at hl
  -- by the operand, and what is told of it
  have main : ∀ (t0 : TypeId) (x : Operand), x ∈ o.op.operands → (∀ t', ptrLoad V t' o = isPtr (cell? (t'.opnd V.E t0 x))) →
      (∀ b off, s.opnd V.E t0 x = some (.cp (.one (.ptr b off))) → s1.opnd V.E t0 x = some (.cp (.one (.ptr b off))) →
        ∃ res : Option AVal, astep V.E V.H s o = (res.map fun v => (true, s.put o.dst v)) ∧ astep V.E V.H s1 o = (res.map fun v => (true, s1.put o.dst (v.map f))) ∧ (∀ v, res = some v → ∀ t' : St, t'.opnd V.E t0 x = some (.cp (.one (.ptr b off))) → quiet V t' o = true)) →
      (∀ q s', ptrLoad V s o = true → astep V.E V.H s o = some (q, s') → ∃ v, s' = s.put o.dst v ∧ astep V.E V.H s1 o = some (q, s1.put o.dst (v.map f)) ∧ ptrLoad V s1 o = true ∧ quiet V s1 o = true) ∧ ∀ q s', ptrLoad V s1 o = true → astep V.E V.H s1 o = some (q, s') → ∃ v, astep V.E V.H s o = some (q, s.put o.dst v) ∧ s' = s1.put o.dst (v.map f) ∧ ptrLoad V s o = true ∧ quiet V s o = true := by
    intro t0 x hxo pl both
    have hop := opnd_map (E := V.E) (t := t0) (x := x) hf (fun u hu => hx u (hT x hxo u hu))
    constructor
    · intro q s' hpl hs
      rw [pl] at hpl
      obtain ⟨b, off, h1⟩ := isPtr_of hpl
      have h2 : s1.opnd V.E t0 x = some (.cp (.one (.ptr b off))) := by
        rw [hop, h1]
        show some (AVal.cp (.one (f (.ptr b off)))) = _
        rw [hf _ rfl]
      obtain ⟨res, e1, e2, e3⟩ := both b off h1 h2
      cases res with
      | none => rw [e1] at hs; cases hs
      | some v =>
        rw [e1] at hs
        simp only [Option.map_some, Option.some.injEq, Prod.mk.injEq] at hs
        obtain ⟨rfl, rfl⟩ := hs
        exact ⟨v, rfl, e2, by rw [pl, h2]; rfl, e3 v rfl s1 h2⟩
    · intro q s' hpl hs
      rw [pl] at hpl
      obtain ⟨b, off, h2⟩ := isPtr_of hpl
      have h1 : s.opnd V.E t0 x = some (.cp (.one (.ptr b off))) := by
        rw [hop] at h2
        cases hv : s.opnd V.E t0 x with
        | none => rw [hv] at h2; cases h2
        | some v =>
          rw [hv] at h2
          replace h2 : some (v.map f) = some (AVal.cp (.one (.ptr b off))) := h2
          cases v with
          | cp c =>
            cases c with
            | one c =>
              have : f c = .ptr b off := by injection h2 with h2; injection h2 with h2; injection h2
              rw [hp c b off this]
            | agg cs => cases h2
          | _ => cases h2
      obtain ⟨res, e1, e2, e3⟩ := both b off h1 h2
      cases res with
      | none => rw [e2] at hs; cases hs
      | some v =>
        rw [e2] at hs
        simp only [Option.map_some, Option.some.injEq, Prod.mk.injEq] at hs
        obtain ⟨rfl, rfl⟩ := hs
        exact ⟨v, e1, rfl, by rw [pl, h1]; rfl, e3 v rfl s h1⟩
  cases ho : o.op with
  | load t x =>
    refine main 0 x (by rw [ho]; simp [Op.operands]) (fun t' => by unfold ptrLoad; rw [ho]) (fun b off h1 h2 => ?_)
    have qt : ∀ u, V.E.ty t = some u → ∀ t' : St, t'.opnd V.E 0 x = some (.cp (.one (.ptr b off))) → quiet V t' o = true := by
      intro u hu t' h
      unfold quiet
      simp only [ho, h, hu, cell?]
    unfold astep
    simp only [ho, h1, h2, cell?]
    cases hu : V.E.ty t with
    | none => exact ⟨none, rfl, rfl, fun v e => by cases e⟩
    | some u =>
      simp only [St.at_, hb b]
      cases get s.boxes b with
      | none => exact ⟨none, rfl, rfl, fun v e => by cases e⟩
      | some bx =>
        simp only [Option.map_some]
        have e : ((bx.cells.map f).drop off).take u.size = (((bx.cells).drop off).take u.size).map f := by rw [List.map_take, List.map_drop]
        rw [e, List.length_map, compOf_map]
        cases (((bx.cells).drop off).take u.size).length == u.size with
        | false => exact ⟨none, rfl, rfl, fun v e => by cases e⟩
        | true =>
          simp only [cond_true]
          cases compOf u (((bx.cells).drop off).take u.size) with
          | none => exact ⟨none, rfl, rfl, fun v e => by cases e⟩
          | some c => exact ⟨some (.cp c), rfl, rfl, fun v e => qt u hu⟩
  | nilCheck x =>
    refine main o.type x (by rw [ho]; simp [Op.operands]) (fun t' => by unfold ptrLoad; rw [ho]) (fun b off h1 h2 => ?_)
    refine ⟨some (.c (.ptr b off)), ?_, ?_, fun v e t' h => by unfold quiet; simp only [ho]⟩
    · unfold astep; simp only [ho, h1, cell?]; rfl
    · unfold astep
      simp only [ho, h2, cell?]
      show some (true, s1.put o.dst (.c (.ptr b off))) = some (true, s1.put o.dst (.cp (.one (f (.ptr b off)))))
      rw [hf _ rfl]
  | fieldAddr st x fi =>
    refine main 0 x (by rw [ho]; simp [Op.operands]) (fun t' => by unfold ptrLoad; rw [ho]) (fun b off h1 h2 => ?_)
    unfold astep
    simp only [ho, h1, h2, cell?]
    cases get V.E.types st with
    | none => exact ⟨none, rfl, rfl, fun v e => by cases e⟩
    | some ti =>
      simp only []
      cases ti.flds[fi]? with
      | none => exact ⟨none, rfl, rfl, fun v e => by cases e⟩
      | some p =>
        obtain ⟨fo, tf⟩ := p
        refine ⟨some (.c (.ptr b (off + fo))), rfl, ?_, fun v e t' h => by unfold quiet; simp only [ho]⟩
        show some (true, s1.put o.dst (.c (.ptr b (off + fo)))) = some (true, s1.put o.dst (.cp (.one (f (.ptr b (off + fo))))))
        rw [hf _ rfl]
  | _ => rw [ho] at hl; exact absurd hl.2 (by simp)
/-- What is but copied, beside what moves cells: either order tells the same. -/
theorem copy_step {B : Bool} (hm : isM o = true ∨ (isLoad o = true ∧ B = true)) {f : Cell → Cell} (hf : ∀ c, c.of = none → f c = c) (hp : ∀ c b o', f c = .ptr b o' → c = .ptr b o') (hx : ∀ u, u ∈ o.looksAt ops → get s1.tmps u = (get s.tmps u).map (AVal.map f)) (hb : B = true → ∀ b, get s1.boxes b = (get s.boxes b).map fun x => { x with cells := x.cells.map f }) :
    (∀ q s', (isLoad o = true → ptrLoad V s o = true) → astep V.E V.H s o = some (q, s') → ∃ v, s' = s.put o.dst v ∧ astep V.E V.H s1 o = some (q, s1.put o.dst (v.map f)) ∧ (isLoad o = true → ptrLoad V s1 o = true) ∧ quiet V s1 o = true) ∧ ∀ q s', (isLoad o = true → ptrLoad V s1 o = true) → astep V.E V.H s1 o = some (q, s') → ∃ v, astep V.E V.H s o = some (q, s.put o.dst v) ∧ s' = s1.put o.dst (v.map f) ∧ (isLoad o = true → ptrLoad V s o = true) ∧ quiet V s o = true := by
  rcases hm with hm | ⟨hl, hB⟩
  · obtain ⟨_, _, _, _, nl⟩ := isM_quiet (V := V) hm s
    obtain ⟨h1, h2⟩ := m_step (E := V.E) (H := V.H) (ops := ops) hm hf hx
    refine ⟨fun q s' _ hs => ?_, fun q s' _ hs => ?_⟩
    · obtain ⟨v, e1, e2⟩ := h1 q s' hs
      exact ⟨v, e1, e2, fun e => (by rw [nl] at e; cases e), (isM_quiet hm s1).1⟩
    · obtain ⟨v, e1, e2⟩ := h2 q s' hs
      exact ⟨v, e1, e2, fun e => (by rw [nl] at e; cases e), (isM_quiet hm s).1⟩
  · obtain ⟨h1, h2⟩ := load_step (V := V) (ops := ops) hl hf hp hx (hb hB)
    refine ⟨fun q s' hq hs => ?_, fun q s' hq hs => ?_⟩
    · obtain ⟨v, e1, e2, e3, e4⟩ := h1 q s' (hq hl) hs
      exact ⟨v, e1, e2, fun _ => e3, e4⟩
    · obtain ⟨v, e1, e2, e3, e4⟩ := h2 q s' (hq hl) hs
      exact ⟨v, e1, e2, fun _ => e3, e4⟩
theorem put_inj {d : Tmp} {v v' : AVal} (h : s.put (some d) v = s.put (some d) v') : v = v' := by
  have : get (s.put (some d) v).tmps d = get (s.put (some d) v').tmps d := by rw [h]
  replace this : get (ins d v s.tmps) d = get (ins d v' s.tmps) d := this
  rw [get_ins, get_ins, if_pos rfl, if_pos rfl] at this
  exact Option.some.inj this
/-- Two operations that are apart, in either order. -/
theorem swap (hsig : ∀ i, resLen (V.sig i).res ≤ 1000) (hc : Closed s) {r i : Nat} {x y : Oper} (hx : ops[r]? = some x) (hy : ops[i]? = some y) (hp : pairOk V.E ops x y = true) (hlr : (lone_ r).2 = isWild V.E x) (hli : (lone_ i).2 = isWild V.E y)
    (hnr : (isLoad x && isWildB V.E y) = true → (lone_ r).1 = true) (hni : (isLoad y && isWildB V.E x) = true → (lone_ i).1 = true) (har : (lone_ r).1 = true → isLoad x = true) (hai : (lone_ i).1 = true → isLoad y = true)
    (h1 : Step_ V rf nt ops true lone_ r s s1) (h2 : Step_ V rf nt ops true lone_ i s1 s2) : ∃ s3, Step_ V rf nt ops true lone_ i s s3 ∧ Step_ V rf nt ops true lone_ r s3 s2 := by
  unfold pairOk at hp
  simp only [Bool.and_eq_true, Bool.not_eq_true', Bool.and_eq_false_iff] at hp
  obtain ⟨⟨ha, hcc⟩, hwild⟩ := hp
  obtain ⟨a1, a2, a3⟩ := Oper.apart_spec ha
  have hcc' : ¬ (isCall x = true ∧ isCall y = true) := fun ⟨c1, c2⟩ => by rcases hcc with h | h <;> simp_all
  have hkx : dstOk nt x = true := by obtain ⟨o, ho, hk, _⟩ := h1; rw [hx] at ho; obtain rfl := Option.some.inj ho; exact hk
  have hky : dstOk nt y = true := by obtain ⟨o, ho, hk, _⟩ := h2; rw [hy] at ho; obtain rfl := Option.some.inj ho; exact hk
  cases hw : (isWild V.E x || isWild V.E y) with
  | false =>
    simp only [Bool.or_eq_false_iff] at hw
    rw [hw.1] at hlr
    rw [hw.2] at hli
    obtain ⟨D0, e0, _, O0⟩ := (step_frame (rf := rf) (nt := nt) hsig hc hx hlr Le.refl (fun _ => rfl) (fun _ _ => rfl) (fun _ _ => rfl)).1 s1 h1
    have le1 : Le s s1 (· ∈ y.looksAt ops) := by rw [e0]; exact O0.le a1
    obtain ⟨D2, e2, k2, O2⟩ := (step_frame (rf := rf) (nt := nt) hsig hc hy hli le1 (fun hcy => by rw [e0]; exact O0.labK (by cases hcx : isCall x with | false => rfl | true => exact absurd ⟨hcx, hcy⟩ hcc') hkx _) (fun d hd => by rw [e0]; exact O0.boxK fun e => a2 d e hd) (fun d hd => by rw [e0]; exact O0.regK (fun e => a2 d e hd) (dst_10000 hky d hd))).2 s2 h2
    have le2 : Le s (D2.app s) (· ∈ x.looksAt ops) := O2.le a3
    obtain ⟨D1, e1, k1, O1⟩ := (step_frame (rf := rf) (nt := nt) hsig hc hx hlr le2 (fun hcx => O2.labK (by cases hcy : isCall y with | false => rfl | true => exact absurd ⟨hcx, hcy⟩ hcc') hky _) (fun d hd => O2.boxK fun e => a2 d hd e) (fun d hd => O2.regK (fun e => a2 d hd e) (dst_10000 hkx d hd))).1 s1 h1
    refine ⟨D2.app s, k2, ?_⟩
    rw [e2, e1, ← O1.comm O2 ha hcc' hkx hky]
    exact k1
  | true =>
    rw [hw] at hwild
    simp only [Bool.not_true, Bool.false_or, Bool.and_eq_true, Option.isNone_iff_eq_none] at hwild
    obtain ⟨⟨hm, gx⟩, gy⟩ := hwild
    have plain : ∀ {j : Nat} {o : Oper} {t t' : St}, ops[j]? = some o → o.guard = none → isCall o = false → Step_ V rf nt ops true lone_ j t t' → astep V.E V.H t o = some (true, t') ∧ tagOk V t o (lone_ j) = true := by
      rintro j o t t' ho hg hcall ⟨o', ho', _, h⟩
      obtain rfl : o = o' := by rw [ho] at ho'; exact Option.some.inj ho'
      rcases h with ⟨_, htag, h⟩ | ⟨g, want, d, hg', _⟩
      · exact ⟨does_op h hcall, by simpa using htag⟩
      · rw [hg] at hg'; cases hg'
    have mk : ∀ {j : Nat} {o : Oper} {t t' : St}, ops[j]? = some o → dstOk nt o = true → o.guard = none → isCall o = false → tagOk V t o (lone_ j) = true → astep V.E V.H t o = some (true, t') → Step_ V rf nt ops true lone_ j t t' := by
      intro j o t t' ho hk hg hcall hq h
      exact ⟨o, ho, hk, .inl ⟨hg, by simpa using hq, .op hcall h⟩⟩
    have wtag : ∀ {j : Nat} {o : Oper} {t : St}, (lone_ j).2 = true → tagOk V t o (lone_ j) = true := fun h => by unfold tagOk; rw [h, Bool.or_true]
    have ctag : ∀ {j : Nat} {o : Oper} {t : St}, ((lone_ j).1 = true → isLoad o = true) → (isLoad o = true → ptrLoad V t o = true) → quiet V t o = true → tagOk V t o (lone_ j) = true := by
      intro j o t h1 h2 h3
      unfold tagOk
      rw [h3]
      cases hl : (lone_ j).1 with
      | false => simp
      | true => rw [h2 (h1 hl)]; simp
    have otag : ∀ {j : Nat} {o : Oper} {t : St}, (lone_ j).2 = false → (isLoad o = true → (lone_ j).1 = true) → tagOk V t o (lone_ j) = true → isLoad o = true → ptrLoad V t o = true := by
      intro j o t h1 h2 h3 hl
      unfold tagOk at h3
      rw [h1, h2 hl] at h3
      simp only [Bool.not_true, Bool.false_or, Bool.or_false, Bool.and_eq_true] at h3
      exact h3.2
    -- which of the two is but copied
    have which : ((isM x = true ∨ (isLoad x = true ∧ isWildB V.E y = true)) ∧ isWild V.E y = true) ∨ ((isM y = true ∨ (isLoad y = true ∧ isWildB V.E x = true)) ∧ isWild V.E x = true) := by
      simp only [Bool.or_eq_true, Bool.and_eq_true] at hm hw
      rcases hm with ((hm | hm) | hm) | hm
      · refine .inl ⟨.inl hm, hw.resolve_left ?_⟩
        rw [(isM_quiet (V := V) hm s).2.2.1]; exact fun e => by cases e
      · refine .inr ⟨.inl hm, hw.resolve_right ?_⟩
        rw [(isM_quiet (V := V) hm s).2.2.1]; exact fun e => by cases e
      · refine .inl ⟨.inr hm, ?_⟩
        unfold isWild; rw [hm.2, Bool.or_true]
      · refine .inr ⟨.inr hm, ?_⟩
        unfold isWild; rw [hm.2, Bool.or_true]
    have facts : ∀ {o z : Oper}, (isM o = true ∨ (isLoad o = true ∧ isWildB V.E z = true)) → isCall o = false ∧ isWild V.E o = false ∧ o.dst.isSome = true := by
      intro o z h
      rcases h with h | h
      · obtain ⟨_, a, b, c, _⟩ := isM_quiet (V := V) h s; exact ⟨a, b, c⟩
      · exact isLoad_not (V := V) h.1
    have need : ∀ {o z : Oper}, (isM o = true ∨ (isLoad o = true ∧ isWildB V.E z = true)) → isLoad o = true → (isLoad o && isWildB V.E z) = true := by
      intro o z h hl
      rcases h with h | h
      · rw [(isM_quiet (V := V) h s).2.2.2.2] at hl; cases hl
      · rw [h.1, h.2]; rfl
    rcases which with ⟨hmx, wy⟩ | ⟨hmy, wx⟩
    · obtain ⟨cx, wx, dx⟩ := facts hmx
      have cy := isWild_call wy
      obtain ⟨d, hd⟩ := Option.isSome_iff_exists.1 dx
      obtain ⟨b1, t1⟩ := plain hx gx cx h1
      obtain ⟨b2, t2⟩ := plain hy gy cy h2
      have okx : isLoad x = true → ptrLoad V s x = true := otag (hlr.trans wx) (fun hl => hnr (need hmx hl)) t1
      obtain ⟨v, e1, _⟩ := (copy_step (V := V) (ops := ops) (s := s) (s1 := s) hmx (f := id) (fun _ _ => rfl) (fun _ _ _ h => h) (fun u _ => by rw [map_idO]) (fun _ b => by cases get s.boxes b <;> simp)).1 _ _ okx b1
      rw [hd] at e1
      obtain ⟨f, hf, ht, hY, hfp, hB⟩ := w2 (s := s) (E := V.E) (H := V.H) (v := v) wy (d := d) (fun z hz e => a1 d hd (looks_tmp ops z hz d e)) (fun e => a2 d hd e)
      rw [e1, hY] at b2
      cases hA : astep V.E V.H s y with
      | none => rw [hA] at b2; cases b2
      | some p =>
        obtain ⟨q, s3⟩ := p
        rw [hA] at b2
        simp only [Option.map_some, Option.some.injEq, Prod.mk.injEq] at b2
        obtain ⟨rfl, rfl⟩ := b2
        obtain ⟨v', e1', b3, p3, q3⟩ := (copy_step (V := V) (ops := ops) (s := s) (s1 := s3) hmx hf hfp (fun u hu => ht _ _ hA u fun e => a3 u e hu) (fun hb b => hB hb _ _ hA b)).1 _ _ okx b1
        rw [hd, e1] at e1'
        obtain rfl := put_inj e1'
        rw [hd] at b3
        exact ⟨s3, mk hy hky gy cy (wtag (hli.trans wy)) hA, mk hx hkx gx cx (ctag har p3 q3) b3⟩
    · obtain ⟨cy, wy, dy⟩ := facts hmy
      have cx := isWild_call wx
      obtain ⟨d, hd⟩ := Option.isSome_iff_exists.1 dy
      obtain ⟨b1, t1⟩ := plain hx gx cx h1
      obtain ⟨b2, t2⟩ := plain hy gy cy h2
      have oky : isLoad y = true → ptrLoad V s1 y = true := otag (hli.trans wy) (fun hl => hni (need hmy hl)) t2
      have hTd : ∀ z ∈ x.op.operands, z ≠ .tmp d := fun z hz e => a3 d hd (looks_tmp ops z hz d e)
      have hdd : x.dst ≠ some d := fun e => a2 d e hd
      obtain ⟨f0, hf0, ht0, _, hp0, hB0⟩ := w2 (s := s) (E := V.E) (H := V.H) (v := .bad) wx (d := d) hTd hdd
      obtain ⟨v, b3, _, p3, q3⟩ := (copy_step (V := V) (ops := ops) (s := s) (s1 := s1) hmy hf0 hp0 (fun u hu => ht0 _ _ b1 u fun e => a1 u e hu) (fun hb b => hB0 hb _ _ b1 b)).2 _ _ oky b2
      obtain ⟨f, hf, ht, hY, hfp, hB⟩ := w2 (s := s) (E := V.E) (H := V.H) (v := v) wx (d := d) hTd hdd
      obtain ⟨v', e3, b4, _⟩ := (copy_step (V := V) (ops := ops) (s := s) (s1 := s1) hmy hf hfp (fun u hu => ht _ _ b1 u fun e => a1 u e hu) (fun hb b => hB hb _ _ b1 b)).1 _ _ p3 b3
      rw [hd] at e3
      obtain rfl := put_inj e3
      rw [hd, b2] at b4
      obtain rfl : s2 = s1.put (some d) (v.map f) := (Prod.mk.inj (Option.some.inj b4)).2
      rw [hd] at b3
      refine ⟨s.put (some d) v, mk hy hky gy cy (ctag hai p3 q3) b3, mk hx hkx gx cx (wtag (hlr.trans wx)) ?_⟩
      rw [hY, b1]; rfl
end

end Go.Proofs.Ytigkodlbjimikaa.Vc
