/- Regions whose order is drawn: calls that change nothing; stores and appends beside what but moves slots. -/
import Derived.Test.YtigkodlbjimikaaVcZg
namespace Go.Proofs.Ytigkodlbjimikaa.Vc
open Go Go.RowKit
set_option linter.unusedVariables false
set_option linter.unusedSimpArgs false

/-! ### calls -/
theorem insAll_append {α : Type} : ∀ (L M t : List (Nat × α)), insAll (L ++ M) t = insAll M (insAll L t)
  | [], M, t => rfl
  | (k, v) :: L, M, t => insAll_append L M (ins k v t)
theorem newCells_delta (d : Nat) : ∀ (l : List CSh) (j : Nat) (x : (rowTy l).den), ∃ L cs j', (∀ s, newCells d s l j x = ({ s with regs := insAll L s.regs }, cs, j')) ∧ j ≤ j' ∧ j' ≤ j + l.length ∧ ∀ p ∈ L, ∃ i, j ≤ i ∧ i < j + l.length ∧ p.1 = callLab d i
  | [], j, x => ⟨[], [], j, fun s => rfl, Nat.le_refl _, by simp, fun p hp => by cases hp⟩
  | .val t :: l, j, x => by
    obtain ⟨L, cs, j', h1, h2, h3, h4⟩ := newCells_delta d l j x.2
    refine ⟨L, vcells t x.1 ++ cs, j', fun s => by simp only [newCells, h1], h2, by simp only [List.length_cons]; omega, fun p hp => ?_⟩
    obtain ⟨i, a, b, c⟩ := h4 p hp
    exact ⟨i, a, by simp only [List.length_cons]; omega, c⟩
  | .view e t :: l, j, x => by
    obtain ⟨L, cs, j', h1, h2, h3, h4⟩ := newCells_delta d l j x.2
    refine ⟨L, .view e t x.1 :: cs, j', fun s => by simp only [newCells, h1], h2, by simp only [List.length_cons]; omega, fun p hp => ?_⟩
    obtain ⟨i, a, b, c⟩ := h4 p hp
    exact ⟨i, a, by simp only [List.length_cons]; omega, c⟩
  | .own e t :: l, j, x => by
    obtain ⟨L, cs, j', h1, h2, h3, h4⟩ := newCells_delta d l (j + 1) x.2
    refine ⟨(callLab d j, ⟨e, t, x.1, 0⟩) :: L, .own (callLab d j) :: cs, j', fun s => by simp only [newCells, h1]; rfl, by omega, by simp only [List.length_cons]; omega, fun p hp => ?_⟩
    rcases List.mem_cons.1 hp with rfl | hp
    · exact ⟨j, Nat.le_refl _, by simp only [List.length_cons]; omega, rfl⟩
    · obtain ⟨i, a, b, c⟩ := h4 p hp
      exact ⟨i, by omega, by simp only [List.length_cons]; omega, c⟩
def compCells : List Cell → Comp
  | [c] => .one c
  | cs => .agg cs
theorem newComps_delta (d : Nat) : ∀ (l : List RSh) (j : Nat) (x : (ressTy l).den), ∃ L cs j', (∀ s, newComps d s l j x = ({ s with regs := insAll L s.regs }, cs, j')) ∧ j ≤ j' ∧ j' ≤ j + resLen l ∧ ∀ p ∈ L, ∃ i, j ≤ i ∧ i < j + resLen l ∧ p.1 = callLab d i
  | [], j, x => ⟨[], [], j, fun s => rfl, Nat.le_refl _, by simp [resLen], fun p hp => by cases hp⟩
  | .one c :: l, j, x => by
    obtain ⟨L, cs, j1, h1, h2, h3, h4⟩ := newCells_delta d [c] j (x.1, ())
    obtain ⟨M, ds, j2, k1, k2, k3, k4⟩ := newComps_delta d l j1 x.2
    simp only [List.length_cons, List.length_nil] at h3 h4
    refine ⟨L ++ M, compCells cs :: ds, j2, fun s => by simp only [newComps, h1, k1, insAll_append]; rfl, by omega, by simp only [resLen]; omega, fun p hp => ?_⟩
    rcases List.mem_append.1 hp with hp | hp
    · obtain ⟨i, a, b, c⟩ := h4 p hp
      exact ⟨i, a, by simp only [resLen]; omega, c⟩
    · obtain ⟨i, a, b, c⟩ := k4 p hp
      exact ⟨i, by omega, by simp only [resLen]; omega, c⟩
  | .agg cs0 :: l, j, x => by
    obtain ⟨L, cs, j1, h1, h2, h3, h4⟩ := newCells_delta d cs0 j x.1
    obtain ⟨M, ds, j2, k1, k2, k3, k4⟩ := newComps_delta d l j1 x.2
    refine ⟨L ++ M, .agg cs :: ds, j2, fun s => by simp only [newComps, h1, k1, insAll_append], by omega, by simp only [resLen]; omega, fun p hp => ?_⟩
    rcases List.mem_append.1 hp with hp | hp
    · obtain ⟨i, a, b, c⟩ := h4 p hp
      exact ⟨i, a, by simp only [resLen]; omega, c⟩
    · obtain ⟨i, a, b, c⟩ := k4 p hp
      exact ⟨i, by omega, by simp only [resLen]; omega, c⟩
def flatPar : Par → Bool
  | .val _ => true
  | .fn _ _ => true
  | _ => false
theorem flatSig_of {g : Sig} (h : flatSig g = true) : g.hasView = false ∧ g.pars.all flatPar = true := by
  unfold flatSig at h
  simp only [Bool.and_eq_true, Bool.not_eq_true'] at h
  refine ⟨h.1, List.all_eq_true.2 fun p hp => ?_⟩
  have := List.all_eq_true.1 h.2 p hp
  cases p <;> first | rfl | cases this
theorem newPars_flat {d : Nat} : ∀ (l : List Par) (as : List AVal) (j : Nat) (y : (outsTy l).den) (s : St), l.all flatPar = true → newPars d s l as j y = s
  | [], as, j, y, s, _ => by cases as <;> rfl
  | p :: l, as, j, y, s, h => by
    simp only [List.all_cons, Bool.and_eq_true] at h
    cases p with
    | val t => cases as with
      | nil => rfl
      | cons a as => exact newPars_flat l as j y.2 s h.2
    | fn f caps => cases as with
      | nil => rfl
      | cons a as => exact newPars_flat l as j y.2 s h.2
    | own _ _ _ => cases h.1
    | box _ _ _ => cases h.1
    | agg _ => cases h.1
section
variable {s s1 : St} {o : Oper} {E : Env} {H : Hints} {T : Tmp → Prop} {V : Prog} {rf : CallF V}
theorem inPars_flat : ∀ {l : List Par} {as : List AVal} {x : (parsTy l).den} {own lent back : List Nat}, l.all flatPar = true → inPars s l as = some (x, own, lent, back) → own = [] ∧ back = []
  | [], as, x, own, lent, back, _, h => by
    cases as with
    | cons _ _ => simp [inPars] at h
    | nil =>
      simp only [inPars, Option.some.injEq, Prod.mk.injEq] at h
      exact ⟨h.2.1.symm, h.2.2.2.symm⟩
  | p :: l, as, x, own, lent, back, hf, h => by
    simp only [List.all_cons, Bool.and_eq_true] at hf
    cases as with
    | nil => cases p <;> simp [inPars] at h
    | cons u as =>
      cases p with
      | val t =>
        cases u with
        | cp c =>
          simp only [inPars] at h
          split at h
          · rename_i x1 y o v' b h1 h2
            simp only [Option.some.injEq, Prod.mk.injEq] at h
            obtain ⟨_, rfl, _, rfl⟩ := h
            exact inPars_flat hf.2 h2
          · cases h
        | _ => simp [inPars] at h
      | fn fn caps =>
        cases u with
        | cp c =>
          cases c with
          | one c =>
            cases c with
            | fn f' caps' =>
              simp only [inPars] at h
              cases hb : (fn == f' && caps == caps') with
              | false => rw [hb] at h; cases h
              | true =>
                rw [hb] at h
                simp only [cond_true, Option.map_eq_some_iff] at h
                obtain ⟨⟨y, o, v', b⟩, h2, e⟩ := h
                simp only [Prod.mk.injEq] at e
                obtain ⟨_, rfl, _, rfl⟩ := e
                exact inPars_flat hf.2 h2
            | _ => simp [inPars] at h
          | agg _ => simp [inPars] at h
        | _ => simp [inPars] at h
      | own _ _ _ => cases hf.1
      | box _ _ _ => cases hf.1
      | agg _ => cases hf.1
theorem Le.inPars (hle : Le s s1 T) : ∀ {l : List Par} {as : List AVal}, l.all flatPar = true → (∀ a ∈ as, ∀ c ∈ a.cells, OkC s c) → inPars s1 l as = inPars s l as
  | [], as, _, _ => by cases as <;> rfl
  | p :: l, as, hf, hc => by
    simp only [List.all_cons, Bool.and_eq_true] at hf
    cases as with
    | nil => cases p <;> rfl
    | cons u as =>
      have ih := Le.inPars hle (l := l) (as := as) hf.2 fun a ha => hc a (List.mem_cons_of_mem _ ha)
      cases p with
      | val t =>
        cases u with
        | cp c =>
          have hr := hle.read (t := t) (l := c.cells) (hc _ List.mem_cons_self)
          simp only [Vc.inPars, hr, ih]
        | _ => rfl
      | fn fn caps =>
        cases u with
        | cp c =>
          cases c with
          | one c => cases c <;> first | rfl | simp only [Vc.inPars, ih]
          | agg _ => rfl
        | _ => rfl
      | own _ _ _ => cases hf.1
      | box _ _ _ => cases hf.1
      | agg _ => cases hf.1
theorem Closed.opnds (hc : Closed s) : ∀ {l : List Operand} {ts : List TypeId} {as : List AVal}, opnds E s l ts = some as → ∀ a ∈ as, ∀ c ∈ a.cells, OkC s c
  | [], ts, as, h => by obtain rfl := Option.some.inj h; intro a ha; cases ha
  | x :: l, ts, as, h => by
    unfold Vc.opnds at h
    split at h
    · rename_i v vs h1 h2
      obtain rfl := Option.some.inj h
      intro a ha
      rcases List.mem_cons.1 ha with rfl | ha
      · exact hc.opnd h1
      · exact Closed.opnds hc h2 a ha
    · cases h
theorem Closed.callee (hc : Closed s) {c : Go.Call} {f : FuncId} {as : List AVal} (h : callee E s c = some (f, as)) : ∀ a ∈ as, ∀ c ∈ a.cells, OkC s c := by
  unfold Vc.callee at h
  split at h
  · split at h
    · rename_i f' caps as0 hcell hops
      simp only [Option.some.injEq, Prod.mk.injEq] at h
      obtain ⟨_, rfl⟩ := h
      have hk := hc.cell hcell
      intro a ha
      rcases List.mem_append.1 ha with ha | ha
      · exact hc.opnds hops a ha
      · obtain ⟨b, hb, rfl⟩ := List.mem_map.1 ha
        intro c hcm
        obtain rfl := List.mem_singleton.1 hcm
        exact ⟨fun r hr => (by cases hr), fun b' o e => (by injection e with e _; rw [← e]; exact hk.2.2 _ _ rfl b hb), fun f caps e => (by cases e)⟩
    · cases h
  · cases h
theorem Le.callee (hle : Le s s1 T) {c : Go.Call} (hT : ∀ x ∈ c.operands, ∀ u, x = .tmp u → T u) : callee E s1 c = callee E s c := by
  obtain ⟨cl, args, ats⟩ := c
  cases cl with
  | value x =>
    have h1 := hle.opnd (E := E) (t := 0) (hT x (by simp [Call.operands]))
    have h2 := hle.opnds (E := E) (l := args.toList) (ts := ats.toList) (fun y hy => hT y (by simp only [Call.operands]; simp; exact .inr (Array.mem_toList_iff.1 hy)))
    simp only [Vc.callee, h1, h2]
  | _ => rfl
/-- Quiet in the one, quiet in the other. -/
theorem Le.quiet (hle : Le s s1 T) (hc : Closed s) (hT : ∀ x ∈ o.op.operands, ∀ u, x = .tmp u → T u) : quiet V s1 o = quiet V s o := by
  unfold Vc.quiet
  split
  all_goals first | rfl | skip
  · rename_i t x ho
    rw [ho] at hT
    have ex := hle.opnd (E := V.E) (t := 0) (hT x (by simp [Op.operands]))
    rw [ex]
    split
    · rename_i u r i off hu hcell
      rw [hle.regE ((hc.cell hcell).1 r rfl)]
    · rfl
    · rfl
  · rename_i c ho
    rw [ho] at hT
    have hcal := hle.callee (E := V.E) (c := c) hT
    split <;> first | rfl | rw [hcal]
theorem ready_flat {g : Sig} (hv : g.hasView = false) (lent : List Nat) (s : St) : ready g s [] lent [] = s := by
  unfold ready
  rw [hv]
  rfl
theorem after_flat {g : Sig} (hf : flatSig g = true) (hlen : resLen g.res ≤ 1000) (d : Option Tmp) (as : List AVal) (r : g.ans) : ∃ v L, (∀ s, after g d s as r = (Delta.mk (dl d v) [] L).app s) ∧ ∀ p ∈ L, ∃ i, i < 1000 ∧ p.1 = callLab (dstOr d) i := by
  obtain ⟨L, cs, j', h1, _, _, h4⟩ := newComps_delta (dstOr d) g.res 0 r.1
  refine ⟨avalOf cs, L, fun s => ?_, fun p hp => ?_⟩
  · unfold after
    simp only [h1, newPars_flat g.pars as j' r.2 _ (flatSig_of hf).2]
    cases d <;> rfl
  · obtain ⟨i, _, b, c⟩ := h4 p hp
    exact ⟨i, by omega, c⟩
theorem call_frame (hle : Le s s1 T) (hc : Closed s) (hcall : isCall o = true) (hq : quiet V s o = true) (hsig : ∀ i, resLen (V.sig i).res ≤ 1000) (hT : ∀ x ∈ o.op.operands, ∀ u, x = .tmp u → T u) (hlab : labsFree (dstOr o.dst) s1 = labsFree (dstOr o.dst) s) :
    (∀ s', Does V rf s o s' → ∃ D, s' = D.app s ∧ Does V rf s1 o (D.app s1) ∧ Own s o D) ∧ ∀ s', Does V rf s1 o s' → ∃ D, s' = D.app s1 ∧ Does V rf s o (D.app s) ∧ Own s o D := by
  have flat : ∀ {c : Go.Call} {f as ci g}, o.op = .call c → callee V.E s c = some (f, as) → find V.S f as 0 = some (ci, g) → flatSig (V.sig ci) = true := by
    intro c f as ci g ho hcal hfind
    unfold quiet at hq
    simp only [ho] at hq
    obtain ⟨cl, args, ats⟩ := c
    cases cl with
    | builtin b => unfold isCall at hcall; rw [ho] at hcall; cases hcall
    | value x => simp only [hcal, hfind] at hq; exact hq
    | invoke x n => cases hcal
  have own : ∀ {v : AVal} {L : List (Nat × Reg)}, (∀ p ∈ L, ∃ i, i < 1000 ∧ p.1 = callLab (dstOr o.dst) i) → labsFree (dstOr o.dst) s = true → Own s o ⟨dl o.dst v, [], L⟩ := by
    intro v L hL hl
    refine ⟨(dl_own s o v).tmps, fun x hx => (by cases hx), fun x hx => ?_⟩
    obtain ⟨i, hi, e⟩ := hL x hx
    exact ⟨.inr ⟨hcall, i, hi, e⟩, by rw [e]; exact labs_free hl i (Nat.zero_le _) hi⟩
  constructor
  · intro s' hs
    cases hs with
    | op h0 _ => rw [h0] at hcall; cases hcall
    | @call c f as ci g x own_ lent back r ho _ hcal hfind hin hchk hr =>
      have hf := flat ho hcal hfind
      obtain ⟨hv, hp⟩ := flatSig_of hf
      obtain ⟨rfl, rfl⟩ := inPars_flat hp hin
      rw [ho] at hT
      have hcal1 : callee V.E s1 c = some (f, as) := (hle.callee hT).trans hcal
      have hin1 : inPars s1 (V.sig ci).pars as = some (x, [], lent, []) := (hle.inPars hp (hc.callee hcal)).trans hin
      obtain ⟨v, L, ha, hL⟩ := after_flat hf (hsig ci) o.dst as r
      rw [ready_flat hv] at hchk ⊢
      have hchk1 := hchk
      simp only [Bool.and_eq_true] at hchk1
      refine ⟨⟨dl o.dst v, [], L⟩, ha s, ?_, own hL hchk1.2⟩
      have := Does.call (rf := rf) (s := s1) ho hcall hcal1 hfind hin1 (by rw [ready_flat hv]; rw [hlab]; exact hchk) hr
      rw [ready_flat hv, ha] at this
      exact this
  · intro s' hs
    cases hs with
    | op h0 _ => rw [h0] at hcall; cases hcall
    | @call c f as ci g x own_ lent back r ho _ hcal1 hfind hin1 hchk hr =>
      rw [ho] at hT
      have hcal : callee V.E s c = some (f, as) := (hle.callee hT).symm.trans hcal1
      have hf := flat ho hcal hfind
      obtain ⟨hv, hp⟩ := flatSig_of hf
      obtain ⟨rfl, rfl⟩ := inPars_flat hp hin1
      have hin : inPars s (V.sig ci).pars as = some (x, [], lent, []) := (hle.inPars hp (hc.callee hcal)).symm.trans hin1
      obtain ⟨v, L, ha, hL⟩ := after_flat hf (hsig ci) o.dst as r
      rw [ready_flat hv] at hchk ⊢
      rw [hlab] at hchk
      have hchk1 := hchk
      simp only [Bool.and_eq_true] at hchk1
      refine ⟨⟨dl o.dst v, [], L⟩, ha s1, ?_, own hL hchk1.2⟩
      have := Does.call (rf := rf) (s := s) ho hcall hcal hfind hin (by rw [ready_flat hv]; exact hchk) hr
      rw [ready_flat hv, ha] at this
      exact this
/-- A quiet operation does the same where more is told. -/
theorem quiet_does (hle : Le s s1 T) (hc : Closed s) (hq : quiet V s o = true) (hsig : ∀ i, resLen (V.sig i).res ≤ 1000) (hT : ∀ x ∈ o.op.operands, ∀ u, x = .tmp u → T u) (hlab : isCall o = true → labsFree (dstOr o.dst) s1 = labsFree (dstOr o.dst) s)
    (hb : ∀ d, o.dst = some d → get s1.boxes d = get s.boxes d) (hr : ∀ d, o.dst = some d → s1.reg (siteLab d) = s.reg (siteLab d)) :
    (∀ s', Does V rf s o s' → ∃ D, s' = D.app s ∧ Does V rf s1 o (D.app s1) ∧ Own s o D) ∧ ∀ s', Does V rf s1 o s' → ∃ D, s' = D.app s1 ∧ Does V rf s o (D.app s) ∧ Own s o D := by
  cases hcall : isCall o with
  | true => exact call_frame hle hc hcall hq hsig hT (hlab hcall)
  | false =>
    have fin : Par2 s s1 o (astep V.E V.H s o) (astep V.E V.H s1 o) → (∀ s', Does V rf s o s' → ∃ D, s' = D.app s ∧ Does V rf s1 o (D.app s1) ∧ Own s o D) ∧ ∀ s', Does V rf s1 o s' → ∃ D, s' = D.app s1 ∧ Does V rf s o (D.app s) ∧ Own s o D := fun hp => by
      obtain ⟨res, e1, e2, e3⟩ := hp
      refine ⟨fun s' hs => ?_, fun s' hs => ?_⟩
      · cases hs with
        | call _ h0 => rw [h0] at hcall; cases hcall
        | op _ hs =>
          cases res with
          | none => rw [e1] at hs; cases hs
          | some p =>
            obtain ⟨q, D⟩ := p
            rw [e1] at hs
            simp only [Option.map_some, Option.some.injEq, Prod.mk.injEq] at hs
            obtain ⟨rfl, rfl⟩ := hs
            exact ⟨D, rfl, .op hcall e2, e3 _ rfl⟩
      · cases hs with
        | call _ h0 => rw [h0] at hcall; cases hcall
        | op _ hs =>
          cases res with
          | none => rw [e2] at hs; cases hs
          | some p =>
            obtain ⟨q, D⟩ := p
            rw [e2] at hs
            simp only [Option.map_some, Option.some.injEq, Prod.mk.injEq] at hs
            obtain ⟨rfl, rfl⟩ := hs
            exact ⟨D, rfl, .op hcall e1, e3 _ rfl⟩
    refine fin ?_
    cases ho : o.op with
    | move x => exact par_one (c := x) (y := x) hle hc (.inl (.inl ho)) hT
    | assign x => exact par_one (c := x) (y := x) hle hc (.inl (.inr ho)) hT
    | pick c x y => exact par_one hle hc (.inr ho) hT
    | alloc t => exact par_new (x := .global 0) hle hc hb (.inl ho) hT
    | box t x => exact par_new hle hc hb (.inr ho) hT
    | build t ps => exact par_build hle hc ho hT
    | buildSlice t n ps =>
      refine par_buildSlice hle hc hr ho (fun e u hu => ?_) hT
      unfold quiet at hq
      simp only [ho, hu] at hq
      simpa using hq
    | load t x =>
      refine par_load hle hc ho (fun u r i off g hu hcell hg => ?_) hT
      unfold quiet at hq
      simp only [ho, hu, hcell, hg] at hq
      simpa only [Bool.not_eq_true'] using hq
    | nilCheck x => exact par_local (t := 0) (t' := 0) (x := x) (y := x) (op := .neg) (f := 0) hle hc (.inl ho) hT
    | unOp op t x => exact par_local (t := t) (t' := 0) (x := x) (y := x) (op := op) (f := 0) hle hc (.inr (.inl ho)) hT
    | convert t t' x => exact par_local (t := t) (t' := t') (x := x) (y := x) (op := .neg) (f := 0) hle hc (.inr (.inr (.inl ho))) hT
    | fieldAddr t x f => exact par_local (t := t) (t' := 0) (x := x) (y := x) (op := .neg) (f := f) hle hc (.inr (.inr (.inr (.inl ho)))) hT
    | field t x f => exact par_local (t := t) (t' := 0) (x := x) (y := x) (op := .neg) (f := f) hle hc (.inr (.inr (.inr (.inr (.inl ho))))) hT
    | index t x y => exact par_local (t := t) (t' := 0) (x := x) (y := y) (op := .neg) (f := 0) hle hc (.inr (.inr (.inr (.inr (.inr (.inl ho)))))) hT
    | extract x f => exact par_local (t := 0) (t' := 0) (x := x) (y := x) (op := .neg) (f := f) hle hc (.inr (.inr (.inr (.inr (.inr (.inr ho)))))) hT
    | binOp op t x y ty => exact par_binOp hle hc ho hT
    | makeSlice t l c => exact par_makeSlice hle hc hr ho hT
    | slice t x lo hi mx =>
      cases mx with
      | none => exact par_slice hle hc ho hT
      | some m => unfold quiet at hq; simp only [ho] at hq; cases hq
    | indexAddr t x i => exact par_indexAddr hle hc ho hT
    | makeFunc f first caps => exact par_makeFunc hle hc ho hT
    | call c =>
      obtain ⟨cl, args, ats⟩ := c
      cases cl with
      | builtin b =>
        cases b with
        | len => exact par_builtin hle hc (.inl rfl) ho hT
        | min => exact par_builtin hle hc (.inr (.inl rfl)) ho hT
        | max => exact par_builtin hle hc (.inr (.inr rfl)) ho hT
        | _ => unfold quiet at hq; simp only [ho] at hq; cases hq
      | _ => unfold isCall at hcall; rw [ho] at hcall; cases hcall
    | _ => unfold quiet at hq; simp only [ho] at hq; cases hq

/-! ### stores and appends beside moves -/
theorem mapv_ins {α β : Type} (f : α → β) (n : Nat) (x : α) : ∀ l : List (Nat × α), mapv f (ins n x l) = ins n (f x) (mapv f l)
  | [] => rfl
  | (k, v) :: l => by
    simp only [ins, mapv]
    cases Nat.blt n k with
    | true => rfl
    | false =>
      cases (n == k) with
      | true => rfl
      | false => simp only [cond_false, mapv, mapv_ins f n x l]
theorem map_put (f : Cell → Cell) (s : St) (d : Tmp) (v : AVal) : (s.put (some d) v).map f = (s.map f).put (some d) (v.map f) := by
  show St.mk (mapv _ (ins d v s.tmps)) _ _ = St.mk (ins d _ (mapv _ s.tmps)) _ _
  rw [mapv_ins]; rfl
theorem drop_same (r : Nat) (s : St) (d : Tmp) (v : AVal) : Cell.drop (s.put (some d) v) r = Cell.drop s r := funext fun c => by cases c <;> rfl
theorem drop_put (r : Nat) (s : St) (d : Tmp) (v : AVal) : (s.put (some d) v).drop r = (s.drop r).put (some d) (v.map (Cell.drop s r)) := by
  unfold St.drop
  rw [drop_same, map_put]; rfl
def drops : List Nat → St → Cell → Cell
  | [], _, c => c
  | r :: l, s, c => drops l (s.drop r) (Cell.drop s r c)
theorem dropAll_put : ∀ (l : List Nat) (s : St) (d : Tmp) (v : AVal), dropAll l (s.put (some d) v) = (dropAll l s).put (some d) (v.map (drops l s))
  | [], s, d, v => by
    show s.put (some d) v = s.put (some d) (v.map id)
    rw [AVal.map_id]
  | r :: l, s, d, v => by
    show dropAll l ((s.put (some d) v).drop r) = (dropAll l (s.drop r)).put (some d) (v.map (drops (r :: l) s))
    rw [drop_put, dropAll_put l, AVal.map_map]; rfl
theorem drop_fix {s : St} {r : Nat} {c : Cell} (h : c.of = none) : Cell.drop s r c = c := by unfold Cell.drop; rw [h]
theorem drops_fix : ∀ (l : List Nat) (s : St) {c : Cell}, c.of = none → drops l s c = c
  | [], s, c, _ => rfl
  | r :: l, s, c, h => by show drops l (s.drop r) (Cell.drop s r c) = c; rw [drop_fix h]; exact drops_fix l _ h
theorem noInn_fix {r : Nat} {c : Cell} (h : c.of = none) : noInn r c = c := by cases c <;> first | rfl | cases h
theorem put_put {s : St} {d e : Tmp} {v u : AVal} (h : e ≠ d) : (s.put (some d) v).put (some e) u = (s.put (some e) u).put (some d) v := by
  show St.mk (ins e u (ins d v s.tmps)) _ _ = St.mk (ins d v (ins e u s.tmps)) _ _
  rw [ins_comm' (.inl h)]; rfl
theorem put_putO {s : St} {d : Tmp} {e : Option Tmp} {v u : AVal} (h : e ≠ some d) : (s.put (some d) v).put e u = (s.put e u).put (some d) v := by
  cases e with
  | none => rfl
  | some e => exact put_put fun e' => h (by rw [e'])
theorem dropAll_tmps : ∀ (l : List Nat) (s : St) (t : Tmp), get (dropAll l s).tmps t = (get s.tmps t).map (AVal.map (drops l s))
  | [], s, t => by
    show get s.tmps t = (get s.tmps t).map (AVal.map id)
    cases get s.tmps t with
    | none => rfl
    | some v => simp [AVal.map_id]
  | r :: l, s, t => by
    show get (dropAll l (s.drop r)).tmps t = _
    rw [dropAll_tmps l]
    show (get (mapv (AVal.map (Cell.drop s r)) s.tmps) t).map _ = _
    rw [get_mapv, Option.map_map]
    congr 1
    funext v
    exact AVal.map_map _ _ v
theorem get_putO {s : St} {d : Option Tmp} {v : AVal} {t : Tmp} (h : d ≠ some t) : get (s.put d v).tmps t = get s.tmps t := by
  cases d with
  | none => rfl
  | some d =>
    show get (ins d v s.tmps) t = _
    rw [get_ins, if_neg fun e => h (by rw [e])]
theorem mapv_idB : ∀ l : List (Nat × Box), mapv (fun x : Box => { x with cells := x.cells }) l = l
  | [] => rfl
  | (k, b) :: l => by simp only [mapv]; rw [mapv_idB l]
/-- Beside one more slot the same is done, and the slot's cells go along. -/
def W2 (B : Bool) (s : St) (o : Oper) (d : Tmp) (v : AVal) (X Y : Out) : Prop :=
  ∃ f : Cell → Cell, (∀ c, c.of = none → f c = c) ∧ (∀ q s', X = some (q, s') → ∀ t, o.dst ≠ some t → get s'.tmps t = (get s.tmps t).map (AVal.map f)) ∧ Y = (X.map fun p => (p.1, p.2.put (some d) (v.map f))) ∧
    (∀ c b o', f c = .ptr b o' → c = .ptr b o') ∧ (B = true → ∀ q s', X = some (q, s') → ∀ b, get s'.boxes b = (get s.boxes b).map fun x => { x with cells := x.cells.map f })
variable {d : Tmp} {v : AVal}
theorem W2.nil {B : Bool} : W2 B s o d v none none := ⟨id, fun _ _ => rfl, fun q s' h => (by cases h), rfl, fun _ _ _ h => h, fun _ q s' h => (by cases h)⟩
theorem drop_ptr {s : St} {r b o : Nat} {c : Cell} (h : Cell.drop s r c = .ptr b o) : c = .ptr b o := by
  unfold Cell.drop at h
  split at h
  · rename_i q hq
    cases hb : (q == r) with
    | true =>
      rw [hb] at h
      simp only [cond_true] at h
      split at h
      · split at h <;> cases h
      · cases h
    | false => rw [hb] at h; exact h
  · exact h
theorem drops_ptr : ∀ (l : List Nat) (s : St) {c : Cell} {b o : Nat}, drops l s c = .ptr b o → c = .ptr b o
  | [], s, c, b, o, h => h
  | r :: l, s, c, b, o, h => drop_ptr (drops_ptr l _ (c := Cell.drop s r c) h)
theorem noInn_ptr {r b o : Nat} {c : Cell} (h : noInn r c = .ptr b o) : c = .ptr b o := by
  cases c with
  | inn q i off e t =>
    simp only [noInn] at h
    cases hb : (q == r) with
    | true => rw [hb] at h; cases h
    | false => rw [hb] at h; cases h
  | _ => exact h
theorem dropAll_boxes : ∀ (l : List Nat) (s : St) (b : Nat), get (dropAll l s).boxes b = (get s.boxes b).map fun x => { x with cells := x.cells.map (drops l s) }
  | [], s, b => by
    show get s.boxes b = (get s.boxes b).map fun x => { x with cells := x.cells.map id }
    cases get s.boxes b with
    | none => rfl
    | some x => simp
  | r :: l, s, b => by
    show get (dropAll l (s.drop r)).boxes b = _
    rw [dropAll_boxes l]
    show (get (mapv (fun x : Box => { x with cells := x.cells.map (Cell.drop s r) }) s.boxes) b).map _ = _
    rw [get_mapv, Option.map_map]
    congr 1
    funext x
    simp only [Function.comp_def, List.map_map]
    rfl
theorem map_idO {x : Option AVal} : x.map (AVal.map id) = x := by
  cases x with
  | none => rfl
  | some v => simp [AVal.map_id]
theorem put_opnd {t : TypeId} {x : Operand} (h : x ≠ .tmp d) : (s.put (some d) v).opnd E t x = s.opnd E t x := by
  cases x with
  | tmp n =>
    have : get (s.put (some d) v).tmps n = get s.tmps n := get_putO (d := some d) fun e => h (by rw [Option.some.inj e])
    simp only [St.opnd, this]
  | _ => rfl
theorem put_slice {c : Cell} : (s.put (some d) v).slice c = s.slice c := by cases c <;> rfl
theorem put_read {t : Ty} {l : List Cell} : (s.put (some d) v).read t l = s.read t l := read_congr fun c _ => put_slice
theorem put_reg {r : Nat} : (s.put (some d) v).reg r = s.reg r := rfl
theorem put_boxes : (s.put (some d) v).boxes = s.boxes := rfl
theorem w2_store {t : TypeId} {a x : Operand} (ho : o.op = .store t a x) (hT : ∀ y ∈ o.op.operands, y ≠ .tmp d) : W2 false s o d v (astep E H s o) (astep E H (s.put (some d) v) o) := by
  rw [ho] at hT
  have ea := fun t => put_opnd (s := s) (E := E) (v := v) (t := t) (hT a (by simp [Op.operands]))
  have ex := fun t => put_opnd (s := s) (E := E) (v := v) (t := t) (hT x (by simp [Op.operands]))
  unfold astep
  simp only [ho, ea, ex, put_read, put_reg, put_boxes]
  split
  · rename_i u p new hu hp hn
    cases (new.length == u.size && o.dst.isNone) with
    | false => exact .nil
    | true =>
      simp only [cond_true]
      split
      · rename_i b off
        split
        · rename_i bx hb
          cases (Nat.ble (off + u.size) bx.cells.length) with
          | false => exact .nil
          | true =>
            refine ⟨id, fun _ _ => rfl, fun q s' h t _ => ?_, ?_, fun _ _ _ h => h, fun e => by cases e⟩
            · simp only [cond_true, Option.some.injEq, Prod.mk.injEq] at h
              obtain ⟨_, rfl⟩ := h
              rw [map_idO]; rfl
            · rw [AVal.map_id]; rfl
        · exact .nil
      · rename_i r i off
        split
        · rename_i g hg
          cases (!(Nat.ble (off + u.size) g.t.size)) with
          | true => exact .nil
          | false =>
            simp only [cond_false]
            cases (!g.t.deep) with
            | true =>
              simp only [cond_true]
              split
              · rename_i y hy
                refine ⟨noInn r, fun _ h => noInn_fix h, fun q s' h t _ => ?_, ?_, fun _ _ _ h => noInn_ptr h, fun e => by cases e⟩
                · simp only [Option.some.injEq, Prod.mk.injEq] at h
                  obtain ⟨_, rfl⟩ := h
                  exact get_mapv _ _ _
                · simp only [Option.map_some, map_put]; rfl
              · exact .nil
            | false =>
              simp only [cond_false]
              split
              · rename_i gv y hgv hy
                cases (nodup gv && !(gv.contains r)) with
                | false => exact .nil
                | true =>
                  refine ⟨fun c => noInn r (drops gv s c), fun c h => by show noInn r (drops gv s c) = c; rw [drops_fix gv s h]; exact noInn_fix h, fun q s' h t _ => ?_, ?_, fun _ _ _ h => drops_ptr gv s (noInn_ptr h), fun e => by cases e⟩
                  · simp only [cond_true, Option.some.injEq, Prod.mk.injEq] at h
                    obtain ⟨_, rfl⟩ := h
                    show get (mapv (AVal.map (noInn r)) (dropAll gv s).tmps) t = _
                    rw [get_mapv, dropAll_tmps, Option.map_map]
                    congr 1
                    funext v
                    exact AVal.map_map _ _ v
                  · simp only [cond_true, Option.map_some, dropAll_put, map_put, AVal.map_map]; rfl
              · exact .nil
        · exact .nil
      · exact .nil
  · exact .nil
theorem put_boxesO {s : St} {d : Option Tmp} {v : AVal} : (s.put d v).boxes = s.boxes := by cases d <;> rfl
theorem w2_append {as : Array Operand} {ts : Array TypeId} (ho : o.op = .call { callee := .builtin .append, args := as, argTypes := ts }) (hT : ∀ y ∈ o.op.operands, y ≠ .tmp d) (hd : o.dst ≠ some d) : W2 true s o d v (astep E H s o) (astep E H (s.put (some d) v) o) := by
  rw [ho] at hT
  have hm : ∀ x ∈ as.toList, x ≠ .tmp d := fun x hx => hT x (by simp only [Op.operands, Call.operands]; first | exact Array.mem_toList_iff.1 hx | (simp; exact Array.mem_toList_iff.1 hx))
  unfold astep
  simp only [ho]
  split
  · rename_i x y t t' has hts
    have ex := fun t => put_opnd (s := s) (E := E) (v := v) (t := t) (hm x (by rw [has]; simp))
    have ey := fun t => put_opnd (s := s) (E := E) (v := v) (t := t) (hm y (by rw [has]; simp))
    simp only [ex, ey]
    split
    · rename_i cx cy hcx hcy
      cases (t == t') with
      | false => exact .nil
      | true =>
        simp only [cond_true]
        unfold append
        simp only [put_slice, put_reg]
        split
        · rename_i dd e u xs e' u' ys hdd hsx hsy
          split
          · rename_i ys' ti hcast hti
            split
            · rename_i gv hgv
              cases cx with
              | nil e0 t0 =>
                cases hsm : (s.reg (siteLab dd)).isSome with
                | true => simp only [hsm, cond_true]; exact .nil
                | false =>
                  simp only [hsm, cond_false]
                  refine ⟨drops gv s, fun _ h => drops_fix gv s h, fun q s' h t ht => ?_, ?_, fun _ _ _ h => drops_ptr gv s h, fun _ q s' h b => ?_⟩
                  · simp only [Option.some.injEq, Prod.mk.injEq] at h
                    obtain ⟨_, rfl⟩ := h
                    rw [get_putO ht]
                    exact dropAll_tmps gv s t
                  · simp only [Option.map_some, dropAll_put]
                    rw [show ∀ S : St, (S.put (some d) (v.map (drops gv s))).setReg (siteLab dd) ⟨e, u, lapp xs ys', 0⟩ = (S.setReg (siteLab dd) ⟨e, u, lapp xs ys', 0⟩).put (some d) (v.map (drops gv s)) from fun _ => rfl, put_putO hd]
                  · simp only [Option.some.injEq, Prod.mk.injEq] at h
                    obtain ⟨_, rfl⟩ := h
                    rw [put_boxesO]
                    exact dropAll_boxes gv s b
              | own r =>
                cases hct : gv.contains r with
                | true => simp only [hct, cond_true]; exact .nil
                | false =>
                  simp only [hct, cond_false]
                  refine ⟨fun c => Cell.drop (dropAll gv s) r (drops gv s c), fun c h => by show Cell.drop (dropAll gv s) r (drops gv s c) = c; rw [drops_fix gv s h]; exact drop_fix h, fun q s' h t ht => ?_, ?_, fun _ _ _ h => drops_ptr gv s (drop_ptr h), fun _ q s' h b => ?_⟩
                  · simp only [Option.some.injEq, Prod.mk.injEq] at h
                    obtain ⟨_, rfl⟩ := h
                    rw [get_putO ht]
                    show get (mapv (AVal.map (Cell.drop (dropAll gv s) r)) (dropAll gv s).tmps) t = _
                    rw [get_mapv, dropAll_tmps, Option.map_map]
                    congr 1
                    funext v
                    exact AVal.map_map _ _ v
                  · simp only [Option.map_some, dropAll_put, drop_put, AVal.map_map]
                    rw [show ∀ (S : St) (w : AVal), (S.put (some d) w).setReg r ⟨e, u, lapp xs ys', 0⟩ = (S.setReg r ⟨e, u, lapp xs ys', 0⟩).put (some d) w from fun _ _ => rfl, put_putO hd]
                  · simp only [Option.some.injEq, Prod.mk.injEq] at h
                    obtain ⟨_, rfl⟩ := h
                    rw [put_boxesO]
                    show get (mapv (fun x : Box => { x with cells := x.cells.map (Cell.drop (dropAll gv s) r) }) (dropAll gv s).boxes) b = _
                    rw [get_mapv, dropAll_boxes, Option.map_map]
                    congr 1
                    funext x
                    simp only [Function.comp_def, List.map_map]
              | sub r z lo n =>
                cases z with
                | false => exact .nil
                | true =>
                  cases hct : gv.contains r with
                  | true => simp only [hct, cond_true]; exact .nil
                  | false =>
                    simp only [hct, cond_false]
                    refine ⟨fun c => Cell.drop (dropAll gv s) r (drops gv s c), fun c h => by show Cell.drop (dropAll gv s) r (drops gv s c) = c; rw [drops_fix gv s h]; exact drop_fix h, fun q s' h t ht => ?_, ?_, fun _ _ _ h => drops_ptr gv s (drop_ptr h), fun _ q s' h b => ?_⟩
                    · simp only [Option.some.injEq, Prod.mk.injEq] at h
                      obtain ⟨_, rfl⟩ := h
                      rw [get_putO ht]
                      show get (mapv (AVal.map (Cell.drop (dropAll gv s) r)) (dropAll gv s).tmps) t = _
                      rw [get_mapv, dropAll_tmps, Option.map_map]
                      congr 1
                      funext v
                      exact AVal.map_map _ _ v
                    · simp only [Option.map_some, dropAll_put, drop_put, AVal.map_map]
                      rw [show ∀ (S : St) (w : AVal), (S.put (some d) w).setReg r ⟨e, u, lapp xs ys', 0⟩ = (S.setReg r ⟨e, u, lapp xs ys', 0⟩).put (some d) w from fun _ _ => rfl, put_putO hd]
                    · simp only [Option.some.injEq, Prod.mk.injEq] at h
                      obtain ⟨_, rfl⟩ := h
                      rw [put_boxesO]
                      show get (mapv (fun x : Box => { x with cells := x.cells.map (Cell.drop (dropAll gv s) r) }) (dropAll gv s).boxes) b = _
                      rw [get_mapv, dropAll_boxes, Option.map_map]
                      congr 1
                      funext x
                      simp only [Function.comp_def, List.map_map]
              | _ => exact .nil
            · exact .nil
          · exact .nil
        · exact .nil
    · exact .nil
  · exact .nil
def stillF (s : St) (r : Nat) (c : Cell) : Cell := bif (s.reg r).isSome then Cell.still s r c else c
def stills : List Nat → St → Cell → Cell
  | [], _, c => c
  | r :: l, s, c => stills l (stillOne s r) (stillF s r c)
theorem stillF_fix {s : St} {r : Nat} {c : Cell} (h : c.of = none) : stillF s r c = c := by
  unfold stillF Cell.still
  rw [h]
  cases (s.reg r).isSome <;> rfl
theorem stills_fix : ∀ (l : List Nat) (s : St) {c : Cell}, c.of = none → stills l s c = c
  | [], s, c, _ => rfl
  | r :: l, s, c, h => by show stills l _ (stillF s r c) = c; rw [stillF_fix h]; exact stills_fix l _ h
theorem stillF_ptr {s : St} {r b o : Nat} {c : Cell} (h : stillF s r c = .ptr b o) : c = .ptr b o := by
  unfold stillF at h
  cases hs : (s.reg r).isSome with
  | false => rw [hs] at h; exact h
  | true =>
    rw [hs] at h
    simp only [cond_true] at h
    unfold Cell.still at h
    split at h
    · rename_i q hq
      cases hb : (q == r) with
      | false => rw [hb] at h; exact h
      | true =>
        rw [hb] at h
        simp only [cond_true] at h
        split at h
        · split at h <;> cases h
        · split at h <;> cases h
    · exact h
theorem stills_ptr : ∀ (l : List Nat) (s : St) {c : Cell} {b o : Nat}, stills l s c = .ptr b o → c = .ptr b o
  | [], s, c, b, o, h => h
  | r :: l, s, c, b, o, h => stillF_ptr (stills_ptr l _ (c := stillF s r c) h)
theorem still_put {r : Nat} {c : Cell} : Cell.still (s.put (some d) v) r c = Cell.still s r c := by cases c <;> rfl
theorem stillOne_map (s : St) (r : Nat) : (stillOne s r).tmps = mapv (AVal.map (stillF s r)) s.tmps ∧ (stillOne s r).boxes = mapv (fun x => { x with cells := x.cells.map (stillF s r) }) s.boxes := by
  cases h : (s.reg r).isSome with
  | true =>
    have e : stillF s r = Cell.still s r := by funext c; unfold stillF; rw [h]; rfl
    unfold stillOne
    rw [h, e]
    exact ⟨rfl, rfl⟩
  | false =>
    have e : stillF s r = id := by funext c; unfold stillF; rw [h]; rfl
    unfold stillOne
    rw [h, e]
    refine ⟨?_, ?_⟩
    · simp only [cond_false]; exact mapv_id.symm
    · simp only [cond_false, List.map_id]
      exact (mapv_idB s.boxes).symm
theorem stillOne_put (r : Nat) : stillOne (s.put (some d) v) r = (stillOne s r).put (some d) (v.map (stillF s r)) := by
  unfold stillOne
  rw [put_reg]
  cases h : (s.reg r).isSome with
  | true =>
    have e : stillF s r = Cell.still s r := by funext c; unfold stillF; rw [h]; rfl
    have e2 : Cell.still (s.put (some d) v) r = Cell.still s r := funext fun c => still_put
    simp only [cond_true]
    unfold St.still
    rw [e2, map_put, e]; rfl
  | false =>
    have e : stillF s r = id := by funext c; unfold stillF; rw [h]; rfl
    simp only [cond_false]
    rw [e, AVal.map_id]
theorem stillAll_put : ∀ (l : List Nat) (s : St) (v : AVal), stillAll l (s.put (some d) v) = (stillAll l s).put (some d) (v.map (stills l s))
  | [], s, v => by
    show s.put (some d) v = s.put (some d) (v.map id)
    rw [AVal.map_id]
  | r :: l, s, v => by
    show stillAll l (stillOne (s.put (some d) v) r) = (stillAll l (stillOne s r)).put (some d) (v.map (stills (r :: l) s))
    rw [stillOne_put, stillAll_put l, AVal.map_map]; rfl
theorem stillAll_tmps : ∀ (l : List Nat) (s : St) (t : Tmp), get (stillAll l s).tmps t = (get s.tmps t).map (AVal.map (stills l s))
  | [], s, t => map_idO.symm
  | r :: l, s, t => by
    show get (stillAll l (stillOne s r)).tmps t = _
    rw [stillAll_tmps l, (stillOne_map s r).1, get_mapv, Option.map_map]
    congr 1
    funext v
    exact AVal.map_map _ _ v
theorem stillAll_boxes : ∀ (l : List Nat) (s : St) (b : Nat), get (stillAll l s).boxes b = (get s.boxes b).map fun x => { x with cells := x.cells.map (stills l s) }
  | [], s, b => by
    show get s.boxes b = (get s.boxes b).map fun x => { x with cells := x.cells.map id }
    cases get s.boxes b with
    | none => rfl
    | some x => simp
  | r :: l, s, b => by
    show get (stillAll l (stillOne s r)).boxes b = _
    rw [stillAll_boxes l, (stillOne_map s r).2, get_mapv, Option.map_map]
    congr 1
    funext x
    simp only [Function.comp_def, List.map_map]
    rfl
theorem put_fillCells {size : Nat} {te : TypeId} : ∀ {ps : List (Nat × Operand)} {cs : List Cell}, (∀ p ∈ ps, p.2 ≠ .tmp d) → fillCells size (s.put (some d) v) E te ps cs = fillCells size s E te ps cs
  | [], cs, _ => rfl
  | (i, x) :: l, cs, hT => by
    have ih := fun cs => put_fillCells (size := size) (te := te) (ps := l) (cs := cs) fun p hp => hT p (List.mem_cons_of_mem _ hp)
    have e := put_opnd (s := s) (E := E) (v := v) (t := te) (hT (i, x) List.mem_cons_self)
    simp only [] at e
    simp only [fillCells, e, ih]
theorem put_readMany {t : Ty} : ∀ {n : Nat} {l : List Cell}, readMany (s.put (some d) v) t n l = readMany s t n l
  | 0, l => rfl
  | n + 1, l => by simp only [readMany, put_read, put_readMany (n := n)]
theorem w2_buildSlice {t : TypeId} {n : Nat} {ps : Array (Nat × Operand)} (ho : o.op = .buildSlice t n ps) (hq : ∀ e u, E.ty t = some (.sl e u) → u.deep = true) (hT : ∀ y ∈ o.op.operands, y ≠ .tmp d) (hd : o.dst ≠ some d) : W2 true s o d v (astep E H s o) (astep E H (s.put (some d) v) o) := by
  rw [ho] at hT
  have ef := fun size te cs => put_fillCells (s := s) (E := E) (v := v) (size := size) (te := te) (ps := ps.toList) (cs := cs) (fun p hp => hT p.2 (by simp only [Op.operands]; exact List.mem_toArray.2 (List.mem_map.2 ⟨p, hp, rfl⟩)))
  unfold astep
  simp only [ho, ef, put_readMany, put_reg]
  have view : ∀ (l : List Nat) (c : AVal), W2 true s o d v (some (true, (stillAll l s).put o.dst c)) (some (true, (stillAll l (s.put (some d) v)).put o.dst c)) := by
    intro l c
    refine ⟨stills l s, fun _ h => stills_fix l s h, fun q s' h t ht => ?_, ?_, fun _ _ _ h => stills_ptr l s h, fun _ q s' h b => ?_⟩
    · simp only [Option.some.injEq, Prod.mk.injEq] at h
      obtain ⟨_, rfl⟩ := h
      rw [get_putO ht]; exact stillAll_tmps l s t
    · simp only [Option.map_some, stillAll_put]
      rw [put_putO hd]
    · simp only [Option.some.injEq, Prod.mk.injEq] at h
      obtain ⟨_, rfl⟩ := h
      rw [put_boxesO]; exact stillAll_boxes l s b
  split
  · rename_i d' e u hdd hu
    split
    · rename_i cs hcs
      split
      · rename_i xs hxs
        rw [hq e u hu]
        simp only [Bool.not_true, cond_false]
        cases H.still.contains o.pos with
        | true => exact view _ _
        | false =>
          simp only [cond_false]
          split
          · rename_i gv hgv
            cases (nodup gv && !(s.reg (siteLab d')).isSome) with
            | false => exact .nil
            | true =>
              simp only [cond_true]
              refine ⟨drops gv s, fun _ h => drops_fix gv s h, fun q s' h t ht => ?_, ?_, fun _ _ _ h => drops_ptr gv s h, fun _ q s' h b => ?_⟩
              · simp only [Option.some.injEq, Prod.mk.injEq] at h
                obtain ⟨_, rfl⟩ := h
                rw [get_putO ht]; exact dropAll_tmps gv s t
              · simp only [Option.map_some, dropAll_put]
                rw [show ∀ S : St, (S.put (some d) (v.map (drops gv s))).setReg (siteLab d') ⟨e, u, xs, 0⟩ = (S.setReg (siteLab d') ⟨e, u, xs, 0⟩).put (some d) (v.map (drops gv s)) from fun _ => rfl, put_putO hd]
              · simp only [Option.some.injEq, Prod.mk.injEq] at h
                obtain ⟨_, rfl⟩ := h
                rw [put_boxesO]; exact dropAll_boxes gv s b
          · exact view _ _
      · exact .nil
    · exact .nil
  · exact .nil
theorem w2B (hw : isWildB E o = true) (hT : ∀ y ∈ o.op.operands, y ≠ .tmp d) (hd : o.dst ≠ some d) : W2 true s o d v (astep E H s o) (astep E H (s.put (some d) v) o) := by
  unfold isWildB at hw
  split at hw
  · rename_i ho
    refine w2_buildSlice ho (fun e u hu => ?_) hT hd
    rw [hu] at hw; exact hw
  · rename_i ho; exact w2_append ho hT hd
  · cases hw
theorem w2 (hw : isWild E o = true) (hT : ∀ y ∈ o.op.operands, y ≠ .tmp d) (hd : o.dst ≠ some d) : W2 (isWildB E o) s o d v (astep E H s o) (astep E H (s.put (some d) v) o) := by
  cases hB : isWildB E o with
  | true => exact w2B hB hT hd
  | false =>
    unfold isWild at hw
    rw [hB, Bool.or_false] at hw
    unfold isStore at hw
    split at hw
    · rename_i ho; exact w2_store ho hT
    · cases hw
end

end Go.Proofs.Ytigkodlbjimikaa.Vc
