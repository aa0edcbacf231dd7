/- Calls: leaving. -/
import Derived.Test.YtigkodlbjimikaaVcU
namespace Go.Proofs.Ytigkodlbjimikaa.Vc
open Go Go.RowKit
set_option linter.unusedVariables false
set_option linter.unusedSimpArgs false

/-- Flat values hang on nothing. -/
theorem VRep.flatI {I I' : Nat → Prop} {w : World} : ∀ {t : Ty} {x : t.den} {vs : List Value}, t.deep = false → VRep I w t x vs → VRep I' w t x vs
  | .int _, _, _, _, h => h
  | .bool, _, _, _, h => h
  | .str, _, _, _, h => h
  | .unit, _, _, _, h => h
  | .opq, _, _, _, h => h
  | .sl _ _, _, _, hd, _ => by cases hd
  | .pair a b, _, _, hd, h => by
    simp only [Ty.deep, Bool.or_eq_false_iff] at hd
    obtain ⟨v1, v2, e, h1, h2⟩ := h
    exact ⟨v1, v2, e, h1.flatI hd.1, h2.flatI hd.2⟩
section
variable {P : Program} {E : Env} {C : Ctx} {G : Gh} {s : St} {a : Act} {w : World}
/-- Memory that is of these regions. -/
structure FromR (G : Gh) (s : St) (o f : List Nat) : Prop where
  nodup : o.Nodup → f.Nodup
  mem : ∀ k ∈ f, ∃ r g, r ∈ o ∧ s.reg r = some g ∧ k ∈ G.fp r
theorem FromR.nil : FromR G s [] [] := ⟨fun _ => List.nodup_nil, fun _ hk => by cases hk⟩
theorem FromR.append (h : Core C G s w) {o1 o2 f1 f2 : List Nat} (h1 : FromR G s o1 f1) (h2 : FromR G s o2 f2) : FromR G s (o1 ++ o2) (f1 ++ f2) := by
  refine ⟨fun hn => ?_, fun k hk => ?_⟩
  · obtain ⟨n1, n2, n3⟩ := List.nodup_append.1 hn
    refine List.nodup_append.2 ⟨h1.nodup n1, h2.nodup n2, fun k hk k' hk' e => ?_⟩
    subst e
    obtain ⟨r, g, hr, hg, hkr⟩ := h1.mem k hk
    obtain ⟨r', g', hr', hg', hkr'⟩ := h2.mem k hk'
    exact h.rr r r' g g' hg hg' (n3 r hr r' hr') k hkr hkr'
  · rcases List.mem_append.1 hk with hk | hk
    · obtain ⟨r, g, hr, hg, hkr⟩ := h1.mem k hk; exact ⟨r, g, List.mem_append.2 (.inl hr), hg, hkr⟩
    · obtain ⟨r, g, hr, hg, hkr⟩ := h2.mem k hk; exact ⟨r, g, List.mem_append.2 (.inr hr), hg, hkr⟩
theorem FromR.cons (h : Core C G s w) {r : Nat} {o f1 f2 : List Nat} (h1 : FromR G s [r] f1) (h2 : FromR G s o f2) : FromR G s (r :: o) (f1 ++ f2) := h1.append h h2
/-- A slice that goes out. -/
theorem own_out (h : Core C G s w) {c : Cell} {v : Value} (hc : CRep G s.reg w c v) {e : TypeId} {u : Ty} {xs : List u.den} (hs : s.slice c = some ⟨e, u, xs⟩) :
    ((∃ e' t', c = .nil e' t') → DRep w (.sl e u) xs [v] []) ∧ (∀ r, c = .own r ∨ (∃ lo n, c = .sub r true lo n) → ∃ f, DRep w (.sl e u) xs [v] f ∧ FromR G s [r] f) := by
  constructor
  · intro hn
    obtain ⟨cells, f, ho, hel, hnd, _, h0⟩ := append_x h hc hs (.inl hn)
    obtain ⟨e', t', rfl⟩ := hn
    have hz := h0 rfl
    rw [← hz]
    exact ⟨v, cells, f, rfl, ho, rfl, hel⟩
  · intro r hr
    have hof : c.of = some r := by rcases hr with rfl | ⟨lo, n, rfl⟩ <;> rfl
    obtain ⟨cells, f, ho, hel, hnd, hin, _⟩ := append_x h hc hs (hr.elim (fun e => .inr (.inl ⟨r, e⟩)) fun ⟨lo, n, e⟩ => .inr (.inr ⟨r, lo, n, e⟩))
    obtain ⟨g, hg⟩ := Option.isSome_iff_exists.1 (hc.has hof)
    exact ⟨blockOf v ++ f, ⟨v, cells, f, rfl, ho, rfl, hel⟩, fun _ => hnd, fun k hk => ⟨r, g, by simp, hg, hin r hof k hk⟩⟩
theorem outCells_ok (h : Core C G s w) {I' : Nat → Prop} (hI : ∀ k, G.I k → I' k) : ∀ {l : List CSh} {cs : List Cell} {vs : List Value} {x : (rowTy l).den} {o v : List Nat}, outCells s l cs = some (x, o, v) → Cells G s.reg w cs vs → (∀ r ∈ v, ∀ g, s.reg r = some g → ∀ k ∈ G.fp r, I' k) →
    ∃ f, RowRep I' w l x vs f ∧ FromR G s o f
  | [], cs, vs, x, o, v, ho, hc, hv => by
    cases cs with
    | cons _ _ => simp [outCells] at ho
    | nil =>
      simp only [outCells, Option.some.injEq, Prod.mk.injEq] at ho
      obtain ⟨_, rfl, _⟩ := ho
      exact ⟨[], ⟨hc, rfl⟩, .nil⟩
  | .val t :: l, cs, vs, x, o, v, ho, hc, hv => by
    cases cs with
    | nil => simp [outCells] at ho
    | cons c cs =>
      simp only [outCells] at ho
      split at ho
      · rename_i x1 y o' v' h1 h2
        simp only [Option.some.injEq, Prod.mk.injEq] at ho
        obtain ⟨rfl, rfl, rfl⟩ := ho
        cases hd : t.deep with
        | true => rw [hd] at h1; cases h1
        | false =>
          rw [hd] at h1
          obtain ⟨u, ul, rfl, hc1, hc2⟩ := hc
          obtain ⟨f, hf1, hf2⟩ := outCells_ok h hI h2 hc2 hv
          obtain ⟨v1, v2, e1, k1, k2, _⟩ := h.read_v (I' := fun _ => True) (fun _ _ => trivial) h1 (vs := [u]) ⟨u, [], rfl, hc1, rfl⟩ (fun _ _ _ _ => trivial)
          rw [show v2 = [] from k2, List.append_nil] at e1
          exact ⟨f, ⟨u, ul, rfl, ⟨by rw [e1]; exact k1.flatI hd, hd⟩, hf1⟩, hf2⟩
      · cases ho
  | .view e t :: l, cs, vs, x, o, v, ho, hc, hv => by
    cases cs with
    | nil => simp [outCells] at ho
    | cons c cs =>
      simp only [outCells] at ho
      split at ho
      · rename_i e' t' xs y o' v' h1 h2
        cases he : (e == e') with
        | false => rw [he] at ho; cases ho
        | true =>
          rw [he] at ho
          obtain rfl : e = e' := by simpa using he
          simp only [cond_true] at ho
          split at ho
          · rename_i x1 hcast
            simp only [Option.some.injEq, Prod.mk.injEq] at ho
            obtain ⟨rfl, rfl, rfl⟩ := ho
            obtain ⟨eq, rfl⟩ := cast_some hcast
            obtain rfl : t' = t := by injection eq
            obtain ⟨u, ul, rfl, hc1, hc2⟩ := hc
            obtain ⟨f, hf1, hf2⟩ := outCells_ok h hI h2 hc2 (fun r hr => hv r (List.mem_append.2 (.inr hr)))
            exact ⟨f, ⟨u, ul, rfl, h.slice_v hI hc1 h1 (fun r hr => by
              obtain ⟨g, hg⟩ := Option.isSome_iff_exists.1 (hc1.has hr)
              exact hv r (List.mem_append.2 (.inl (hangs_head hr))) g hg), hf1⟩, hf2⟩
          · cases ho
      · cases ho
  | .own e t :: l, cs, vs, x, o, v, ho, hc, hv => by
    cases cs with
    | nil => simp [outCells] at ho
    | cons c cs =>
      simp only [outCells] at ho
      split at ho
      · rename_i e' t' xs y o' v' h1 h2
        cases he : (e == e') with
        | false => rw [he] at ho; cases ho
        | true =>
          rw [he] at ho
          obtain rfl : e = e' := by simpa using he
          simp only [cond_true] at ho
          obtain ⟨u, ul, rfl, hc1, hc2⟩ := hc
          split at ho
          · rename_i x1 r hcast
            simp only [Option.some.injEq, Prod.mk.injEq] at ho
            obtain ⟨rfl, rfl, rfl⟩ := ho
            obtain ⟨eq, rfl⟩ := cast_some hcast
            obtain rfl : t' = t := by injection eq
            obtain ⟨f, hf1, hf2⟩ := outCells_ok h hI h2 hc2 hv
            obtain ⟨f0, hd, hfr⟩ := (own_out h hc1 h1).2 r (.inl rfl)
            exact ⟨f0 ++ f, ⟨u, ul, f0, f, rfl, rfl, hd, hf1⟩, hfr.cons h hf2⟩
          · rename_i x1 r lo n hcast
            simp only [Option.some.injEq, Prod.mk.injEq] at ho
            obtain ⟨rfl, rfl, rfl⟩ := ho
            obtain ⟨eq, rfl⟩ := cast_some hcast
            obtain rfl : t' = t := by injection eq
            obtain ⟨f, hf1, hf2⟩ := outCells_ok h hI h2 hc2 hv
            obtain ⟨f0, hd, hfr⟩ := (own_out h hc1 h1).2 r (.inr ⟨lo, n, rfl⟩)
            exact ⟨f0 ++ f, ⟨u, ul, f0, f, rfl, rfl, hd, hf1⟩, hfr.cons h hf2⟩
          · rename_i x1 e1 t1 hcast
            simp only [Option.some.injEq, Prod.mk.injEq] at ho
            obtain ⟨rfl, rfl, rfl⟩ := ho
            obtain ⟨eq, rfl⟩ := cast_some hcast
            obtain rfl : t' = t := by injection eq
            obtain ⟨f, hf1, hf2⟩ := outCells_ok h hI h2 hc2 hv
            exact ⟨f, ⟨u, ul, [], f, rfl, rfl, (own_out h hc1 h1).1 ⟨_, _, rfl⟩, hf1⟩, hf2⟩
          · cases ho
      · cases ho
theorem outRes_ok (h : Core C G s w) {I' : Nat → Prop} (hI : ∀ k, G.I k → I' k) : ∀ {l : List RSh} {cs : List Comp} {vs : List Value} {x : (ressTy l).den} {o v : List Nat}, outRes s l cs = some (x, o, v) → Comps G s.reg w cs vs → (∀ r ∈ v, ∀ g, s.reg r = some g → ∀ k ∈ G.fp r, I' k) →
    ∃ f, ResRep I' w l x vs f ∧ FromR G s o f
  | [], cs, vs, x, o, v, ho, hc, hv => by
    cases cs with
    | cons _ _ => simp [outRes] at ho
    | nil =>
      simp only [outRes, Option.some.injEq, Prod.mk.injEq] at ho
      obtain ⟨_, rfl, _⟩ := ho
      exact ⟨[], ⟨hc, rfl⟩, .nil⟩
  | r :: l, cs, vs, x, o, v, ho, hc, hv => by
    cases cs with
    | nil => simp [outRes] at ho
    | cons c cs =>
      simp only [outRes] at ho
      split at ho
      · rename_i x1 o1 v1 y o2 v2 h1 h2
        simp only [Option.some.injEq, Prod.mk.injEq] at ho
        obtain ⟨rfl, rfl, rfl⟩ := ho
        obtain ⟨u, ul, rfl, hc1, hc2⟩ := hc
        obtain ⟨f, hf1, hf2⟩ := outRes_ok h hI h2 hc2 (fun r hr => hv r (List.mem_append.2 (.inr hr)))
        cases r with
        | one sh =>
          cases c with
          | agg _ => simp [outComp] at h1
          | one c =>
            simp only [outComp] at h1
            cases h3 : outCells s [sh] [c] with
            | none => rw [h3] at h1; cases h1
            | some p =>
              obtain ⟨z, o3, v3⟩ := p
              rw [h3] at h1
              simp only [Option.map_some, Option.some.injEq, Prod.mk.injEq] at h1
              obtain ⟨rfl, rfl, rfl⟩ := h1
              obtain ⟨f0, hg1, hg2⟩ := outCells_ok h hI h3 (vs := [u]) ⟨u, [], rfl, hc1, rfl⟩ (fun r hr => hv r (List.mem_append.2 (.inl hr)))
              exact ⟨f0 ++ f, ⟨u, ul, f0, f, rfl, rfl, hg1, hf1⟩, hg2.append h hf2⟩
        | agg sh =>
          cases c with
          | one _ => simp [outComp] at h1
          | agg c =>
            simp only [outComp] at h1
            obtain ⟨arr, rfl, hca⟩ := hc1
            obtain ⟨f0, hg1, hg2⟩ := outCells_ok h hI h1 hca (fun r hr => hv r (List.mem_append.2 (.inl hr)))
            exact ⟨f0 ++ f, ⟨arr, ul, f0, f, rfl, rfl, hg1, hf1⟩, hg2.append h hf2⟩
      · cases ho
theorem outPars_ok (h : Core C G s w) {I' : Nat → Prop} (hI : ∀ k, G.I k → I' k) : ∀ {l : List Par} {i : Nat} {vs : List Value} {y : (outsTy l).den} {o v : List Nat}, outPars s l i = some (y, o, v) → vs.length = l.length → (∀ j e t, l[j]? = some (.own e t true) → vs[j]? = some (C.arg (i + j))) → (∀ j tid sh out, l[j]? = some (.box tid sh out) → ∃ k, vs[j]? = some (.pointer (some ⟨k, 0, none⟩)) ∧ C.home (i + j) = some k) → (∀ r ∈ v, ∀ g, s.reg r = some g → ∀ k ∈ G.fp r, I' k) →
    ∃ f, OutsRep I' w l y vs f ∧ (o.Nodup → f.Nodup) ∧ (∀ k ∈ f, (∃ r g, r ∈ o ∧ s.reg r = some g ∧ k ∈ G.fp r) ∨ ∃ b x, i ≤ b ∧ get s.boxes b = some x ∧ k = G.blk b)
  | [], i, vs, y, o, v, ho, hl, ha, hh, hv => by
    simp only [outPars, Option.some.injEq, Prod.mk.injEq] at ho
    obtain ⟨_, rfl, _⟩ := ho
    exact ⟨[], rfl, fun _ => List.nodup_nil, fun _ hk => by cases hk⟩
  | p :: l, i, vs, y, o, v, ho, hl, ha, hh, hv => by
    cases vs with
    | nil => simp at hl
    | cons u ul =>
      have hl' : ul.length = l.length := by simpa using hl
      have ha' : ∀ j e t, l[j]? = some (.own e t true) → ul[j]? = some (C.arg (i + 1 + j)) := fun j e t hj => by have := ha (j + 1) e t hj; rw [show i + 1 + j = i + (j + 1) by omega]; exact this
      have hh' : ∀ j tid sh out, l[j]? = some (.box tid sh out) → ∃ k, ul[j]? = some (.pointer (some ⟨k, 0, none⟩)) ∧ C.home (i + 1 + j) = some k := fun j tid sh out hj => by have := hh (j + 1) tid sh out hj; rw [show i + 1 + j = i + (j + 1) by omega]; exact this
      have up : ∀ {f o : List Nat}, (∀ k ∈ f, (∃ r g, r ∈ o ∧ s.reg r = some g ∧ k ∈ G.fp r) ∨ ∃ b x, i + 1 ≤ b ∧ get s.boxes b = some x ∧ k = G.blk b) → (∀ k ∈ f, (∃ r g, r ∈ o ∧ s.reg r = some g ∧ k ∈ G.fp r) ∨ ∃ b x, i ≤ b ∧ get s.boxes b = some x ∧ k = G.blk b) := fun hf k hk =>
        (hf k hk).imp id fun ⟨b, x, h1, h2⟩ => ⟨b, x, by omega, h2⟩
      have plain : ∀ {y : (outsTy l).den}, outPars s l (i + 1) = some (y, o, v) → ∃ f, OutsRep I' w l y ul f ∧ (o.Nodup → f.Nodup) ∧ (∀ k ∈ f, (∃ r g, r ∈ o ∧ s.reg r = some g ∧ k ∈ G.fp r) ∨ ∃ b x, i ≤ b ∧ get s.boxes b = some x ∧ k = G.blk b) := fun ho => by
        obtain ⟨f, h1, h2, h3⟩ := outPars_ok h hI ho hl' ha' hh' hv
        exact ⟨f, h1, h2, up h3⟩
      cases p with
      | val t =>
        simp only [outPars, Option.map_eq_some_iff] at ho
        obtain ⟨⟨y', o', v'⟩, ho, e⟩ := ho
        simp only [Prod.mk.injEq] at e
        obtain ⟨rfl, rfl, rfl⟩ := e
        obtain ⟨f, h1, h2⟩ := plain ho
        exact ⟨f, ⟨u, ul, rfl, h1⟩, h2⟩
      | agg sh =>
        simp only [outPars, Option.map_eq_some_iff] at ho
        obtain ⟨⟨y', o', v'⟩, ho, e⟩ := ho
        simp only [Prod.mk.injEq] at e
        obtain ⟨rfl, rfl, rfl⟩ := e
        obtain ⟨f, h1, h2⟩ := plain ho
        exact ⟨f, ⟨u, ul, rfl, h1⟩, h2⟩
      | fn fn caps =>
        simp only [outPars, Option.map_eq_some_iff] at ho
        obtain ⟨⟨y', o', v'⟩, ho, e⟩ := ho
        simp only [Prod.mk.injEq] at e
        obtain ⟨rfl, rfl, rfl⟩ := e
        obtain ⟨f, h1, h2⟩ := plain ho
        exact ⟨f, ⟨u, ul, rfl, h1⟩, h2⟩
      | own e t b =>
        cases b with
        | false =>
          simp only [outPars, Option.map_eq_some_iff] at ho
          obtain ⟨⟨y', o', v'⟩, ho, e⟩ := ho
          simp only [Prod.mk.injEq] at e
          obtain ⟨rfl, rfl, rfl⟩ := e
          obtain ⟨f, h1, h2⟩ := plain ho
          exact ⟨f, ⟨u, ul, rfl, h1⟩, h2⟩
        | true =>
          simp only [outPars] at ho
          split at ho
          · rename_i g y' o' v' hg ho'
            cases hb : (g.orig == i + 1 && g.e == e) with
            | false => rw [hb] at ho; cases ho
            | true =>
              rw [hb] at ho
              simp only [cond_true] at ho
              simp only [Bool.and_eq_true, beq_iff_eq] at hb
              obtain ⟨hb1, rfl⟩ := hb
              split at ho
              · rename_i x1 hcast
                simp only [Option.some.injEq, Prod.mk.injEq] at ho
                obtain ⟨rfl, rfl, rfl⟩ := ho
                obtain ⟨gt, ge⟩ : g.t = t ∧ True := by obtain ⟨eq, _⟩ := cast_some hcast; injection eq; exact ⟨by assumption, trivial⟩
                subst gt
                obtain rfl : g.xs = x1 := by rw [cast_self] at hcast; exact Option.some.inj hcast
                obtain ⟨f, h1, h2, h3⟩ := outPars_ok h hI ho' hl' ha' hh' hv
                obtain ⟨hd, hn⟩ := h.reg _ g hg
                have hroot := h.orig _ g i hg hb1
                have hu : u = C.arg i := by have := ha 0 g.e g.t rfl; simpa using this
                rw [hroot, ← hu] at hd
                refine ⟨G.fp (homeLab i) ++ f, ⟨u, ul, _, f, rfl, rfl, hd, h1⟩, fun hno => ?_, fun k hk => ?_⟩
                · obtain ⟨n1, n2⟩ := List.nodup_cons.1 hno
                  refine List.nodup_append.2 ⟨hn, h2 n2, fun k hk k' hk' e => ?_⟩
                  subst e
                  rcases h3 k hk' with ⟨r, g', hr, hg', hkr⟩ | ⟨b, x, _, hb, e⟩
                  · exact h.rr _ r g g' hg hg' (fun e => n1 (e ▸ hr)) k hk hkr
                  · exact h.rb _ g b x hg hb (e ▸ hk)
                · rcases List.mem_append.1 hk with hk | hk
                  · exact .inl ⟨_, g, List.mem_cons_self, hg, hk⟩
                  · exact (up h3 k hk).imp (fun ⟨r, g', hr, h4⟩ => ⟨r, g', List.mem_cons_of_mem _ hr, h4⟩) id
              · cases ho
          · cases ho
      | box tid sh out =>
        simp only [outPars] at ho
        split at ho
        · rename_i b y' o' v' hb ho'
          cases ht : (b.tid == tid) with
          | false => rw [ht] at ho; cases ho
          | true =>
            rw [ht] at ho
            obtain rfl : b.tid = tid := by simpa using ht
            simp only [cond_true] at ho
            split at ho
            · rename_i x1 o1 v1 hoc
              simp only [Option.some.injEq, Prod.mk.injEq] at ho
              obtain ⟨rfl, rfl, rfl⟩ := ho
              obtain ⟨f, h1, h2, h3⟩ := outPars_ok h hI ho' hl' ha' hh' (fun r hr => hv r (List.mem_append.2 (.inr hr)))
              obtain ⟨arr, hheap, hcells⟩ := h.box i b hb
              obtain ⟨f0, hg1, hg2⟩ := outCells_ok h hI hoc hcells (fun r hr => hv r (List.mem_append.2 (.inl hr)))
              obtain ⟨k, hk1, hk2⟩ := hh 0 b.tid sh out rfl
              have hu : u = .pointer (some ⟨k, 0, none⟩) := by simpa using hk1
              have hkb : G.blk i = k := (h.home i k hk2).2
              subst hkb
              refine ⟨(G.blk i :: f0) ++ f, ⟨G.blk i, ul, f0, f, arr, by rw [hu], rfl, hheap, hg1, h1⟩, fun hno => ?_, fun k hk => ?_⟩
              · obtain ⟨n1, n2, n3⟩ := List.nodup_append.1 hno
                have nb : G.blk i ∉ f0 := fun hk => by obtain ⟨r, g, _, hg, hkr⟩ := hg2.mem _ hk; exact h.rb r g i b hg hb hkr
                refine List.nodup_append.2 ⟨List.nodup_cons.2 ⟨nb, hg2.nodup n1⟩, h2 n2, fun k hk k' hk' e => ?_⟩
                subst e
                rcases List.mem_cons.1 hk with rfl | hk
                · rcases h3 _ hk' with ⟨r, g, _, hg, hkr⟩ | ⟨b', x', hle, hb', e⟩
                  · exact h.rb r g i b hg hb hkr
                  · exact h.bb i b' b x' hb hb' (by omega) e
                · obtain ⟨r, g, hr, hg, hkr⟩ := hg2.mem k hk
                  rcases h3 k hk' with ⟨r', g', hr', hg', hkr'⟩ | ⟨b', x', _, hb', e⟩
                  · exact h.rr r r' g g' hg hg' (n3 r hr r' hr') k hkr hkr'
                  · exact h.rb r g b' x' hg hb' (e ▸ hkr)
              · rcases List.mem_append.1 hk with hk | hk
                · rcases List.mem_cons.1 hk with rfl | hk
                  · exact .inr ⟨i, b, Nat.le_refl _, hb, rfl⟩
                  · obtain ⟨r, g, hr, h4⟩ := hg2.mem k hk; exact .inl ⟨r, g, List.mem_append.2 (.inl hr), h4⟩
                · exact (up h3 k hk).imp (fun ⟨r, g', hr, h4⟩ => ⟨r, g', List.mem_append.2 (.inr hr), h4⟩) id
            · cases ho
        · cases ho
def resSem (tmps : Array Value) : ResultVar → Sem Value
  | .tmp t => pure (tmps.getD t undef)
  | .cell b t => do loadVar t (← asAddr (tmps.getD b undef))
theorem resComps_ok (hE : EnvOk P E) (h : Inv C G s a w) : ∀ {l : List ResultVar} {cs : List Comp}, resComps E s l = some cs →
    ∃ vs : List Value, (l.mapM (resSem a.tmps)).run P w = .ok vs w ∧ Comps G s.reg w cs vs
  | [], cs, hc => by obtain rfl := Option.some.inj hc; exact ⟨[], by simp, rfl⟩
  | r :: l, cs, hc => by
    unfold resComps at hc
    split at hc
    · rename_i c cs' hr hl
      obtain rfl := Option.some.inj hc
      obtain ⟨vs, h1, h2⟩ := resComps_ok hE h hl
      cases r with
      | tmp t =>
        simp only [resComp] at hr
        split at hr
        · rename_i c' hg
          obtain rfl := Option.some.inj hr
          refine ⟨a.tmps.getD t undef :: vs, ?_, _, _, rfl, h.tmp t _ hg, h2⟩
          rw [List.mapM_cons, Sem.run_bind, show (resSem a.tmps (.tmp t)).run P w = .ok (a.tmps.getD t undef) w from rfl, Result.andThen_ok, Sem.run_bind, h1, Result.andThen_ok]; rfl
        · cases hr
      | cell b t =>
        simp only [resComp] at hr
        split at hr
        · rename_i b' u hg hu
          have hv : G.pb b' ∧ a.tmps.getD b undef = .pointer (some ⟨G.blk b', 0, none⟩) := h.tmp b _ hg
          cases hbx : get s.boxes b' with
          | none => rw [hbx] at hr; cases hr
          | some x =>
            rw [hbx] at hr
            simp only [Option.bind_some] at hr
            cases hlen : (x.cells.length == u.size) with
            | false => rw [hlen] at hr; cases hr
            | true =>
              rw [hlen] at hr
              simp only [cond_true] at hr
              obtain ⟨ti, _, _, hf⟩ := hE.ty hu
              obtain ⟨arr, hheap, hcells⟩ := h.toCore.box b' x hbx
              have hl2 := hcells.length
              obtain ⟨v, hr1, hr2⟩ := run_loadVar (P := P) (ad := ⟨G.blk b', 0, none⟩) hf hcells (by rw [hl2]; exact beq_iff_eq.1 hlen) (fun j v hj => by rw [add_none, cell_of_row _ _ _ arr x.tid (0, 0) hheap, Nat.zero_add, ← Array.getElem?_toList]; exact hj) hr
              refine ⟨v :: vs, ?_, _, _, rfl, hr2, h2⟩
              have hs : (resSem a.tmps (.cell b t)).run P w = .ok v w := by
                unfold resSem
                simp only [hv.2]
                simp [asAddr, hr1]
              rw [List.mapM_cons, Sem.run_bind, hs, Result.andThen_ok, Sem.run_bind, h1, Result.andThen_ok]; rfl
        · cases hr
    · cases hc
theorem Comps.length {R : Nat → Option Reg} : ∀ {cs : List Comp} {vs : List Value}, Comps G R w cs vs → vs.length = cs.length
  | [], _, h => by rw [h]; rfl
  | _ :: _, _, h => by obtain ⟨v, l, rfl, _, h⟩ := h; simp [h.length]
theorem run_results {fn : Func} {vs : List Value} (h : (fn.results.toList.mapM (resSem a.tmps)).run P w = .ok vs w) : (results fn a.tmps).run P w = .ok (resVal vs) w := by
  have e : (fn.results.mapM (resSem a.tmps)).run P w = .ok vs.toArray w := by
    rw [Array.mapM_eq_mapM_toList]
    simp [h]
  have e2 : results fn a.tmps = (do let vs ← fn.results.mapM (resSem a.tmps); pure (if h : vs.size = 1 then vs[0] else .tuple vs)) := rfl
  rw [e2, Sem.run_bind, e, Result.andThen_ok]
  congr 1
  rcases vs with _ | ⟨v, _ | ⟨u, l⟩⟩
  · rfl
  · rfl
  · simp [resVal]
/-- What a call leaves. -/
structure Left (C : Ctx) (w : World) (g : Sig) (r : g.ans) (args vs : List Value) (I' : Nat → Prop) (f1 f2 : List Nat) : Prop where
  res : ResRep I' w g.res r.1 vs f1
  outs : OutsRep I' w g.pars r.2 args f2
  nodup : (f1 ++ f2).Nodup
  ok : ∀ k ∈ f1 ++ f2, C.ok k ∧ ¬ I' k ∧ k < w.heap.size
  more : ∀ k, C.I0 k → I' k
  less : ∀ k, I' k → C.I0 k ∨ C.ok k
  lt : ∀ k, I' k → k < w.heap.size
theorem contains_of {l : List Nat} {x : Nat} (h : (!(l.contains x)) = true) : x ∉ l := by
  simpa using h
theorem leave_ok (hE : EnvOk P E) (h : Inv C G s a w) {g : Sig} {fn : Func} {r : g.ans} (hl : leave E g fn s = some r) {args : List Value} (hn : args.length = g.pars.length) (ha : ∀ j e t, g.pars[j]? = some (.own e t true) → args[j]? = some (C.arg j)) (hh : ∀ j tid sh out, g.pars[j]? = some (.box tid sh out) → ∃ k, args[j]? = some (.pointer (some ⟨k, 0, none⟩)) ∧ C.home j = some k) :
    ∃ vs I' f1 f2, (results fn a.tmps).run P w = .ok (resVal vs) w ∧ Left C w g r args vs I' f1 f2 := by
  unfold leave at hl
  split at hl
  · rename_i cs hcs
    obtain ⟨vs, hv1, hv2⟩ := resComps_ok hE h hcs
    split at hl
    · rename_i x o v y o' v' hx hy
      cases hb : (nodup (o ++ o') && noneOf (o ++ o') (v ++ v')) with
      | false => rw [hb] at hl; cases hl
      | true =>
        rw [hb] at hl
        obtain rfl := Option.some.inj hl
        simp only [Bool.and_eq_true] at hb
        have hnd := nodup_of hb.1
        have hno : ∀ q ∈ o ++ o', q ∉ v ++ v' := fun q hq => contains_of (List.all_eq_true.1 hb.2 q hq)
        let I' : Nat → Prop := fun k => G.I k ∨ ∃ q g, q ∈ v ++ v' ∧ s.reg q = some g ∧ k ∈ G.fp q
        have hI : ∀ k, G.I k → I' k := fun k hk => .inl hk
        have hv : ∀ q ∈ v ++ v', ∀ g, s.reg q = some g → ∀ k ∈ G.fp q, I' k := fun q hq g hg k hk => .inr ⟨q, g, hq, hg, hk⟩
        obtain ⟨f1, a1, a2⟩ := outRes_ok h.toCore hI hx hv2 (fun q hq => hv q (List.mem_append.2 (.inl hq)))
        obtain ⟨f2, b1, b2, b3⟩ := outPars_ok h.toCore hI hy hn (fun j e t hj => by rw [Nat.zero_add]; exact ha j e t hj) (fun j tid sh out hj => by rw [Nat.zero_add]; exact hh j tid sh out hj) (fun q hq => hv q (List.mem_append.2 (.inr hq)))
        obtain ⟨n1, n2, n3⟩ := List.nodup_append.1 hnd
        have ofReg : ∀ {k q gq}, q ∈ o ++ o' → s.reg q = some gq → k ∈ G.fp q → C.ok k ∧ ¬ I' k ∧ k < w.heap.size := by
          intro k q gq hq hg hk
          refine ⟨h.or q gq k hg hk, fun hI' => ?_, h.toCore.fpLt hg k hk⟩
          rcases hI' with hI' | ⟨q', g', hq', hg', hk'⟩
          · exact h.ir q gq k hg hk hI'
          · exact h.rr q q' gq g' hg hg' (fun e => hno q hq (e ▸ hq')) k hk hk'
        have ofBox : ∀ {b x}, get s.boxes b = some x → C.ok (G.blk b) ∧ ¬ I' (G.blk b) ∧ G.blk b < w.heap.size := by
          intro b x hb
          refine ⟨h.ob b x hb, fun hI' => ?_, h.toCore.blkLt hb⟩
          rcases hI' with hI' | ⟨q', g', hq', hg', hk'⟩
          · exact h.ib b x hb hI'
          · exact h.rb q' g' b x hg' hb hk'
        refine ⟨vs, I', f1, f2, run_results hv1, a1, b1, ?_, ?_, (fun k hk => hI k (h.i0 k hk)), ?_, ?_⟩
        · refine List.nodup_append.2 ⟨a2.nodup n1, b2 n2, fun k hk k' hk' e => ?_⟩
          subst e
          obtain ⟨q, gq, hq, hg, hkq⟩ := a2.mem k hk
          rcases b3 k hk' with ⟨q', g', hq', hg', hkq'⟩ | ⟨b, x, _, hb, e⟩
          · exact h.rr q q' gq g' hg hg' (n3 q hq q' hq') k hkq hkq'
          · exact h.rb q gq b x hg hb (e ▸ hkq)
        · intro k hk
          rcases List.mem_append.1 hk with hk | hk
          · obtain ⟨q, gq, hq, hg, hkq⟩ := a2.mem k hk
            exact ofReg (List.mem_append.2 (.inl hq)) hg hkq
          · rcases b3 k hk with ⟨q', g', hq', hg', hkq'⟩ | ⟨b, x, _, hb, e⟩
            · exact ofReg (List.mem_append.2 (.inr hq')) hg' hkq'
            · rw [e]; exact ofBox hb
        · intro k hk
          rcases hk with hk | ⟨q, gq, hq, hg, hkq⟩
          · exact h.i1 k hk
          · exact .inr (h.or q gq k hg hkq)
        · intro k hk
          rcases hk with hk | ⟨q, gq, hq, hg, hkq⟩
          · exact h.ilt k hk
          · exact h.toCore.fpLt hg k hkq
    · cases hl
  · cases hl
end

end Go.Proofs.Ytigkodlbjimikaa.Vc
