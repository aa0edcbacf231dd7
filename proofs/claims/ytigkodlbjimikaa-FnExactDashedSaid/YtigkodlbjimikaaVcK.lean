/- Operations by the machine and by the reading: tests, places of elements, lengths, cuts, loads. -/
import Derived.Test.YtigkodlbjimikaaVcJ
namespace Go.Proofs.Ytigkodlbjimikaa.Vc
open Go Go.RowKit
set_option linter.unusedVariables false
set_option linter.unusedSimpArgs false

section
variable {P : Program} {E : Env} {C : Ctx} {G : Gh} {s : St} {a : Act} {w : World}

/-! ### tests -/
theorem Cells.at_ {R : Nat → Option Reg} : ∀ {cs : List Cell} {vs : List Value} {i : Nat} {c : Cell}, Cells G R w cs vs → cs[i]? = some c → ∃ v, vs[i]? = some v ∧ CRep G R w c v
  | _ :: _, _, 0, _, h, hi => by obtain ⟨v, l, rfl, h1, _⟩ := h; simp at hi; subst hi; exact ⟨v, rfl, h1⟩
  | _ :: _, _, i + 1, _, h, hi => by obtain ⟨v, l, rfl, _, h2⟩ := h; exact h2.at_ (i := i) (by simpa using hi)
theorem run_part0 {t : TypeId} {cs : Array Value} {off : Nat} {v : Value} {d : TypeDesc} (hd : P.underlying t = some d) (ha : aggDesc d = false) (hv : cs[off]? = some v) : (part t cs off).run P w = .ok v w := by
  unfold part
  rw [Sem.run_bind, run_isAgg hd, Result.andThen_ok, ha, if_neg (by simp), hv]; rfl
/-- One plain cell, read by its type. -/
theorem read_one (P : Program) {i : Nat} {f : Field} {t : Ty} (hf : eqF P i f t = true) {cs l : List Cell} {x : t.den} (h : s.read t cs = some (x, l)) {vs : List Value} (hc : Cells G s.reg w cs vs) :
    f.name ≠ "_" ∧ f.offset = i ∧ ∃ v l' d, vs = v :: l' ∧ Cells G s.reg w l l' ∧ P.underlying f.type = some d ∧ aggDesc d = false ∧
      (∀ {cs' l2 : List Cell} {y : t.den} {vs' : List Value}, s.read t cs' = some (y, l2) → Cells G s.reg w cs' vs' → ∃ u l2' b, vs' = u :: l2' ∧ Cells G s.reg w l2 l2' ∧ eqT t x y = some b ∧ ∀ n, (Op.equalIn (n + 1) f.type v u).run P w = .ok b w) := by
  simp only [eqF, Bool.and_eq_true, decide_eq_true_eq, beq_iff_eq] at hf
  obtain ⟨⟨hn, ho⟩, ht⟩ := hf
  refine ⟨hn, ho, ?_⟩
  cases hu : P.underlying f.type with
  | none => rw [hu] at ht; cases t <;> cases ht
  | some d =>
    rw [hu] at ht
    cases t with
    | int k =>
      cases d with
      | int k' =>
        obtain rfl : k = k' := by simpa using ht
        have rd : ∀ {cs l : List Cell} {x : Int}, s.read (.int k) cs = some (x, l) → cs = .int k x :: l := by
          intro cs l x h
          cases cs with
          | nil => simp [St.read] at h
          | cons c cs =>
            cases c <;> simp only [St.read] at h <;> try cases h
            rename_i k2 n
            by_cases e : k = k2
            · subst e; simp at h; obtain ⟨rfl, rfl⟩ := h; rfl
            · simp [e] at h
        rw [rd h] at hc
        obtain ⟨v, l', rfl, hv, hl⟩ := hc
        refine ⟨v, l', _, rfl, hl, rfl, rfl, fun h' hc' => ?_⟩
        rw [rd h'] at hc'
        obtain ⟨u, l2', rfl, hv', hl'⟩ := hc'
        refine ⟨u, l2', _, rfl, hl', rfl, fun n => ?_⟩
        have e1 : v = .int k x := hv
        subst e1
        have e2 := (hv' : u = _)
        subst e2
        exact run_equalIn_int w n f.type k k x _ hu
      | _ => cases ht
    | bool =>
      cases d with
      | bool =>
        have rd : ∀ {cs l : List Cell} {x : Bool}, s.read .bool cs = some (x, l) → cs = .bool x :: l := by
          intro cs l x h
          cases cs with
          | nil => simp [St.read] at h
          | cons c cs =>
            cases c <;> simp only [St.read] at h <;> try cases h
            rfl
        rw [rd h] at hc
        obtain ⟨v, l', rfl, hv, hl⟩ := hc
        refine ⟨v, l', _, rfl, hl, rfl, rfl, fun h' hc' => ?_⟩
        rw [rd h'] at hc'
        obtain ⟨u, l2', rfl, hv', hl'⟩ := hc'
        refine ⟨u, l2', _, rfl, hl', rfl, fun n => ?_⟩
        have e1 : v = .bool x := hv
        subst e1
        have e2 := (hv' : u = _)
        subst e2
        exact run_equalIn_bool' w n f.type x _ hu
      | _ => cases ht
    | str =>
      cases d with
      | string =>
        have rd : ∀ {cs l : List Cell} {x : ByteArray}, s.read .str cs = some (x, l) → cs = .str x :: l := by
          intro cs l x h
          cases cs with
          | nil => simp [St.read] at h
          | cons c cs =>
            cases c <;> simp only [St.read] at h <;> try cases h
            rfl
        rw [rd h] at hc
        obtain ⟨v, l', rfl, hv, hl⟩ := hc
        refine ⟨v, l', _, rfl, hl, rfl, rfl, fun h' hc' => ?_⟩
        rw [rd h'] at hc'
        obtain ⟨u, l2', rfl, hv', hl'⟩ := hc'
        refine ⟨u, l2', _, rfl, hl', rfl, fun n => ?_⟩
        have e1 : v = .string x := hv
        subst e1
        have e2 := (hv' : u = _)
        subst e2
        rw [run_equalIn_string w n f.type x _ hu, ← beq_toListBytes]
        rfl
      | _ => cases ht
    | _ => cases ht
theorem run_eqFields (n : Nat) : ∀ (fs : List Field) (i : Nat) (u : Ty) {xs ys : Array Value} {cs ds l l' : List Cell} {x y : u.den} {b : Bool}, eqFs P i fs u = true → Cells G s.reg w cs (xs.toList.drop i) → Cells G s.reg w ds (ys.toList.drop i) →
    s.read u cs = some (x, l) → s.read u ds = some (y, l') → eqT u x y = some b → (Op.eqFields (n + 1) xs ys fs).run P w = .ok b w := by
  have step : ∀ (f : Field) (fs : List Field) (i : Nat) (t : Ty) {xs ys : Array Value} {cs ds l l' : List Cell} {x y : t.den} {b1 b2 : Bool}, eqF P i f t = true → Cells G s.reg w cs (xs.toList.drop i) → Cells G s.reg w ds (ys.toList.drop i) →
      s.read t cs = some (x, l) → s.read t ds = some (y, l') → eqT t x y = some b1 → (Cells G s.reg w l (xs.toList.drop (i + 1)) → Cells G s.reg w l' (ys.toList.drop (i + 1)) → (Op.eqFields (n + 1) xs ys fs).run P w = .ok b2 w) → (Op.eqFields (n + 1) xs ys (f :: fs)).run P w = .ok (b1 && b2) w := by
    intro f fs i t xs ys cs ds l l' x y b1 b2 hf hx hy h1 h2 he ih
    obtain ⟨hn, ho, v, vl, d, ex, hl, hd, ha, hh⟩ := read_one P hf h1 hx
    obtain ⟨u, ul, b, ey, hl', he', hq⟩ := hh h2 hy
    obtain rfl : b1 = b := by rw [he] at he'; exact Option.some.inj he'
    have gx : xs[i]? = some v := by rw [← Array.getElem?_toList]; have := congrArg (·[0]?) ex; simpa using this
    have gy : ys[i]? = some u := by rw [← Array.getElem?_toList]; have := congrArg (·[0]?) ey; simpa using this
    have ex2 : xs.toList.drop (i + 1) = vl := by rw [← List.drop_drop, ex]; rfl
    have ey2 : ys.toList.drop (i + 1) = ul := by rw [← List.drop_drop, ey]; rfl
    have ih' := ih (by rw [ex2]; exact hl) (by rw [ey2]; exact hl')
    unfold Op.eqFields
    rw [if_pos hn, ho]
    simp only [Sem.run_bind, run_part0 hd ha gx, run_part0 hd ha gy, Result.andThen_ok, hq]
    cases b1
    · simp
    · simp [ih']
  intro fs
  induction fs with
  | nil =>
    intro i u xs ys cs ds l l' x y b hf _ _ _ _ he
    cases u <;> simp [eqFs] at hf
    simp [eqT] at he
    subst he; rfl
  | cons f fs ih =>
    intro i u xs ys cs ds l l' x y b hf hx hy h1 h2 he
    cases u with
    | pair t u =>
      simp only [eqFs, Bool.and_eq_true] at hf
      simp only [St.read] at h1 h2
      cases r1 : s.read t cs with
      | none => rw [r1] at h1; cases h1
      | some p1 =>
        obtain ⟨x1, l1⟩ := p1
        rw [r1] at h1
        simp only [] at h1
        cases r2 : s.read u l1 with
        | none => rw [r2] at h1; cases h1
        | some p2 =>
          obtain ⟨x2, l2⟩ := p2
          rw [r2] at h1
          simp only [Option.some.injEq, Prod.mk.injEq] at h1
          obtain ⟨rfl, rfl⟩ := h1
          cases q1 : s.read t ds with
          | none => rw [q1] at h2; cases h2
          | some p1 =>
            obtain ⟨y1, m1⟩ := p1
            rw [q1] at h2
            simp only [] at h2
            cases q2 : s.read u m1 with
            | none => rw [q2] at h2; cases h2
            | some p2 =>
              obtain ⟨y2, m2⟩ := p2
              rw [q2] at h2
              simp only [Option.some.injEq, Prod.mk.injEq] at h2
              obtain ⟨rfl, rfl⟩ := h2
              simp only [eqT] at he
              cases e1 : eqT t x1 y1 with
              | none => rw [e1] at he; cases he
              | some b1 =>
                cases e2 : eqT u x2 y2 with
                | none => rw [e1, e2] at he; cases he
                | some b2 =>
                  rw [e1, e2] at he
                  obtain rfl := Option.some.inj he
                  exact step f fs i t hf.1 hx hy r1 q1 e1 fun hx' hy' => ih (i + 1) u hf.2 hx' hy' r2 q2 e2
    | _ =>
      cases fs with
      | cons _ _ => simp [eqFs] at hf
      | nil =>
        have := step f [] i _ (by simpa [eqFs] using hf) hx hy h1 h2 he (b2 := true) (fun _ _ => rfl)
        simpa using this
theorem TyFact.bool {t : TypeId} {ti : TI} (h : TyFact P E t ti .bool) : P.underlying t = some .bool := by
  have hu := h.und
  cases hd : P.underlying t with
  | none => rw [hd] at hu; cases hu
  | some d =>
    rw [hd] at hu
    cases d with
    | struct fs => simp [undOk, isAggTy] at hu
    | bool => rfl
    | _ => simp [undOk, plainOk] at hu
theorem op_binOp (hE : EnvOk P E) (h : Inv C G s a w) {o : Oper} (hd : ∀ t, o.dst = some t → t < C.nt) {H : Hints} {op : BinOp} {t ty : TypeId} {x y : Operand} (ho : o.op = .binOp op t x y ty) {q : Bool} {s' : St} (hs : astep E H s o = some (q, s')) (hq : q = true) : OpOk P C s' a o w := by
  unfold astep at hs
  simp only [ho] at hs
  split at hs
  · rename_i k m k' n hx hy
    have hx' : a.eval x = .int k m := opnd_ok h hx
    have hy' : a.eval y = .int k' n := opnd_ok h hy
    cases hk : (decide (k = k') || decide (op = .shl) || decide (op = .shr)) with
    | false => rw [hk] at hs; cases hs
    | true =>
      rw [hk] at hs
      simp only [cond_true, Option.some.injEq, Prod.mk.injEq] at hs
      obtain ⟨h1, rfl⟩ := hs
      simp only [Bool.or_eq_true, decide_eq_true_eq] at hk
      obtain ⟨v, hr, hc⟩ := run_binInt (P := P) (G := G) (s := s) (w := w) ho hx' hy' (by rcases hk with (hk | hk) | hk <;> simp [hk]) (h1.trans hq)
      exact OpOk.put h hd (x := .c (intOp op k m n).2) hc hr
  · rename_i b1 b2 hx hy
    have hx' : a.eval x = .bool b1 := opnd_ok h hx
    have hy' : a.eval y = .bool b2 := opnd_ok h hy
    split at hs
    · rename_i hT
      obtain ⟨rfl, rfl⟩ := ok_some hs
      obtain ⟨ti, _, _, hf⟩ := hE.ty hT
      refine OpOk.put h hd (v := .bool (beq_ b1 b2)) rfl ?_
      unfold execOp
      simp only [ho, hx', hy']
      simp [eqGuard, binOp, Op.equal, run_equalIn_bool' w 9999 t b1 b2 hf.bool, beq_, show Op.maxDepth = 9999 + 1 from rfl]
    · rename_i hT
      obtain ⟨rfl, rfl⟩ := ok_some hs
      obtain ⟨ti, _, _, hf⟩ := hE.ty hT
      refine OpOk.put h hd (v := .bool (not_ (beq_ b1 b2))) rfl ?_
      unfold execOp
      simp only [ho, hx', hy']
      simp [eqGuard, binOp, Op.equal, run_equalIn_bool' w 9999 t b1 b2 hf.bool, beq_, not_, show Op.maxDepth = 9999 + 1 from rfl]
    · cases hs
  · rename_i b1 b2 hx hy
    have hx' : a.eval x = .string b1 := opnd_ok h hx
    have hy' : a.eval y = .string b2 := opnd_ok h hy
    split at hs
    · obtain ⟨rfl, rfl⟩ := ok_some hs
      refine OpOk.put h hd (v := .bool (seq_ b1 b2)) rfl ?_
      unfold execOp
      simp only [ho, hx', hy']
      simp [eqGuard, binOp, Op.stringOp, seq_]
      rw [beq_toListBytes]
    · obtain ⟨rfl, rfl⟩ := ok_some hs
      refine OpOk.put h hd (v := .bool (not_ (seq_ b1 b2))) rfl ?_
      unfold execOp
      simp only [ho, hx', hy']
      simp [eqGuard, binOp, Op.stringOp, seq_, not_]
      rw [beq_toListBytes]
    · cases hs
  · rename_i c1 c2 hx hy
    obtain ⟨xs, hx', hcx⟩ := opnd_ok h hx
    obtain ⟨ys, hy', hcy⟩ := opnd_ok h hy
    split at hs
    · rename_i ti hti
      cases he : ti.eq with
      | false => rw [he] at hs; cases hs
      | true =>
        rw [he] at hs
        simp only [cond_true] at hs
        split at hs
        · rename_i u hu
          split at hs
          · rename_i vx vy r1 r2
            have hrow := hE.types t ti hti
            unfold tyRow at hrow
            rw [hu, he] at hrow
            simp only [Bool.not_true, Bool.false_or, Bool.and_eq_true] at hrow
            have hok := hrow.1
            unfold eqOk at hok
            cases hund : P.underlying t with
            | none => rw [hund] at hok; cases hok
            | some d =>
              rw [hund] at hok
              cases d with
              | struct fs =>
                simp only [Bool.and_eq_true, Bool.not_eq_true'] at hok
                obtain ⟨⟨hg, hst⟩, hfs⟩ := hok
                have hfo : P.fieldsOf t = fs := by unfold Program.fieldsOf; rw [hund]
                have run : ∀ b, eqT u vx vy = some b → (Op.equal t (.agg xs) (.agg ys)).run P w = .ok b w := by
                  intro b hb
                  unfold Op.equal
                  rw [show Op.maxDepth = 9998 + 1 + 1 from rfl, run_equalIn_struct w (9998 + 1) t xs ys (by rw [hfo]; exact hund) hst, hfo]
                  exact run_eqFields 9998 fs.toList 0 u hfs (by simpa using hcx) (by simpa using hcy) r1 r2 hb
                split at hs
                · rename_i q' hb
                  obtain ⟨rfl, rfl⟩ := ok_some hs
                  refine OpOk.put h hd (v := .bool q') rfl ?_
                  unfold execOp
                  simp only [ho, hx', hy']
                  simp [eqGuard, binOp, hg, run q' hb]
                · rename_i q' hb
                  obtain ⟨rfl, rfl⟩ := ok_some hs
                  refine OpOk.put h hd (v := .bool (not_ q')) rfl ?_
                  unfold execOp
                  simp only [ho, hx', hy']
                  simp [eqGuard, binOp, hg, run q' hb, not_]
                · cases hs
              | _ => cases hok
          · cases hs
        · cases hs
    · cases hs
  · cases hs
end

end Go.Proofs.Ytigkodlbjimikaa.Vc
