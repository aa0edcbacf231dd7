/- Operations by the machine and by the reading: appends. -/
import Derived.Test.YtigkodlbjimikaaVcR
namespace Go.Proofs.Ytigkodlbjimikaa.Vc
open Go Go.RowKit
set_option linter.unusedVariables false
set_option linter.unusedSimpArgs false

section
variable {P : Program} {E : Env} {C : Ctx} {G : Gh} {s : St} {a : Act} {w : World}

/-- Elements that stay, in a row. -/
theorem VRep.elems {I : Nat → Prop} {t : Ty} {ad : Addr} : ∀ (xs : List t.den) (k0 : Nat), (∀ (i : Nat) (h : i < xs.length), ∃ cs : List Value, (∀ j v, cs[j]? = some v → w.cell? (ad.add ((k0 + i) * t.size + j)) = some v) ∧ VRep I w t xs[i] cs) →
    ∃ news, news.length = xs.length * t.size ∧ (∀ j v, news[j]? = some v → w.cell? (ad.add (k0 * t.size + j)) = some v) ∧ Elems (fun x cs fp => VRep I w t x cs ∧ fp = []) xs news []
  | [], k0, _ => ⟨[], by simp, fun j v hj => by simp at hj, rfl, rfl⟩
  | x :: xs, k0, h => by
    obtain ⟨cs, h1, h2⟩ := h 0 (by simp)
    obtain ⟨news, k1, k2, k3⟩ := VRep.elems xs (k0 + 1) (fun i hi => by
      obtain ⟨cs, h1, h2⟩ := h (i + 1) (by simp; omega)
      exact ⟨cs, fun j v hj => by rw [show k0 + 1 + i = k0 + (i + 1) by omega]; exact h1 j v hj, h2⟩)
    have hl : cs.length = t.size := h2.length
    refine ⟨cs ++ news, by rw [List.length_append, hl, k1, List.length_cons, Nat.add_mul, Nat.one_mul, Nat.add_comm], fun j v hj => ?_, cs, news, [], [], rfl, rfl, ⟨h2, rfl⟩, k3⟩
    by_cases hj' : j < cs.length
    · rw [List.getElem?_append_left hj'] at hj
      have := h1 j v hj
      rwa [Nat.add_zero] at this
    · rw [List.getElem?_append_right (by omega), hl] at hj
      have := k2 _ v hj
      rwa [show (k0 + 1) * t.size + (j - t.size) = k0 * t.size + j by rw [Nat.add_mul, Nat.one_mul]; omega] at this
theorem Elems.oneAll {α : Type} {D : α → List Value → List Nat → Prop} (hD : ∀ x cs fp, D x cs fp → ∀ v ∈ cs, v.oneCell' = true) : ∀ {xs : List α} {cs : List Value} {fp : List Nat}, Elems D xs cs fp → ∀ v ∈ cs, v.oneCell' = true
  | [], _, _, h, v, hv => by obtain ⟨rfl, _⟩ := h; cases hv
  | _ :: _, _, _, h, v, hv => by
    obtain ⟨c1, c2, f1, f2, rfl, _, hx, hr⟩ := h
    rcases List.mem_append.1 hv with hv | hv
    · exact hD _ _ _ hx v hv
    · exact hr.oneAll hD v hv
/-- What is appended. -/
theorem append_y (h : Core C G s w) {c : Cell} {v : Value} (hc : CRep G s.reg w c v) {e : TypeId} {u : Ty} {ys : List u.den} (hs : s.slice c = some ⟨e, u, ys⟩) {gv : List Nat} (hg : (bif u.deep then gives [c] else some []) = some gv) :
    ∃ p cap news f, v = .slice p ys.length cap ∧ (p = none → ys.length = 0) ∧ news.length = ys.length * u.size ∧ (∀ ad, p = some ad → ∀ j x, news[j]? = some x → w.cell? (ad.add j) = some x) ∧ Elems (DRep w u) ys news f ∧ f.Nodup ∧ (∀ k ∈ f, k ∈ gv.flatMap G.fp) ∧ (∀ q ∈ gv, (s.reg q).isSome = true) ∧ (gv.length ≤ 1) := by
  cases hd : u.deep with
  | false =>
    rw [hd] at hg
    obtain rfl := Option.some.inj hg
    obtain ⟨p, cap, e1, _, hh⟩ := h.slice_v (I' := fun _ => True) (fun _ _ => trivial) hc hs (fun _ _ _ _ => trivial)
    obtain rfl : v = .slice p ys.length cap := by simpa using e1
    cases p with
    | none =>
      have hl : ys.length = 0 := by
        by_cases h0 : 0 < ys.length
        · obtain ⟨ad, e, _⟩ := hh 0 h0; cases e
        · omega
      obtain rfl := List.eq_nil_of_length_eq_zero hl
      exact ⟨none, cap, [], [], rfl, fun _ => rfl, by simp, fun _ e => (by cases e), ⟨rfl, rfl⟩, List.nodup_nil, fun _ hk => (by cases hk), fun _ hk => (by cases hk), Nat.zero_le _⟩
    | some ad =>
      obtain ⟨news, k1, k2, k3⟩ := VRep.elems (w := w) (I := fun _ => True) (t := u) (ad := ad) ys 0 (fun i hi => by
        obtain ⟨ad', e, _, cs, h1, h2⟩ := hh i hi
        obtain rfl := Option.some.inj e
        exact ⟨cs, fun j v hj => by rw [Nat.zero_add]; exact h1 j v hj, h2⟩)
      refine ⟨some ad, cap, news, [], rfl, fun e => (by cases e), k1, fun ad' e j x hj => ?_, k3.imp fun x cs fp hx => by rw [hx.2]; exact hx.1.flat hd, List.nodup_nil, fun _ hk => (by cases hk), fun _ hk => (by cases hk), Nat.zero_le _⟩
      obtain rfl := Option.some.inj e
      have := k2 j x hj
      rwa [Nat.zero_mul, Nat.zero_add] at this
  | true =>
    rw [hd] at hg
    simp only [cond_true] at hg
    obtain ⟨k1, k2⟩ := h.gives (cs := [c]) (vs := [v]) hg ⟨v, [], rfl, hc, rfl⟩
    have hnd : (gv.flatMap G.fp).Nodup ∧ gv.length ≤ 1 := by
      cases c with
      | own r => simp only [Vc.gives, Option.map_some, Option.some.injEq] at hg; subst hg; exact ⟨h.givenNodup (by simp) k2, by simp⟩
      | nil e t => obtain rfl := Option.some.inj hg; exact ⟨List.nodup_nil, by simp⟩
      | _ => simp [St.slice] at hs <;> cases hg
    obtain ⟨v', l, f, fl, e1, e2, hdc, hl⟩ := k1
    obtain ⟨rfl, rfl⟩ := hl
    obtain rfl : v = v' := by simpa using e1
    rw [List.append_nil] at e2
    have hd' : DRep w (.sl e u) ys [v] f := by
      cases c with
      | int k n => simp [St.slice] at hs
      | bool b => simp [St.slice] at hs
      | str b => simp [St.slice] at hs
      | _ => exact hdc _ _ _ hs
    obtain ⟨v', cells, fps, e3, ho, e4, hel⟩ := hd'
    obtain rfl : v = v' := by simpa using e3
    obtain ⟨A, cap, rfl, _, hA⟩ := own_le ho
    have hnd' := hnd.1
    rw [e2, e4] at hnd'
    refine ⟨A, cap, cells, fps, rfl, fun e => ?_, ho.1, fun ad e j x hj => ?_, hel, (List.nodup_append.1 hnd').2.1, fun k hk => by rw [e2, e4]; simp [hk], k2, hnd.2⟩
    · by_cases h0 : 0 < ys.length
      · obtain ⟨g, e', _⟩ := hA h0; rw [e] at e'; cases e'
      · omega
    · subst e
      rcases ho.2 with ⟨e', _⟩ | ⟨g, cap', cur, e', _⟩
      · simp at e'
      · have := ho.cells (g := g) (by rw [e']; rfl) j x hj
        simp only [Value.slice.injEq, Option.some.injEq] at e'
        rw [e'.1]; exact this
/-- What is appended to. -/
theorem append_x (h : Core C G s w) {c : Cell} {v : Value} (hc : CRep G s.reg w c v) {e : TypeId} {u : Ty} {xs : List u.den} (hs : s.slice c = some ⟨e, u, xs⟩) (hk : (∃ e' t', c = .nil e' t') ∨ (∃ r, c = .own r) ∨ ∃ r lo n, c = .sub r true lo n) :
    ∃ cells f, w.ownsRow 0 e u.size v xs.length cells ∧ Elems (DRep w u) xs cells f ∧ (blockOf v ++ f).Nodup ∧ (∀ r, c.of = some r → ∀ k ∈ blockOf v ++ f, k ∈ G.fp r) ∧ (c.of = none → blockOf v ++ f = []) := by
  rcases hk with ⟨e', t', rfl⟩ | ⟨r, rfl⟩ | ⟨r, lo, n, rfl⟩
  · simp only [St.slice, Option.some.injEq] at hs
    cases hs
    rw [show v = .slice none 0 0 from hc]
    exact ⟨[], [], World.ownsRow_nil w 0 e u.size, ⟨rfl, rfl⟩, List.nodup_nil, fun r hr => (by cases hr), fun _ => rfl⟩
  · obtain ⟨g, hg, rfl⟩ := hc
    simp only [St.slice, hg, Option.map_some, Option.some.injEq] at hs
    cases hs
    obtain ⟨hd, hn⟩ := h.reg r g hg
    obtain ⟨v', cells, fps, e1, ho, e2, hel⟩ := hd
    obtain rfl : G.root r = v' := by simpa using e1
    refine ⟨cells, fps, ho, hel, by rw [← e2]; exact hn, fun q hq k hk => ?_, fun e => (by cases e)⟩
    obtain rfl : r = q := Option.some.inj hq
    rw [e2]; exact hk
  · obtain ⟨g, A, len, c, hg, hroot, k1, k2, k3, k4, rfl⟩ := hc
    obtain rfl : lo = 0 := k4 rfl
    simp only [St.slice, hg, Option.map_some, Option.some.injEq] at hs
    cases hs
    obtain ⟨hd, hn⟩ := h.reg r g hg
    obtain ⟨v', cells, fps, e1, ho, e2, hel⟩ := hd
    obtain rfl : G.root r = v' := by simpa using e1
    have hxl : (lcut g.xs 0 n).length = n.toNat := lcut_length _ (Int.le_refl _) k2 k3
    have hcut : lcut g.xs 0 n = g.xs.take n.toNat := by simp [lcut]
    have hv : (Value.slice (if c = (0 : Int).toNat then A else A.map (·.add ((0 : Int).toNat * g.t.size))) n.toNat (c - (0 : Int).toNat)) = .slice A n.toNat c := by
      have : A.map (·.add ((0 : Int).toNat * g.t.size)) = A := by cases A <;> simp [Addr.add]
      rw [this]; simp
    rw [hv, hxl]
    obtain ⟨c1, c2, f1, f2, hcells, hf, hl1, he1, he2⟩ := hel.cut (size := g.t.size) (fun _ _ _ h => h.length) n.toNat (by omega)
    have hb : blockOf (.slice A n.toNat c) = blockOf (G.root r) := by
      rw [hroot]; unfold blockOf Value.ownBlock; rcases A with _ | ⟨b, o, p⟩ <;> rfl
    refine ⟨c1, f1, ⟨by rw [hl1], ?_⟩, by rw [hcut]; exact he1, ?_, fun q hq k hk => ?_, fun e => (by cases e)⟩
    · rcases ho.2 with ⟨e', hz⟩ | ⟨gb, cap, cur, e', p1, p2, p3, p4, p5, p6⟩
      · rw [hroot] at e'
        obtain ⟨rfl, _, rfl⟩ : A = none ∧ len = 0 ∧ c = 0 := by simpa using e'
        have : n.toNat = 0 := by omega
        exact .inl ⟨by rw [this], this⟩
      · rw [hroot] at e'
        obtain ⟨rfl, _, rfl⟩ : A = some ⟨gb, 0, none⟩ ∧ len = g.xs.length ∧ c = cap := by simpa using e'
        refine .inr ⟨gb, c, cur, rfl, Nat.zero_le _, p2, by omega, p4, p5, ?_⟩
        have hle : n.toNat * g.t.size ≤ g.xs.length * g.t.size := Nat.mul_le_mul_right _ (by omega)
        have := congrArg (List.take (n.toNat * g.t.size)) p6
        rw [List.take_take, Nat.min_eq_left hle, hcells] at this
        rw [this, ← hl1]
        exact List.take_left
    · rw [hb]
      rw [e2, hf, ← List.append_assoc] at hn
      exact (List.nodup_append.1 hn).1
    · obtain rfl : r = q := Option.some.inj hq
      rw [hb] at hk
      rw [e2, hf, ← List.append_assoc]
      exact List.mem_append.2 (.inl hk)
theorem Frame_.grown (h : Frame_ C w) {w' : World} {row : Option Nat} (hg : w.grownBy w' row) (hok : ∀ k, row = some k → C.ok k) : Frame_ C w' := by
  refine ⟨hg.os.trans h.os, hg.tape.trans h.tape, hg.output.trans h.output, Nat.le_trans h.size hg.size, fun k hk hl => ?_⟩
  rw [hg.block k (Nat.lt_of_lt_of_le hk h.size) (fun e => by
    rcases hok k e.symm with hk' | hk'
    · omega
    · exact hl hk')]
  exact h.block k hk hl
theorem mem_blockOf {v : Value} {k : Nat} : k ∈ blockOf v ↔ v.ownBlock = some k := by
  unfold blockOf
  cases v.ownBlock with
  | none => simp
  | some g => simp [eq_comm]
/-- A region of what was there and what is new. -/
theorem Inv.appended (h : Inv C G s a w) {q : Nat} (hq : s.reg q = none) {e : TypeId} {u : Ty} {xs ys : List u.den} {cx cy : List Value} {fx fy : List Nat} {vx v' : Value} {w' : World}
    (ex : Elems (DRep w u) xs cx fx) (ey : Elems (DRep w u) ys cy fy) (hap : Apart C G s q (blockOf vx ++ (fx ++ fy)))
    (res : w'.ownsRow 0 e u.size v' (xs.length + ys.length) (cx ++ cy)) (hgr : w.grownBy w' vx.ownBlock) (hb : v'.ownBlock = vx.ownBlock ∨ v'.ownBlock = some w.heap.size) :
    ∃ G', Inv C G' (s.setReg q ⟨e, u, xs ++ ys, 0⟩) a w' ∧ G'.root q = v' := by
  have hm : Moved w w' (blockOf vx) := ⟨hgr.size, fun k hk hn => hgr.block k hk fun e => hn (mem_blockOf.2 e.symm)⟩
  have h3 := h.moved hm (fun k hk => by
    have hk' : k ∈ blockOf vx ++ (fx ++ fy) := List.mem_append.2 (.inl hk)
    refine ⟨hap.still k hk', hap.box k hk', fun r g hg => hap.reg k hk' r g (fun e => ?_) hg⟩
    rw [e, hq] at hg; cases hg) (h.frame.grown hgr fun k hk => hap.ok k (List.mem_append.2 (.inl (mem_blockOf.2 hk))))
  obtain ⟨n1, n2, n3⟩ := List.nodup_append.1 hap.nodup
  have hlt : ∀ k ∈ fx ++ fy, k < w.heap.size := fun k hk => (List.mem_append.1 hk).elim (ex.lt (fun _ _ _ h => h.lt) k) (ey.lt (fun _ _ _ h => h.lt) k)
  have hkeep : ∀ k ∈ fx ++ fy, w'.heap[k]? = w.heap[k]? := fun k hk => hgr.block k (hlt k hk) fun e => n3 k (mem_blockOf.2 e.symm) k hk rfl
  have hap' : Apart C G s q (blockOf v' ++ (fx ++ fy)) := by
    have h1 : Apart C G s q (fx ++ fy) := hap.sub n2 fun k hk => List.mem_append.2 (.inr hk)
    rcases hb with hb | hb
    · have : blockOf v' = blockOf vx := by unfold blockOf; rw [hb]
      rw [this]; exact hap
    · have : blockOf v' = [w.heap.size] := by unfold blockOf; rw [hb]
      rw [this]
      refine (h.toCore.fresh q).append h1 fun k hk hk' => ?_
      obtain rfl : k = w.heap.size := by simpa using hk
      exact absurd (hlt _ hk') (Nat.lt_irrefl _)
  refine ⟨_, h3.newReg hq (g := ⟨e, u, xs ++ ys, 0⟩) (root := v') hap' (old := []) ⟨Nat.le_refl _, fun _ _ _ => rfl⟩ (fun _ hk => by cases hk) h3.frame rfl ?_, upd_same _ _ _⟩
  refine ⟨v', cx ++ cy, fx ++ fy, rfl, by rw [List.length_append]; exact res, rfl, ?_⟩
  have el : ∀ {zs : List u.den} {cs : List Value} {fp : List Nat}, (∀ k ∈ fp, k ∈ fx ++ fy) → Elems (DRep w u) zs cs fp → Elems (DRep w' u) zs cs fp := fun hk h =>
    h.impF (fun k => k ∈ fx ++ fy) (fun _ _ _ hk hx => hx.frame fun k hkk => hkeep k (hk k hkk)) hk
  exact (el (fun k hk => by simp [hk]) ex).append (el (fun k hk => by simp [hk]) ey)
theorem op_append (hE : EnvOk P E) (h : Inv C G s a w) {o : Oper} (hd : ∀ t, o.dst = some t → t < C.nt) {H : Hints} {as : Array Operand} {ts : Array TypeId} (ho : o.op = .call { callee := .builtin .append, args := as, argTypes := ts }) {q : Bool} {s' : St} (hs : astep E H s o = some (q, s')) (hq : q = true) : OpOk P C s' a o w := by
  unfold astep at hs
  simp only [ho] at hs
  split at hs
  · rename_i x y t t' has hts
    split at hs
    · rename_i cx cy hx hy
      cases htt : (t == t') with
      | false => rw [htt] at hs; cases hs
      | true =>
        rw [htt] at hs
        obtain rfl : t = t' := by simpa using htt
        simp only [cond_true] at hs
        have has' : as = #[x, y] := Array.toList_inj.1 (by rw [has])
        have hts' : ts = #[t, t] := Array.toList_inj.1 (by rw [hts])
        subst has' hts'
        have hvx := cell_ok h hx
        have hvy := cell_ok h hy
        unfold append at hs
        split at hs
        · rename_i dd e u xs e' u' ys hdst hsx hsy
          split at hs
          · rename_i ys' ti hcast hti
            cases hcheck : (u.size == 0 || !(slTy E t e u)) with
            | true => rw [hcheck] at hti; cases hti
            | false =>
              rw [hcheck] at hti
              simp only [cond_false] at hti
              simp only [Bool.or_eq_false_iff, beq_eq_false_iff_ne, ne_eq, Bool.not_eq_false'] at hcheck
              obtain ⟨hsz0, hty⟩ := hcheck
              obtain ⟨eqt, rfl⟩ := cast_some hcast
              obtain rfl : u' = u := by injection eqt
              have hEt : E.ty t = some (.sl e u') := by
                unfold slTy at hty
                split at hty
                · rename_i e0 u0 hE0
                  simp only [Bool.and_eq_true, beq_iff_eq, decide_eq_true_eq] at hty
                  rw [hE0, hty.1, hty.2]
                · cases hty
              obtain ⟨ti0, _, _, hf⟩ := hE.ty hEt
              obtain ⟨hund, hue⟩ := hf.slice
              obtain ⟨tie, htie, _, hfe⟩ := hE.ty hue
              obtain rfl : ti = tie := by rw [hti] at htie; exact Option.some.inj htie
              obtain ⟨inf, z, hinf, hz, hsz, hby, hzs, hzm⟩ := hfe.info
              split at hs
              · rename_i gv hgv
                obtain ⟨p, cap, news, fy, hvy', hp0, hnl, hnc, hely, hfyn, hfys, hgs, hgl⟩ := append_y h.toCore hvy hsy hgv
                have hgn : gv.Nodup := by
                  rcases gv with _ | ⟨g1, _ | ⟨g2, gv⟩⟩
                  · exact List.nodup_nil
                  · simp
                  · simp at hgl
                -- the machine
                have main : ∀ {s2 : St} {q0 : Nat}, ((∃ e' t', cx = .nil e' t') ∨ (∃ r, cx = .own r) ∨ ∃ r lo n, cx = .sub r true lo n) → Inv C G s2 a w → s2.reg q0 = none → Apart C G s2 q0 (gv.flatMap G.fp) → (∀ r, cx.of = some r → Apart C G s2 q0 (G.fp r) ∧ ∀ k ∈ gv.flatMap G.fp, k ∉ G.fp r) →
                    ile (llen (lapp xs ys)) (rooms ti.bytes : Nat) = true → OpOk P C ((s2.setReg q0 ⟨e, u', lapp xs ys, 0⟩).put o.dst (.c (.own q0))) a o w := by
                  intro s2 q0 hk h2 hq0 hapg hapx hc
                  obtain ⟨cells, fx, hox, helx, hnx, hofx, hof0⟩ := append_x h.toCore hvx hsx hk
                  have hc1 := ile_of hc
                  have hc2 : (llen (lapp xs ys)) = ((xs.length + ys.length : Nat) : Int) := by simp [llen, lapp]
                  rw [hc2] at hc1
                  obtain ⟨r1, r2⟩ := rooms_le (n := ((xs.length + ys.length : Nat) : Int)) (by omega) hc1
                  rw [Int.toNat_natCast] at r1
                  have hap : Apart C G s2 q0 (blockOf (a.eval x) ++ (fx ++ fy)) := by
                    have h1 := hapg.sub hfyn hfys
                    cases hof : cx.of with
                    | none =>
                      have := hof0 hof
                      obtain ⟨e1, e2⟩ := List.append_eq_nil_iff.1 this
                      rw [e1, e2]; exact h1
                    | some r =>
                      have h2 := ((hapx r hof).1).sub hnx (hofx r hof)
                      rw [← List.append_assoc]
                      exact h2.append h1 fun k hk hk' => (hapx r hof).2 k (hfys k hk') (hofx r hof k hk)
                  have run : ∀ {v' w'}, (Builtin.append_ #[t, t] o.type #[a.eval x, a.eval y]).run P w = .ok v' w' → (execOp a.eval o).run P w = .ok (.value v') w' := by
                    intro v' w' hr
                    unfold execOp
                    simp only [ho]
                    simp [resolve, invoke, builtin, hr]
                  cases p with
                  | none =>
                    have hy0 := hp0 rfl
                    obtain rfl := List.eq_nil_of_length_eq_zero hy0
                    have hn0 : news = [] := List.eq_nil_of_length_eq_zero (by simpa using hnl)
                    subst hn0
                    obtain ⟨G', hi, hroot⟩ := h2.appended hq0 (e := e) (v' := a.eval x) (w' := w) helx hely hap (by rw [List.append_nil]; exact hox) ⟨rfl, rfl, rfl, Nat.le_refl _, fun _ _ _ => rfl⟩ (.inl rfl)
                    refine ⟨_, _, _, .inl (run ?_), hi.putO hd (x := .c (.own q0)) ⟨_, by rw [setReg_reg, if_pos rfl], hroot.symm⟩⟩
                    rw [hvy']
                    rcases hox.2 with ⟨e1, _⟩ | ⟨g, cap', cur, e1, _, _, p3, _⟩
                    · rw [e1]; simp [Builtin.append_, run_underlying hund, sizeOf, typeInfo, hinf, Builtin.lenOf, Builtin.firstCells]
                    · rw [e1]; simp [Builtin.append_, run_underlying hund, sizeOf, typeInfo, hinf, Builtin.lenOf, Builtin.firstCells, p3, storeCells]
                  | some ad =>
                    obtain ⟨v', w', hr, hown, hgr, _, hb⟩ := run_append_own_at (P := P) w 0 t o.type e inf z u'.size ti.bytes hund hinf hz hsz hby hzs (by omega) (a.eval x) xs.length cells hox ad ys.length cap news hnl (hnc ad rfl)
                      (fun v hv => by
                        obtain ⟨j, hj, e⟩ := List.getElem_of_mem hv
                        exact Elems.oneAll (fun _ _ _ h => h.one) hely v hv) (by simp only [maxLen]; omega) (by rw [Nat.mul_comm]; omega) (Nat.zero_le _)
                    obtain ⟨G', hi, hroot⟩ := h2.appended hq0 (e := e) helx hely hap hown hgr hb
                    rw [← hvy'] at hr
                    exact ⟨_, _, _, .inl (run hr), hi.putO hd (x := .c (.own q0)) ⟨_, by rw [setReg_reg, if_pos rfl], hroot.symm⟩⟩
                have ownCase : ∀ {r : Nat}, cx.of = some r → ((∃ e' t', cx = .nil e' t') ∨ (∃ r, cx = .own r) ∨ ∃ r lo n, cx = .sub r true lo n) → r ∉ gv → ile (llen (lapp xs ys)) (rooms ti.bytes : Nat) = true → OpOk P C ((((Vc.dropAll gv s).drop r).setReg r ⟨e, u', lapp xs ys, 0⟩).put o.dst (.c (.own r))) a o w := by
                  intro r hof hk hr hc
                  obtain ⟨g, hg⟩ := Option.isSome_iff_exists.1 (hvx.has hof)
                  have down : ∀ {f : List Nat}, Apart C G (Vc.dropAll gv s) r f → Apart C G ((Vc.dropAll gv s).drop r) r f := fun hf =>
                    ⟨hf.nodup, hf.still, fun k hk b x hb => by obtain ⟨y, hy, _⟩ := map_box hb; exact hf.box k hk b y hy, fun k hk q g hq hg => hf.reg k hk q g hq (drop_reg_some hg).2, hf.ok⟩
                  refine main hk ((h.dropAll gv).drop r) (by rw [drop_reg, if_pos rfl]) (down (h.toCore.given hgn hgs r)) ?_ hc
                  intro r' hr'
                  obtain rfl : r' = r := by rw [hof] at hr'; exact (Option.some.inj hr').symm
                  exact ⟨down ((h.toCore.apartOwn hg).dropAll gv), h.toCore.givenOut hgs hg hr⟩
                split at hs
                · cases hb : (s.reg (siteLab dd)).isSome with
                  | true => rw [hb] at hs; cases hs
                  | false =>
                    rw [hb] at hs
                    simp only [cond_false, Option.some.injEq, Prod.mk.injEq] at hs
                    obtain ⟨hc, rfl⟩ := hs
                    have hn : s.reg (siteLab dd) = none := by cases hg : s.reg (siteLab dd) with | none => rfl | some x => rw [hg] at hb; cases hb
                    exact main (.inl ⟨_, _, rfl⟩) (h.dropAll gv) (by rw [dropAll_reg, hn]; split <;> rfl) (h.toCore.given hgn hgs _) (fun r hr => by cases hr) (hc.trans hq)
                · rename_i r
                  cases hb : gv.contains r with
                  | true => rw [hb] at hs; cases hs
                  | false =>
                    rw [hb] at hs
                    simp only [cond_false, Option.some.injEq, Prod.mk.injEq] at hs
                    obtain ⟨hc, rfl⟩ := hs
                    exact ownCase rfl (.inr (.inl ⟨r, rfl⟩)) (by simpa using hb) (hc.trans hq)
                · rename_i r lo n
                  cases hb : gv.contains r with
                  | true => rw [hb] at hs; cases hs
                  | false =>
                    rw [hb] at hs
                    simp only [cond_false, Option.some.injEq, Prod.mk.injEq] at hs
                    obtain ⟨hc, rfl⟩ := hs
                    exact ownCase rfl (.inr (.inr ⟨r, lo, n, rfl⟩)) (by simpa using hb) (hc.trans hq)
                · cases hs
              · cases hs
          · cases hs
        · cases hs
    · cases hs
  · cases hs
end

end Go.Proofs.Ytigkodlbjimikaa.Vc
