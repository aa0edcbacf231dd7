/- Operations by the machine and by the reading: stores. -/
import Derived.Test.YtigkodlbjimikaaVcP
namespace Go.Proofs.Ytigkodlbjimikaa.Vc
open Go Go.RowKit
set_option linter.unusedVariables false
set_option linter.unusedSimpArgs false

section
variable {P : Program} {E : Env} {C : Ctx} {G : Gh} {s : St} {a : Act} {w : World}

/-! ### stores -/
theorem run_storeK {t : TypeId} {u : Ty} {ti : TI} (hf : TyFact P E t ti u) {g o : Nat} {tt : TypeId} {cur : Array Value} (hg : w.heap[g]? = some (.cells cur tt (0, 0))) {x : Value} (hx : x.cells.size = u.size) (hfit : o + u.size ≤ cur.size) (h1 : ∀ v ∈ x.cells.toList, v.oneCell' = true) :
    (Instr.storeAt t (.pointer (some ⟨g, o, none⟩)) x).run P w = .ok () (w.setRow g (cur.toList.take o ++ x.cells.toList ++ cur.toList.drop (o + u.size)).toArray) := by
  obtain ⟨inf, z, hinf, _, hsz, _⟩ := hf.info
  have hst := run_storeCells_at P g o tt x.cells.toList 0 cur w hg (by rw [Array.length_toList]; omega) h1
  simp only [Nat.add_zero, Array.length_toList, hx] at hst
  simp [Instr.storeAt, Instr.sureAddr, storeVar, sizeOf, typeInfo, hinf, hsz, hx, hst]
/-- The cells of an element, with the memory they own. -/
theorem ocells_dcs {r : Nat} {i : Int} {g : Reg} (hg : s.reg r = some g) : ∀ {t : Ty} {x : t.den} {vs : List Value} {f : List Nat} {off : Nat}, (∀ e' t' o', o' < t.size → innAt e' t' g.t (off + o') (lget g.xs i) = innAt e' t' t o' x) → DRep w t x vs f → DCs s w (ocells r i t off x) vs f
  | .int _, _, _, _, _, _, h => by obtain ⟨rfl, rfl⟩ := h; exact ⟨_, _, [], [], rfl, rfl, ⟨rfl, rfl⟩, rfl, rfl⟩
  | .bool, _, _, _, _, _, h => by obtain ⟨rfl, rfl⟩ := h; exact ⟨_, _, [], [], rfl, rfl, ⟨rfl, rfl⟩, rfl, rfl⟩
  | .str, _, _, _, _, _, h => by obtain ⟨rfl, rfl⟩ := h; exact ⟨_, _, [], [], rfl, rfl, ⟨rfl, rfl⟩, rfl, rfl⟩
  | .unit, _, _, _, _, _, h => h
  | .opq, _, _, _, _, _, h => by
    obtain ⟨⟨v, rfl, _⟩, rfl⟩ := h
    exact ⟨_, _, [], [], rfl, rfl, fun e t xs hsl => by simp [St.slice] at hsl, rfl, rfl⟩
  | .sl e t, x, vs, f, off, hi, h => by
    have h' := h
    obtain ⟨v, cells, fps, rfl, _⟩ := h'
    refine ⟨v, [], f, [], rfl, by simp, ?_, rfl, rfl⟩
    intro e' t' xs hsl
    have := hi e t 0 (by simp [Ty.size])
    simp only [St.slice, hg, Option.bind_some, Nat.add_zero] at hsl this
    rw [this] at hsl
    simp only [innAt, beq_self_eq_true, Bool.and_self, cond_true, cast_self, Option.map_some, Option.some.injEq] at hsl
    cases hsl
    exact h
  | .pair a b, x, vs, f, off, hi, h => by
    obtain ⟨v1, v2, f1, f2, rfl, rfl, h1, h2⟩ := h
    refine (ocells_dcs hg (t := a) (fun e' t' o' ho => ?_) h1).append (ocells_dcs hg (t := b) (fun e' t' o' ho => ?_) h2)
    · rw [hi e' t' o' (by simp only [Ty.size]; omega)]
      rw [innAt, show Nat.blt o' a.size = true from Nat.ble_eq_true_of_le ho]
      simp only [cond_true]
    · rw [Nat.add_assoc, hi e' t' (a.size + o') (by simp only [Ty.size]; omega)]
      have hb : Nat.blt (a.size + o') a.size = false := by
        cases hb : Nat.blt (a.size + o') a.size with
        | false => rfl
        | true => have := Nat.le_of_ble_eq_true hb; omega
      rw [innAt, hb]
      simp only [cond_false, Nat.add_sub_cancel_left]
theorem Core.apartOwn (h : Core C G s w) {r : Nat} {g : Reg} (hg : s.reg r = some g) : Apart C G s r (G.fp r) :=
  ⟨(h.reg r g hg).2, fun k hk => h.ir r g k hg hk, fun k hk b x hb e => h.rb r g b x hg hb (e ▸ hk), fun k hk q g' hq hg' hk' => h.rr q r g' g hg' hg hq k hk' hk, fun k hk => h.or r g k hg hk⟩
theorem Apart.dropAll {r : Nat} {f : List Nat} (h : Apart C G s r f) (gv : List Nat) : Apart C G (Vc.dropAll gv s) r f := by
  refine ⟨h.nodup, h.still, fun k hk b x hb => ?_, fun k hk q g hq hg => ?_, h.ok⟩
  · obtain ⟨y, hy⟩ := dropAll_box gv s b x hb; exact h.box k hk b y hy
  · rw [dropAll_reg] at hg
    by_cases e : q ∈ gv
    · rw [if_pos e] at hg; cases hg
    · rw [if_neg e] at hg; exact h.reg k hk q g hq hg
theorem Core.givenOut (h : Core C G s w) {gv : List Nat} (hgs : ∀ q ∈ gv, (s.reg q).isSome = true) {r : Nat} {g : Reg} (hg : s.reg r = some g) (hgr : r ∉ gv) : ∀ k ∈ gv.flatMap G.fp, k ∉ G.fp r := by
  intro k hk hk'
  obtain ⟨q, hq, hkq⟩ := List.mem_flatMap.1 hk
  obtain ⟨g', hg'⟩ := Option.isSome_iff_exists.1 (hgs q hq)
  exact h.rr q r g' g hg' hg (fun e => hgr (e ▸ hq)) k hkq hk'
/-- An element is put anew. -/
theorem Inv.setElem (h : Inv C G s a w) {r : Nat} {g : Reg} (hg : s.reg r = some g) {i : Int} (h0 : 0 ≤ i) (h1 : i < (g.xs.length : Int)) {gv : List Nat} (hgn : gv.Nodup) (hgs : ∀ q ∈ gv, (s.reg q).isSome = true) (hgr : r ∉ gv) {y : g.t.den} {off n : Nat} {new : List Value} (hnl : new.length = n) (hfit : off + n ≤ g.t.size)
    (hy : ∀ gb c cells f, G.root r = .slice (some ⟨gb, 0, none⟩) g.xs.length c → DRep w g.t (lget g.xs i) cells f → (∀ j v, cells[j]? = some v → w.cell? ⟨gb, i.toNat * g.t.size + j, none⟩ = some v) → f.Nodup → (∀ k ∈ f, k ∈ G.fp r) →
      ∃ f', DRep w g.t y (cells.take off ++ new ++ cells.drop (off + n)) f' ∧ f'.Nodup ∧ ∀ k ∈ f', k ∈ f ∨ k ∈ gv.flatMap G.fp) :
    ∃ gb c cur e, G.root r = .slice (some ⟨gb, 0, none⟩) g.xs.length c ∧ w.heap[gb]? = some (.cells cur e (0, 0)) ∧ i.toNat * g.t.size + off + n ≤ cur.size ∧
      ∃ G', Inv C G' (((Vc.dropAll gv s).map (noInn r)).setReg r { g with xs := lset g.xs i y }) a (w.setRow gb (cur.toList.take (i.toNat * g.t.size + off) ++ new ++ cur.toList.drop (i.toNat * g.t.size + off + n)).toArray) := by
  obtain ⟨hd, hnod⟩ := h.toCore.reg r g hg
  obtain ⟨v, cells, fps, e1, ho, e2, hel⟩ := hd
  obtain rfl : G.root r = v := by simpa using e1
  have hi : i.toNat < g.xs.length := by omega
  have hne : g.xs.length ≠ 0 := by omega
  obtain ⟨hlen, hrow⟩ := ho
  rcases hrow with ⟨_, hz⟩ | ⟨gb, cap, cur, hroot, _, hheap, hnc, hcm, hcs, htake⟩
  · exact absurd hz hne
  obtain ⟨c1, cc, c2, f1, f, f2, hcells, hfps, hl1, he1, hx, he2⟩ := hel.at_ (size := g.t.size) (fun _ _ _ h => h.length) i.toNat hi
  have hlx := hx.length
  have hfp : G.fp r = gb :: (f1 ++ (f ++ f2)) := by rw [e2, hfps, hroot]; rfl
  rw [hfp] at hnod
  obtain ⟨hgb, hnod2⟩ := List.nodup_cons.1 hnod
  obtain ⟨nf1, nf0, df1⟩ := List.nodup_append.1 hnod2
  obtain ⟨nf, nf2, df2⟩ := List.nodup_append.1 nf0
  have hcell : ∀ j u, cells[j]? = some u → w.cell? ⟨gb, j, none⟩ = some u := by
    intro j u hj
    rw [cell_of_row w gb j cur g.e (0, 0) hheap]
    rw [← htake, List.getElem?_take] at hj
    split at hj
    · simpa using hj
    · cases hj
  rw [← lget_at g.xs i h0 h1] at hx
  obtain ⟨f', hy1, hy2, hy3⟩ := hy gb cap cc f hroot hx (fun j u hj => hcell _ _ (by
    rw [hcells, List.getElem?_append_right (by omega), hl1, Nat.add_sub_cancel_left, List.getElem?_append_left (List.getElem?_eq_some_iff.1 hj).1]; exact hj)) nf (fun k hk => by rw [hfp]; simp [hk])
  -- the given parts lie apart
  have hgv := h.toCore.given hgn hgs r
  have hgvr := h.toCore.givenOut hgs hg hgr
  have hown := (h.toCore.apartOwn hg).dropAll gv
  have hfit2 : i.toNat * g.t.size + g.t.size ≤ g.xs.length * g.t.size := by
    have := Nat.mul_le_mul_right g.t.size (show i.toNat + 1 ≤ g.xs.length from hi)
    rwa [Nat.add_mul, Nat.one_mul] at this
  have hcap : g.xs.length * g.t.size ≤ cap * g.t.size := Nat.mul_le_mul_right _ hnc
  have hsize : i.toNat * g.t.size + off + n ≤ cur.size := by omega
  refine ⟨gb, cap, cur, g.e, hroot, hheap, hsize, ?_⟩
  have nodupN : (gb :: (f1 ++ (f' ++ f2))).Nodup := by
    have hin : ∀ k ∈ f', k ∉ f1 ∧ k ∉ f2 ∧ k ≠ gb := by
      intro k hk
      rcases hy3 k hk with hk | hk
      · exact ⟨fun hk' => df1 k hk' k (List.mem_append.2 (.inl hk)) rfl, fun hk' => df2 k hk k hk' rfl, fun e => hgb (e ▸ List.mem_append.2 (.inr (List.mem_append.2 (.inl hk))))⟩
      · have := hgvr k hk
        rw [hfp] at this
        exact ⟨fun hk' => this (by simp [hk']), fun hk' => this (by simp [hk']), fun e => this (by simp [e])⟩
    refine List.nodup_cons.2 ⟨?_, ?_⟩
    · intro hm
      rcases List.mem_append.1 hm with hm | hm
      · exact hgb (List.mem_append.2 (.inl hm))
      · rcases List.mem_append.1 hm with hm | hm
        · exact (hin gb hm).2.2 rfl
        · exact hgb (List.mem_append.2 (.inr (List.mem_append.2 (.inr hm))))
    · refine List.nodup_append.2 ⟨nf1, List.nodup_append.2 ⟨hy2, nf2, fun k hk k' hk' e => (hin k hk).2.1 (e ▸ hk')⟩, ?_⟩
      intro k hk k' hk' e
      subst e
      rcases List.mem_append.1 hk' with hk' | hk'
      · exact (hin k hk').1 hk
      · exact df1 k hk k (List.mem_append.2 (.inr hk')) rfl
  have subN : ∀ k ∈ gb :: (f1 ++ (f' ++ f2)), k ∈ G.fp r ∨ k ∈ gv.flatMap G.fp := by
    intro k hk
    rw [hfp]
    rcases List.mem_cons.1 hk with rfl | hk
    · exact .inl (by simp)
    · rcases List.mem_append.1 hk with hk | hk
      · exact .inl (by simp [hk])
      · rcases List.mem_append.1 hk with hk | hk
        · exact (hy3 k hk).imp (fun hk => by simp [hk]) id
        · exact .inl (by simp [hk])
  have hap : Apart C G (Vc.dropAll gv s) r (gb :: (f1 ++ (f' ++ f2))) :=
    ⟨nodupN, fun k hk => (subN k hk).elim (hown.still k) (hgv.still k), fun k hk => (subN k hk).elim (hown.box k) (hgv.box k), fun k hk => (subN k hk).elim (hown.reg k) (hgv.reg k), fun k hk => (subN k hk).elim (hown.ok k) (hgv.ok k)⟩
  have hg2 : (Vc.dropAll gv s).reg r = some g := by rw [dropAll_reg, if_neg hgr]; exact hg
  have hm := Moved.setRow w gb (cur.toList.take (i.toNat * g.t.size + off) ++ new ++ cur.toList.drop (i.toNat * g.t.size + off + n)).toArray
  refine ⟨_, (h.dropAll gv).setReg hg2 (g := { g with xs := lset g.xs i y }) rfl (by simp [lset]) rfl hap hm (fun k hk => .inl (by simp at hk; simp [hk])) (h.frame.setRow (h.toCore.or r g gb hg (by rw [hfp]; simp)) _) ?_⟩
  -- the region, told anew
  have fr : ∀ k ∈ f1 ++ (f' ++ f2), (w.setRow gb (cur.toList.take (i.toNat * g.t.size + off) ++ new ++ cur.toList.drop (i.toNat * g.t.size + off + n)).toArray).heap[k]? = w.heap[k]? := by
    intro k hk
    exact setRow_other w gb k _ (fun e => (List.nodup_cons.1 nodupN).1 (e ▸ hk))
  refine ⟨G.root r, c1 ++ ((cc.take off ++ new ++ cc.drop (off + n)) ++ c2), f1 ++ (f' ++ f2), rfl, ?_, by rw [hroot]; rfl, ?_⟩
  · -- the row
    have hl2 : (c1 ++ ((cc.take off ++ new ++ cc.drop (off + n)) ++ c2)).length = g.xs.length * g.t.size := by
      rw [← hlen, hcells]
      simp only [List.length_append, List.length_take, List.length_drop]
      omega
    refine ⟨by rw [show (lset g.xs i y).length = g.xs.length by simp [lset]]; exact hl2, .inr ⟨gb, cap, _, by rw [hroot]; simp [lset], Nat.zero_le _, setRow_heap w gb cur _ g.e _ hheap, by simpa [lset] using hnc, hcm, ?_, ?_⟩⟩
    · simp only [List.size_toArray, List.length_append, List.length_take, List.length_drop, Array.length_toList]
      omega
    · rw [show (lset g.xs i y).length = g.xs.length by simp [lset]]
      have hcur : cur.toList = cells ++ cur.toList.drop (g.xs.length * g.t.size) := by rw [← htake, List.take_append_drop]
      generalize hz : cur.toList.drop (g.xs.length * g.t.size) = rest at hcur
      have k1 : cur.toList.take (i.toNat * g.t.size + off) = c1 ++ cc.take off := by
        rw [hcur, hcells, List.append_assoc, List.append_assoc, List.take_append, List.take_of_length_le (by omega), hl1, Nat.add_sub_cancel_left, List.take_append, show off - cc.length = 0 by omega]; simp
      have k2 : cur.toList.drop (i.toNat * g.t.size + off + n) = cc.drop (off + n) ++ (c2 ++ rest) := by
        rw [hcur, hcells, List.append_assoc, List.append_assoc, List.drop_append, List.drop_of_length_le (by omega), List.nil_append, hl1, show i.toNat * g.t.size + off + n - i.toNat * g.t.size = off + n by omega, List.drop_append, show off + n - cc.length = 0 by omega]; simp
      have e4 : cur.toList.take (i.toNat * g.t.size + off) ++ new ++ cur.toList.drop (i.toNat * g.t.size + off + n) = (c1 ++ ((cc.take off ++ new ++ cc.drop (off + n)) ++ c2)) ++ rest := by
        rw [k1, k2]; simp only [List.append_assoc]
      rw [e4, ← hl2]
      exact List.take_left
  · -- its elements
    have hset : lset g.xs i y = g.xs.take i.toNat ++ (y :: g.xs.drop (i.toNat + 1)) := by
      unfold lset
      rw [List.set_eq_take_append_cons_drop, if_pos hi]
    rw [hset]
    have el : ∀ {xs : List g.t.den} {cs : List Value} {fp : List Nat}, (∀ k ∈ fp, k ∈ f1 ++ (f' ++ f2)) → Elems (DRep w g.t) xs cs fp → Elems (DRep (w.setRow gb (cur.toList.take (i.toNat * g.t.size + off) ++ new ++ cur.toList.drop (i.toNat * g.t.size + off + n)).toArray) g.t) xs cs fp := fun hk h =>
      h.impF (fun k => k ∈ f1 ++ (f' ++ f2)) (fun _ _ _ hk hx => hx.frame fun k hkk => fr k (hk k hkk)) hk
    refine (el (fun k hk => by simp [hk]) he1).append ⟨_, _, _, _, rfl, rfl, hy1.frame (fun k hk => fr k (by simp [hk])), el (fun k hk => by simp [hk]) he2⟩
theorem op_store (hE : EnvOk P E) (h : Inv C G s a w) {o : Oper} {H : Hints} {t : TypeId} {ad x : Operand} (ho : o.op = .store t ad x) {q : Bool} {s' : St} (hs : astep E H s o = some (q, s')) : OpOk P C s' a o w := by
  unfold astep at hs
  simp only [ho] at hs
  split at hs
  · rename_i u p new hu hp hx
    obtain ⟨ti, _, _, hf⟩ := hE.ty hu
    have hp' := cell_ok h hp
    obtain ⟨hc, h1⟩ := cells_ok h hx
    have hcl := hc.length
    rw [Array.length_toList] at hcl
    cases hb : (new.length == u.size && o.dst.isNone) with
    | false => rw [hb] at hs; cases hs
    | true =>
      rw [hb] at hs
      simp only [cond_true] at hs
      simp only [Bool.and_eq_true, beq_iff_eq, Option.isNone_iff_eq_none] at hb
      obtain ⟨hb1, hb2⟩ := hb
      have fin : ∀ {w' : World} {G' : Gh}, (Instr.storeAt t (a.eval ad) (a.eval x)).run P w = .ok () w' → Inv C G' s' a w' → OpOk P C s' a o w := by
        intro w' G' hr hi
        refine ⟨undef, w', G', .inr ⟨?_, rfl⟩, by rw [hb2]; exact hi⟩
        unfold execOp
        simp only [ho]
        rw [Sem.run_bind, hr, Result.andThen_ok]; rfl
      split at hs
      · rename_i b off
        split at hs
        · rename_i bx hbx
          cases hfit : Nat.ble (off + u.size) bx.cells.length with
          | false => rw [hfit] at hs; cases hs
          | true =>
            rw [hfit] at hs
            simp only [cond_true, Option.some.injEq, Prod.mk.injEq] at hs
            obtain ⟨_, rfl⟩ := hs
            have hfit := Nat.le_of_ble_eq_true hfit
            obtain ⟨arr, hheap, hcells⟩ := h.toCore.box b bx hbx
            have hl := hcells.length
            rw [Array.length_toList] at hl
            obtain ⟨hpb, hv⟩ := hp'
            rw [hv] at fin
            refine fin (run_storeK hf hheap (x := a.eval x) (by omega) (by omega) h1) (h.setBox hbx ?_)
            rw [List.toList_toArray]
            exact hcells.splice hc
        · cases hs
      · rename_i r i off
        split at hs
        · rename_i g hg
          cases hfit : Nat.ble (off + u.size) g.t.size with
          | false => rw [hfit] at hs; cases hs
          | true =>
            rw [hfit] at hs
            simp only [Bool.not_true, cond_false] at hs
            have hfit := Nat.le_of_ble_eq_true hfit
            obtain ⟨g', gb0, n0, c0, hg', hroot0, h0, hlt, hv⟩ := hp'
            obtain rfl : g' = g := by rw [hg] at hg'; exact (Option.some.inj hg').symm
            have hxl : (a.eval x).cells.toList.length = u.size := by rw [Array.length_toList]; omega
            cases hdeep : g'.t.deep with
            | false =>
              rw [hdeep] at hs
              simp only [Bool.not_false, cond_true] at hs
              split at hs
              · rename_i y hy
                simp only [Option.some.injEq, Prod.mk.injEq] at hs
                obtain ⟨_, rfl⟩ := hs
                obtain ⟨gb, c, cur, e, hroot, hheap, hsz, G', hi⟩ := h.setElem hg h0 hlt (gv := []) List.nodup_nil (fun _ hq => by cases hq) (by simp) (y := y) hxl hfit (by
                  intro gb c cells f hr hd hcell hnf hin
                  have hoc := ocells_ok (R := s.reg) (off := 0) hg hr h0 hlt hd (by omega) (by simpa using hcell)
                  obtain ⟨v1, v2, e1, e2, e3, _⟩ := h.toCore.read_v (I' := fun _ => True) (fun _ _ => trivial) hy (hoc.splice hc) (fun _ _ _ _ => trivial)
                  rw [show v2 = [] from e3, List.append_nil] at e1
                  rw [e1]
                  exact ⟨[], e2.flat hdeep, List.nodup_nil, fun _ hk => by cases hk⟩)
                obtain ⟨rfl, _⟩ : gb0 = gb ∧ True := by rw [hroot] at hroot0; simp at hroot0; exact ⟨hroot0.1.symm, trivial⟩
                rw [hv] at fin
                exact fin (run_storeK hf hheap (x := a.eval x) (by omega) (by omega) h1) hi
              · cases hs
            | true =>
              rw [hdeep] at hs
              simp only [Bool.not_true, cond_false] at hs
              split at hs
              · rename_i gv y hgv hy
                cases hgb : (nodup gv && !(gv.contains r)) with
                | false => rw [hgb] at hs; cases hs
                | true =>
                  rw [hgb] at hs
                  simp only [cond_true, Option.some.injEq, Prod.mk.injEq] at hs
                  obtain ⟨_, rfl⟩ := hs
                  simp only [Bool.and_eq_true, Bool.not_eq_true', List.contains_eq_mem, decide_eq_false_iff_not] at hgb
                  obtain ⟨k1, k2⟩ := h.toCore.gives hgv hc
                  obtain ⟨gb, c, cur, e, hroot, hheap, hsz, G', hi⟩ := h.setElem hg h0 hlt (gv := gv) (nodup_of hgb.1) k2 hgb.2 (y := y) hxl hfit (by
                    intro gb c cells f hr hd hcell hnf hin
                    have hod := ocells_dcs (s := s) hg (off := 0) (fun e' t' o' _ => by rw [Nat.zero_add]) hd
                    have hlo := hod.length
                    have hld := hd.length
                    have eo : ocells r i g'.t 0 (lget g'.xs i) = (ocells r i g'.t 0 (lget g'.xs i)).take off ++ (((ocells r i g'.t 0 (lget g'.xs i)).drop off).take u.size ++ (ocells r i g'.t 0 (lget g'.xs i)).drop (off + u.size)) := by
                      rw [← List.drop_drop, List.take_append_drop, List.take_append_drop]
                    rw [eo] at hod
                    obtain ⟨y1, z1, ga, gk, ey, ef, da, d0⟩ := hod.split
                    obtain ⟨y2, z2, gb2, gc, ez, ek, db, dc⟩ := d0.split
                    subst ez ek ey ef
                    have l1 := da.length
                    have l2 := db.length
                    have l3 := dc.length
                    simp only [List.length_take, List.length_drop] at l1 l2 l3
                    simp only [List.length_append] at hlo hld
                    have t1 : (y1 ++ (y2 ++ z2)).take off = y1 := by rw [List.take_append, List.take_of_length_le (by omega), show off - y1.length = 0 by omega]; simp
                    have t2 : (y1 ++ (y2 ++ z2)).drop (off + u.size) = z2 := by
                      rw [List.drop_append, List.drop_of_length_le (by omega), List.nil_append, List.drop_append, List.drop_of_length_le (by omega), List.nil_append, show off + u.size - y1.length - y2.length = 0 by omega]; simp
                    rw [t1, t2]
                    obtain ⟨v1, v2, p1, p2, e1, e2, e3, e4⟩ := DCs.read hy ((da.append k1).append dc)
                    obtain ⟨rfl, rfl⟩ := e4
                    rw [List.append_nil] at e1 e2
                    rw [e1]
                    rw [← e2] at e3
                    refine ⟨_, e3, ?_, ?_⟩
                    · obtain ⟨n1, n2, n3⟩ := List.nodup_append.1 hnf
                      obtain ⟨n4, n5, n6⟩ := List.nodup_append.1 n2
                      have hout := h.toCore.givenOut k2 hg hgb.2
                      refine List.nodup_append.2 ⟨List.nodup_append.2 ⟨n1, h.toCore.givenNodup (nodup_of hgb.1) k2, ?_⟩, n5, ?_⟩
                      · intro k hk k' hk' e
                        subst e
                        exact hout k hk' (hin k (by simp [hk]))
                      · intro k hk k' hk' e
                        subst e
                        rcases List.mem_append.1 hk with hk | hk
                        · exact n3 k hk k (by simp [hk']) rfl
                        · exact hout k hk (hin k (by simp [hk']))
                    · intro k hk
                      rcases List.mem_append.1 hk with hk | hk
                      · rcases List.mem_append.1 hk with hk | hk
                        · exact .inl (by simp [hk])
                        · exact .inr hk
                      · exact .inl (by simp [hk]))
                  obtain ⟨rfl, _⟩ : gb0 = gb ∧ True := by rw [hroot] at hroot0; simp at hroot0; exact ⟨hroot0.1.symm, trivial⟩
                  rw [hv] at fin
                  exact fin (run_storeK hf hheap (x := a.eval x) (by omega) (by omega) h1) hi
              · cases hs
        · cases hs
      · cases hs
  · cases hs
end

end Go.Proofs.Ytigkodlbjimikaa.Vc
