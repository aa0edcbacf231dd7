/- Operations by the machine and by the reading: slices written down, appends. -/
import Derived.Test.YtigkodlbjimikaaVcQ
namespace Go.Proofs.Ytigkodlbjimikaa.Vc
open Go Go.RowKit
set_option linter.unusedVariables false
set_option linter.unusedSimpArgs false

section
variable {P : Program} {E : Env} {C : Ctx} {G : Gh} {s : St} {a : Act} {w : World}

/-! ### slices written down -/
theorem run_litSlice {t e : TypeId} {n : Nat} {parts : Array (Nat × Value)} {cells : Array Value} {ie : TypeInfo} {z : Value} (hu : P.underlying t = some (.slice e)) (hie : P.info? e = some ie) (hz : ie.zero = some z) (hs : n * ie.size ≤ 16777216)
    (h : Instr.fill (fun i => some (i * ie.size, ie.size)) (madeCells z.cells (n * ie.size)) parts.toList = some cells) :
    (Instr.buildSlice t n parts).run P w = .ok (.slice (some ⟨w.heap.size, 0, none⟩) n n) (w.alloc (.cells cells e)) := by
  by_cases hp : n * ie.size = 0
  · rw [hp] at h
    simp only [madeCells, Array.range_zero', Array.map_empty] at h
    have h0 : ¬ (2 ^ 24 < n * ie.size) := by omega
    simp [Instr.buildSlice, run_underlying hu, sizeOf, typeInfo, zeroValue, hie, hz, hp, h, newRow, Array.range_zero']
  · exact run_buildSlice w t e n parts cells ie z hu hie hz (by omega) hp h
theorem Cells.hang {R : Nat → Option Reg} : ∀ {cs : List Cell} {vs : List Value}, Cells G R w cs vs → ∀ {r : Nat}, r ∈ hangs cs → (R r).isSome = true
  | [], _, _, _, hr => by cases hr
  | c :: cs, _, h, r, hr => by
    obtain ⟨v, l, _, h1, h2⟩ := h
    unfold hangs at hr
    split at hr
    · rename_i q hq
      rcases List.mem_cons.1 hr with rfl | hr
      · exact h1.has hq
      · exact h2.hang hr
    · exact h2.hang hr
theorem Inv.newRow (h : Inv C G s a w) {q0 : Nat} (hq : s.reg q0 = none) {gv : List Nat} (hgn : gv.Nodup) (hgs : ∀ q ∈ gv, (s.reg q).isSome = true) {e : TypeId} {u : Ty} {xs : List u.den} {arr : Array Value} {f : List Nat} (hsz : arr.size = xs.length * u.size) (hm : xs.length ≤ maxLen)
    (hel : Elems (DRep w u) xs arr.toList f) (hfn : f.Nodup) (hfs : ∀ k ∈ f, k ∈ gv.flatMap G.fp) :
    ∃ G', Inv C G' ((Vc.dropAll gv s).setReg q0 ⟨e, u, xs, 0⟩) a (w.alloc (.cells arr e)) ∧ G'.root q0 = .slice (some ⟨w.heap.size, 0, none⟩) xs.length xs.length := by
  have h2 := h.dropAll gv
  have hgv := (h.toCore.given hgn hgs q0).sub hfn hfs
  have hfr := h2.toCore.fresh q0
  have hlt : ∀ k ∈ f, k < w.heap.size := hel.lt (fun _ _ _ h => h.lt)
  have hap := hfr.append hgv (fun k hk hk' => by
    obtain rfl : k = w.heap.size := by simpa using hk
    exact absurd (hlt _ hk') (Nat.lt_irrefl _))
  have hn : (Vc.dropAll gv s).reg q0 = none := by rw [dropAll_reg, hq]; split <;> rfl
  refine ⟨_, h2.newReg hn (g := ⟨e, u, xs, 0⟩) (root := .slice (some ⟨w.heap.size, 0, none⟩) xs.length xs.length) hap (Moved.alloc w (.cells arr e)) (fun _ hk => by cases hk) (h.frame.alloc _) rfl ?_, upd_same _ _ _⟩
  refine ⟨_, arr.toList, f, rfl, World.ownsRow_lit (base := 0) w arr xs.length (Nat.zero_le _) hm hsz, rfl, ?_⟩
  exact hel.impF (fun k => k < w.heap.size) (fun _ _ _ hk hx => hx.frame fun k hkk => heap_alloc_old w _ (r := k) (hk k hkk)) hlt
theorem op_buildSlice (hE : EnvOk P E) (h : Inv C G s a w) {o : Oper} (hd : ∀ t, o.dst = some t → t < C.nt) {H : Hints} {t : TypeId} {n : Nat} {ps : Array (Nat × Operand)} (ho : o.op = .buildSlice t n ps) {q : Bool} {s' : St} (hs : astep E H s o = some (q, s')) : OpOk P C s' a o w := by
  unfold astep at hs
  simp only [ho] at hs
  split at hs
  · rename_i d e u hdst hu
    obtain ⟨ti, _, _, hf⟩ := hE.ty hu
    obtain ⟨hund, hue⟩ := hf.slice
    obtain ⟨tie, _, _, hfe⟩ := hE.ty hue
    obtain ⟨inf, z, hinf, hz, hsz, hby, hzs, hzm⟩ := hfe.info
    obtain ⟨pre, e1, hzc, _⟩ := zmatch_ok (G := G) (w := w) (R := s.reg) u _ _ hzm
    rw [List.append_nil] at e1
    subst e1
    split at hs
    · rename_i cs hcs
      have hz0 : Cells G s.reg w (zmany u n) (madeCells z.cells (n * inf.size)).toList := by
        rw [hsz, ← hzs, made_rep]; exact zmany_ok hzc n
      obtain ⟨arr, hfill, hc, hasz⟩ := h.elems ps.toList _ _ _ hcs hz0
      rw [size_madeCells, hsz] at hasz
      split at hs
      · rename_i xs hxs
        cases hlim : (Nat.ble (n * u.size) 16777216 && Nat.ble n 16777216) with
        | false => rw [hlim] at hxs; cases hxs
        | true =>
        rw [hlim] at hxs
        simp only [cond_true] at hxs
        have hnl := Nat.le_of_ble_eq_true ((Bool.and_eq_true _ _).mp hlim).2
        have hlim := Nat.le_of_ble_eq_true ((Bool.and_eq_true _ _).mp hlim).1
        have run : (execOp a.eval o).run P w = .ok (.value (.slice (some ⟨w.heap.size, 0, none⟩) n n)) (w.alloc (.cells arr e)) := by
          unfold execOp
          simp only [ho]
          rw [Sem.run_bind, run_litSlice hund hinf hz (by rw [hsz]; exact hlim) (cells := arr) (by rw [Array.toList_map]; rw [hsz] at hfill ⊢; exact hfill), Result.andThen_ok]; rfl
        -- a slice that stays
        have view : ∀ {I' : Nat → Prop} {s1 : St}, Inv C { G with I := I' } s1 a w → (∀ k, G.I k → I' k) → (∀ r ∈ hangs cs, ∀ k ∈ G.fp r, I' k) → OpOk P C (s1.put o.dst (.c (.view e u xs))) a o w := by
          intro I' s1 h1 hI hh
          obtain ⟨v1, v2, ea, hxl, hel⟩ := h.toCore.readMany_v hI n hxs hc hh
          have hl1 := hel.len (size := u.size) (fun x cs fp hx => hx.1.length)
          have hl2 : arr.toList.length = n * u.size := by rw [Array.length_toList]; exact hasz
          have hv2 : v2 = [] := List.eq_nil_of_length_eq_zero (by rw [ea, List.length_append, hl1, hxl] at hl2; omega)
          subst hv2
          rw [List.append_nil] at ea
          have hm := Moved.alloc w (.cells arr e)
          have h2 := h1.moved hm (fun _ hk => by cases hk) (h.frame.alloc _)
          have h3 := h2.addI (J := fun k => k = w.heap.size) (fun k hk => by
            subst hk
            refine ⟨fun b x hb e => ?_, fun r g hg hk => ?_, ?_, .inl h.frame.size⟩
            · have := h1.toCore.blkLt hb; omega
            · have := h1.toCore.fpLt hg _ hk; omega
            · show _ < (w.heap.push _).size; rw [Array.size_push]; omega)
          refine ⟨_, _, _, .inl run, h3.putO hd (x := .c (.view e u xs)) ?_⟩
          refine ⟨some ⟨w.heap.size, 0, none⟩, n, by rw [hxl], by omega, fun i hi => ?_⟩
          obtain ⟨c1, cc, c2, f1, f, f2, hcells, _, hlc, _, hx, _⟩ := hel.at_ (size := u.size) (fun x cs fp hx => hx.1.length) i hi
          refine ⟨_, rfl, .inr rfl, cc, fun j v hj => ?_, hx.1.mono (fun k hk => .inl hk) fun k hk => hm.keep k (h1.ilt k hk) (by simp)⟩
          rw [add_none, cell_of_row _ w.heap.size (0 + (i * u.size + j)) arr e (0, 0) (heap_alloc_new w _), ← Array.getElem?_toList, ea, hcells, Nat.zero_add, List.getElem?_append_right (by omega), hlc, Nat.add_sub_cancel_left, List.getElem?_append_left (List.getElem?_eq_some_iff.1 hj).1]
          exact hj
        have own : ∀ {gv f : List Nat}, s.reg (siteLab d) = none → gv.Nodup → (∀ q ∈ gv, (s.reg q).isSome = true) → xs.length = n → Elems (DRep w u) xs arr.toList f → f.Nodup → (∀ k ∈ f, k ∈ gv.flatMap G.fp) → OpOk P C (((Vc.dropAll gv s).setReg (siteLab d) ⟨e, u, xs, 0⟩).put o.dst (.c (.own (siteLab d)))) a o w := by
          intro gv f hn h1 h2 hxl hel h3 h4
          have hmax : xs.length ≤ maxLen := by
            rw [hxl]; simp only [maxLen]; omega
          obtain ⟨G', hi, hroot⟩ := h.newRow hn h1 h2 (e := e) (by rw [hxl]; exact hasz) hmax hel h3 h4
          rw [hxl] at hroot
          exact ⟨_, _, _, .inl run, hi.putO hd (x := .c (.own (siteLab d))) ⟨_, by rw [setReg_reg, if_pos rfl], hroot.symm⟩⟩
        have hnone : (s.reg (siteLab d)).isSome = false → s.reg (siteLab d) = none := fun hb => by cases hg : s.reg (siteLab d) with | none => rfl | some x => rw [hg] at hb; cases hb
        cases hdeep : u.deep with
        | false =>
          rw [hdeep] at hs
          simp only [Bool.not_false, cond_true] at hs
          cases hb : (s.reg (siteLab d)).isSome with
          | true => rw [hb] at hs; cases hs
          | false =>
            rw [hb] at hs
            simp only [cond_false, Option.some.injEq, Prod.mk.injEq] at hs
            obtain ⟨_, rfl⟩ := hs
            obtain ⟨v1, v2, ea, hxl, hel⟩ := h.toCore.readMany_v (I' := fun _ => True) (fun _ _ => trivial) n hxs hc (fun _ _ _ _ => trivial)
            have hl1 := hel.len (size := u.size) (fun x cs fp hx => hx.1.length)
            have hl2 : arr.toList.length = n * u.size := by rw [Array.length_toList]; exact hasz
            have hv2 : v2 = [] := List.eq_nil_of_length_eq_zero (by rw [ea, List.length_append, hl1, hxl] at hl2; omega)
            subst hv2
            rw [List.append_nil] at ea
            exact own (gv := []) (f := []) (hnone hb) List.nodup_nil (fun _ hq => by cases hq) hxl (by rw [ea]; exact hel.imp fun x cs fp hx => by rw [hx.2]; exact hx.1.flat hdeep) List.nodup_nil (fun _ hk => by cases hk)
        | true =>
          rw [hdeep] at hs
          simp only [Bool.not_true, cond_false] at hs
          cases hst : H.still.contains o.pos with
          | true =>
            rw [hst] at hs
            simp only [cond_true, Option.some.injEq, Prod.mk.injEq] at hs
            obtain ⟨_, rfl⟩ := hs
            obtain ⟨I', h1, h2, h3, _⟩ := Inv.stillAll (hangs cs) h
            exact view h1 h2 (fun r hr k hk => by
              obtain ⟨g, hg⟩ := Option.isSome_iff_exists.1 (hc.hang hr)
              exact h3 r hr g hg k hk)
          | false =>
            rw [hst] at hs
            simp only [cond_false] at hs
            split at hs
            · rename_i gv hgv
              cases hb : (nodup gv && !(s.reg (siteLab d)).isSome) with
              | false => rw [hb] at hs; cases hs
              | true =>
                rw [hb] at hs
                simp only [cond_true, Option.some.injEq, Prod.mk.injEq] at hs
                obtain ⟨_, rfl⟩ := hs
                simp only [Bool.and_eq_true, Bool.not_eq_true'] at hb
                obtain ⟨k1, k2⟩ := h.toCore.gives hgv hc
                obtain ⟨v1, v2, f1, f2, ea, ef, hxl, hel⟩ := DCs.readMany n hxs k1
                have hl1 := hel.len (size := u.size) (fun x cs fp hx => hx.length)
                have hl2 : arr.toList.length = n * u.size := by rw [Array.length_toList]; exact hasz
                have hv2 : v2 = [] := List.eq_nil_of_length_eq_zero (by rw [ea, List.length_append, hl1, hxl] at hl2; omega)
                subst hv2
                rw [List.append_nil] at ea
                have hnd := h.toCore.givenNodup (nodup_of hb.1) k2
                rw [ef] at hnd
                exact own (gv := gv) (f := f1) (hnone hb.2) (nodup_of hb.1) k2 hxl (by rw [ea]; exact hel) (List.nodup_append.1 hnd).1 (fun k hk => by rw [ef]; simp [hk])
            · simp only [Option.some.injEq, Prod.mk.injEq] at hs
              obtain ⟨_, rfl⟩ := hs
              obtain ⟨I', h1, h2, h3, _⟩ := Inv.stillAll (hangs cs) h
              exact view h1 h2 (fun r hr k hk => by
                obtain ⟨g, hg⟩ := Option.isSome_iff_exists.1 (hc.hang hr)
                exact h3 r hr g hg k hk)
      · cases hs
    · cases hs
  · cases hs
end

end Go.Proofs.Ytigkodlbjimikaa.Vc
