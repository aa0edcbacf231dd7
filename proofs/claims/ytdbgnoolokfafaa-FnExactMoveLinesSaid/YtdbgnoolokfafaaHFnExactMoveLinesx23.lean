-- Printed by a program of this session over the kit's print; functions that the print does not take stand here by hand.
import Derived.Test.YtdbgnoolokfafaaHFnExactMoveLinesx0
import Derived.Test.YtdbgnoolokfafaaHFnExactMoveLinesx1
import Derived.Test.YtdbgnoolokfafaaHFnExactMoveLinesx3
import Derived.Test.YtdbgnoolokfafaaHFnExactMoveLinesx6
import Derived.Test.YtdbgnoolokfafaaHFnExactMoveLinesx7
import Derived.Test.YtdbgnoolokfafaaHFnExactMoveLinesx8
import Derived.Test.YtdbgnoolokfafaaHFnExactMoveLinesx16
import Derived.Test.YtdbgnoolokfafaaHFnExactMoveLinesx22
namespace Go.Proofs.Ytdbgnoolokfafaa.HFnExactMoveLines
open Go.RowKit Go.Proofs.YtdbgnoolokfafaaW.PrintWords Go.Proofs.YtdbgnoolokfafaaW.PrintLast Go.Proofs.YtdbgnoolokfafaaW.PrintMore
attribute [local go_sem] max2_int min2_int max_two min_two max_three min_three max_four min_four   -- for this text's walks alone
set_option linter.unusedVariables false
set_option linter.unusedSimpArgs false

/-! ### laws_FnExactMoveLines: function 12 -/
/-- Rows of lines whose blocks are those from N on and below M. -/
def LRow (W : World) (b N M : Nat) (A : Option Addr) (n c : Nat) (xs : List S83) : Prop := Kd.S k83 83 W b (fun k => N ≤ k ∧ k < M) (.slice A n c) xs ∧ M ≤ W.heap.size
theorem LRow.new {W w1 : World} {b n c : Nat} {A : Option Addr} {xs : List S83} (h : Kd.S k83 83 w1 W.heap.size (fun _ => True) (.slice A n c) xs) (hb : b ≤ W.heap.size) : LRow w1 b W.heap.size w1.heap.size A n c xs :=
  ⟨Kd.S_lower (Kd.S_mono (Kd.S_bound h) (fun k hk => ⟨hk.2.1, hk.2.2.1⟩)) hb, Nat.le_refl _⟩
theorem LRow.below {W w1 : World} {b N M n c : Nat} {A : Option Addr} {xs : List S83} (h : LRow W b N M A n c xs) (hb : Below W.heap.size W w1) : LRow w1 b N M A n c xs := ⟨Kd.S_below h.1 hb, Nat.le_trans h.2 hb.size⟩
theorem LRow.kept {W w1 : World} {b N M n c N2 M2 : Nat} {A : Option Addr} {xs : List S83} (h : LRow W b N M A n c xs) (hk : Kept W w1 (fun k => N2 ≤ k ∧ k < M2)) (ha : M ≤ N2 ∨ M2 ≤ N) : LRow w1 b N M A n c xs :=
  ⟨Kd.S_kept h.1 hk (fun k h1 h2 => by omega), Nat.le_trans h.2 hk.1⟩
theorem LRow.marked {W w1 : World} {b N M n c : Nat} {A : Option Addr} {xs ys : List S83} (h : LRow W b N M A n c xs) (hs : Kd.S k83 83 w1 b (fun k => N ≤ k ∧ k < M) (.slice A n c) ys) (hk : W.heap.size ≤ w1.heap.size) : LRow w1 b N M A n c ys := ⟨hs, Nat.le_trans h.2 hk⟩
theorem LRow.len {W : World} {b N M n c : Nat} {A : Option Addr} {xs : List S83} (h : LRow W b N M A n c xs) : n = xs.length := (Kd.S_reads' h.1).1
theorem LRow.cap {W : World} {b N M n c : Nat} {A : Option Addr} {xs : List S83} (h : LRow W b N M A n c xs) : xs.length ≤ c := by have := (Kd.S_reads' h.1).2.1; have := h.len; omega
theorem LRow.reads {W : World} {b N M n c : Nat} {A : Option Addr} {xs : List S83} (h : LRow W b N M A n c xs) : k83.C W A xs.length xs := (Kd.S_reads' h.1).2.2
def laws_FnExactMoveLines.f (k : Nat) (a0_0 : Int) (a0_1 : Int) (a0_2 : Int) (a0_3 : Int) (a0_4 : Int) (a0_5 : Int) (l1 : List (S116)) : Option Bool :=
  (laws_szLineS.f k l1 1048576).bind fun s => if s < 0 then some true else (laws_toLineS.f k l1).bind fun L => (spec_MoveLines.f k a0_0 a0_1 a0_2 a0_3 a0_4 a0_5 L).bind fun w0 => (impl_MoveLines.f k a0_0 a0_1 a0_2 a0_3 a0_4 a0_5 L).bind fun g0 => (laws_eqLineS.f k g0.1 w0.1).bind fun e1 => (laws_eqLineS.f k L L).bind fun e2 => (laws_markLineS.f k L 1).bind fun x => (laws_markLineS.f k g0.1 1).bind fun y => (laws_heldLineS.f k y.2 1).bind fun q => if e1 = true ∧ g0.2 = w0.2 ∧ e2 = true ∧ ¬ x.1 < 0 ∧ ¬ q < 0 ∧ q = y.1 then some true else none
set_option maxHeartbeats 4000000 in
set_option maxRecDepth 100000 in
theorem laws_FnExactMoveLines.calls (k : Nat) (a0_0 : Int) (a0_1 : Int) (a0_2 : Int) (a0_3 : Int) (a0_4 : Int) (a0_5 : Int) (A1 : Option Addr) (c1 : Nat) (l1 : List (S116)) (r : Bool) (hrt : r = true) (w : World) (hr1 : Kd.C k116 w A1 l1.length l1) (hc1 : l1.length ≤ c1) (h : laws_FnExactMoveLines.f k a0_0 a0_1 a0_2 a0_3 a0_4 a0_5 l1 = some r) :
    Calls Try.prog 12 #[.agg #[.int .i64 a0_0, .int .i64 a0_1, .int .i64 a0_2, .int .i64 a0_3, .int .i64 a0_4, .int .i64 a0_5], .slice A1 l1.length c1] w fun e w' => e = .returned (.bool r) ∧ Below w.heap.size w w' := by
  subst hrt
  obtain ⟨s, e0, h⟩ := Option.bind_eq_some_iff.mp h
  have E0 := Aside0.mk e0
  clear e0
  have HR := Aside0.mk hr1
  have HC := Aside0.mk hc1
  clear hr1 hc1
  have hu_a0 := Try.underlying110
  by_cases hs : s < 0
  · rw [if_pos hs] at h
    have d0 : decide (s < 0) = true := decide_eq_true hs
    clear hs h
    go_enter Try.func12, Try.ntmps12
    go_wp2_with fail
    obtain ⟨W0, hW0⟩ : ∃ W0 : World, (w.alloc (.cells #[.int .i64 a0_0, .int .i64 a0_1, .int .i64 a0_2, .int .i64 a0_3, .int .i64 a0_4, .int .i64 a0_5] 110)) = W0 := ⟨_, rfl⟩
    rw [hW0]
    have HB := Aside0.mk (show Below w.heap.size w W0 by rw [← hW0]; exact (Below.refl _ _).alloc (Nat.le_refl _) _)
    have BK := Aside0.mk (show W0.heap[w.heap.size]? = some (.cells #[.int .i64 a0_0, .int .i64 a0_1, .int .i64 a0_2, .int .i64 a0_3, .int .i64 a0_4, .int .i64 a0_5] 110 (0, 0)) by rw [← hW0]; exact (MapKept.heap_alloc w _).1)
    have BS := Aside0.mk (show w.heap.size < W0.heap.size by rw [← hW0]; simp)
    clear hW0
    refine (laws_szLineS.calls k _ _ l1 1048576 s _ (Kd.C_below HR.out HB.out) HC.out E0.out).mono ?_
    rintro e w1 ⟨rfl, hb⟩
    replace HB := Aside0.mk (below_step HB.out hb)
    clear hb
    go_wp2
    go_ret
    exact ⟨rfl, HB.out⟩
  · rw [if_neg hs] at h
    obtain ⟨L, e1, h⟩ := Option.bind_eq_some_iff.mp h
    obtain ⟨⟨z, zo⟩, e2, h⟩ := Option.bind_eq_some_iff.mp h
    obtain ⟨⟨g, go⟩, e3, h⟩ := Option.bind_eq_some_iff.mp h
    obtain ⟨q1, e4, h⟩ := Option.bind_eq_some_iff.mp h
    obtain ⟨q2, e5, h⟩ := Option.bind_eq_some_iff.mp h
    obtain ⟨⟨x1, x2⟩, e6, h⟩ := Option.bind_eq_some_iff.mp h
    obtain ⟨⟨y1, y2⟩, e7, h⟩ := Option.bind_eq_some_iff.mp h
    obtain ⟨q, e8, h⟩ := Option.bind_eq_some_iff.mp h
    split at h
    rotate_left
    · cases h
    rename_i hc
    obtain ⟨rfl, rfl, rfl, hx, hq, rfl⟩ := hc
    clear h
    have E1 := Aside0.mk e1
    have E2 := Aside0.mk e2
    have E3 := Aside0.mk e3
    have E4 := Aside0.mk e4
    have E5 := Aside0.mk e5
    have E6 := Aside0.mk e6
    have E7 := Aside0.mk e7
    have E8 := Aside0.mk e8
    clear e1 e2 e3 e4 e5 e6 e7 e8
    have d0 : decide (s < 0) = false := decide_eq_false hs
    have d1 : decide (x1 < 0) = false := decide_eq_false hx
    have d2 : decide (q < 0) = false := decide_eq_false hq
    have d3 : (q != q) = false := bne_self_eq_false q
    have d4 : (go != go) = false := bne_self_eq_false go
    clear hs hx hq
    go_enter Try.func12, Try.ntmps12
    go_wp2_with fail
    obtain ⟨W0, hW0⟩ : ∃ W0 : World, (w.alloc (.cells #[.int .i64 a0_0, .int .i64 a0_1, .int .i64 a0_2, .int .i64 a0_3, .int .i64 a0_4, .int .i64 a0_5] 110)) = W0 := ⟨_, rfl⟩
    rw [hW0]
    have HB := Aside0.mk (show Below w.heap.size w W0 by rw [← hW0]; exact (Below.refl _ _).alloc (Nat.le_refl _) _)
    have BK := Aside0.mk (show W0.heap[w.heap.size]? = some (.cells #[.int .i64 a0_0, .int .i64 a0_1, .int .i64 a0_2, .int .i64 a0_3, .int .i64 a0_4, .int .i64 a0_5] 110 (0, 0)) by rw [← hW0]; exact (MapKept.heap_alloc w _).1)
    have BS := Aside0.mk (show w.heap.size < W0.heap.size by rw [← hW0]; simp)
    clear hW0
    refine (laws_szLineS.calls k _ _ l1 1048576 s _ (Kd.C_below HR.out HB.out) HC.out E0.out).mono ?_
    rintro e w1 ⟨rfl, hb⟩
    replace BK := Aside0.mk (blk_below BK.out hb)
    replace HB := Aside0.mk (below_step HB.out hb)
    clear hb
    have hb1_0 : w1.cell? ⟨w.heap.size, 0, none⟩ = some (.int .i64 a0_0) := (blk_cell BK.out 0).trans rfl
    have hb1_1 : w1.cell? ⟨w.heap.size, 1, none⟩ = some (.int .i64 a0_1) := (blk_cell BK.out 1).trans rfl
    have hb1_2 : w1.cell? ⟨w.heap.size, 2, none⟩ = some (.int .i64 a0_2) := (blk_cell BK.out 2).trans rfl
    have hb1_3 : w1.cell? ⟨w.heap.size, 3, none⟩ = some (.int .i64 a0_3) := (blk_cell BK.out 3).trans rfl
    have hb1_4 : w1.cell? ⟨w.heap.size, 4, none⟩ = some (.int .i64 a0_4) := (blk_cell BK.out 4).trans rfl
    have hb1_5 : w1.cell? ⟨w.heap.size, 5, none⟩ = some (.int .i64 a0_5) := (blk_cell BK.out 5).trans rfl
    go_wp2_with fail
    refine (laws_toAffine.calls a0_0 a0_1 a0_2 a0_3 a0_4 a0_5 a0_0 a0_1 a0_2 a0_3 a0_4 a0_5 _ rfl).mono ?_
    rintro e w2 ⟨rfl, hb⟩
    replace BK := Aside0.mk (blk_below BK.out hb)
    replace HB := Aside0.mk (below_step HB.out hb)
    clear hb
    go_wp2_with fail
    refine (laws_toLineS.calls k _ _ l1 L _ (Kd.C_below HR.out HB.out) HC.out E1.out).mono ?_
    rintro e w3 ⟨v, rfl, ho, hb⟩
    obtain ⟨A_1, c_1, rfl⟩ := Kd.S_slice ho
    obtain ⟨n_1, hn_1⟩ : ∃ n, L.length = n := ⟨_, rfl⟩
    rw [hn_1] at ho ⊢
    have HN1 := Aside0.mk hn_1
    clear hn_1
    have R1 := Aside0.mk (LRow.new ho HB.out.size)
    have NN1 := Aside0.mk (show w.heap.size ≤ w2.heap.size from HB.out.size)
    have OB1 := Aside0.mk (blk_lt BK.out)
    clear ho
    replace BK := Aside0.mk (blk_below BK.out hb)
    replace HB := Aside0.mk (below_step HB.out hb)
    clear hb
    go_wp2_with fail
    refine calls_of_args (args' := #[.agg #[.int .i64 a0_0, .int .i64 a0_1, .int .i64 a0_2, .int .i64 a0_3, .int .i64 a0_4, .int .i64 a0_5], .slice A_1 L.length c_1]) (by first | rfl | (rw [← HN1.out])) ?_; refine (spec_MoveLines.calls k a0_0 a0_1 a0_2 a0_3 a0_4 a0_5 _ _ L z go _ (R1.out.reads) (R1.out.cap) E2.out).mono ?_
    rintro e w4 ⟨v, rfl, ho, hb⟩
    obtain ⟨A_2, c_2, rfl⟩ := Kd.S_slice ho
    obtain ⟨n_2, hn_2⟩ : ∃ n, z.length = n := ⟨_, rfl⟩
    rw [hn_2] at ho ⊢
    have HN2 := Aside0.mk hn_2
    clear hn_2
    have R2 := Aside0.mk (LRow.new ho HB.out.size)
    have NN2 := Aside0.mk (show w.heap.size ≤ w3.heap.size from HB.out.size)
    have O1_2 := Aside0.mk R1.out.2
    have OB2 := Aside0.mk (blk_lt BK.out)
    clear ho
    replace R1 := Aside0.mk (R1.out.below hb)
    replace BK := Aside0.mk (blk_below BK.out hb)
    replace HB := Aside0.mk (below_step HB.out hb)
    clear hb
    go_wp2_with fail
    refine (laws_toLineS.calls k _ _ l1 L _ (Kd.C_below HR.out HB.out) HC.out E1.out).mono ?_
    rintro e w5 ⟨v, rfl, ho, hb⟩
    obtain ⟨A_3, c_3, rfl⟩ := Kd.S_slice ho
    obtain ⟨n_3, hn_3⟩ : ∃ n, L.length = n := ⟨_, rfl⟩
    rw [hn_3] at ho ⊢
    have HN3 := Aside0.mk hn_3
    clear hn_3
    have R3 := Aside0.mk (LRow.new ho HB.out.size)
    have NN3 := Aside0.mk (show w.heap.size ≤ w4.heap.size from HB.out.size)
    have O1_3 := Aside0.mk R1.out.2
    have O2_3 := Aside0.mk R2.out.2
    have OB3 := Aside0.mk (blk_lt BK.out)
    clear ho
    replace R1 := Aside0.mk (R1.out.below hb)
    replace R2 := Aside0.mk (R2.out.below hb)
    replace BK := Aside0.mk (blk_below BK.out hb)
    replace HB := Aside0.mk (below_step HB.out hb)
    clear hb
    have hb5_0 : w5.cell? ⟨w.heap.size, 0, none⟩ = some (.int .i64 a0_0) := (blk_cell BK.out 0).trans rfl
    have hb5_1 : w5.cell? ⟨w.heap.size, 1, none⟩ = some (.int .i64 a0_1) := (blk_cell BK.out 1).trans rfl
    have hb5_2 : w5.cell? ⟨w.heap.size, 2, none⟩ = some (.int .i64 a0_2) := (blk_cell BK.out 2).trans rfl
    have hb5_3 : w5.cell? ⟨w.heap.size, 3, none⟩ = some (.int .i64 a0_3) := (blk_cell BK.out 3).trans rfl
    have hb5_4 : w5.cell? ⟨w.heap.size, 4, none⟩ = some (.int .i64 a0_4) := (blk_cell BK.out 4).trans rfl
    have hb5_5 : w5.cell? ⟨w.heap.size, 5, none⟩ = some (.int .i64 a0_5) := (blk_cell BK.out 5).trans rfl
    go_wp2_with fail
    refine (laws_toAffine.calls a0_0 a0_1 a0_2 a0_3 a0_4 a0_5 a0_0 a0_1 a0_2 a0_3 a0_4 a0_5 _ rfl).mono ?_
    rintro e w6 ⟨rfl, hb⟩
    replace R1 := Aside0.mk (R1.out.below hb)
    replace R2 := Aside0.mk (R2.out.below hb)
    replace R3 := Aside0.mk (R3.out.below hb)
    replace BK := Aside0.mk (blk_below BK.out hb)
    replace HB := Aside0.mk (below_step HB.out hb)
    clear hb
    go_wp2_with fail
    refine calls_of_args (args' := #[.agg #[.int .i64 a0_0, .int .i64 a0_1, .int .i64 a0_2, .int .i64 a0_3, .int .i64 a0_4, .int .i64 a0_5], .slice A_3 L.length c_3]) (by first | rfl | (rw [← HN3.out])) ?_; refine (impl_MoveLines.calls k a0_0 a0_1 a0_2 a0_3 a0_4 a0_5 _ _ L g go _ (R3.out.reads) (R3.out.cap) E3.out).mono ?_
    rintro e w7 ⟨v, rfl, ho, hb⟩
    obtain ⟨A_4, c_4, rfl⟩ := Kd.S_slice ho
    obtain ⟨n_4, hn_4⟩ : ∃ n, g.length = n := ⟨_, rfl⟩
    rw [hn_4] at ho ⊢
    have HN4 := Aside0.mk hn_4
    clear hn_4
    have R4 := Aside0.mk (LRow.new ho HB.out.size)
    have NN4 := Aside0.mk (show w.heap.size ≤ w6.heap.size from HB.out.size)
    have O1_4 := Aside0.mk R1.out.2
    have O2_4 := Aside0.mk R2.out.2
    have O3_4 := Aside0.mk R3.out.2
    have OB4 := Aside0.mk (blk_lt BK.out)
    clear ho
    replace R1 := Aside0.mk (R1.out.below hb)
    replace R2 := Aside0.mk (R2.out.below hb)
    replace R3 := Aside0.mk (R3.out.below hb)
    replace BK := Aside0.mk (blk_below BK.out hb)
    replace HB := Aside0.mk (below_step HB.out hb)
    clear hb
    go_wp2_with fail
    refine calls_of_args (args' := #[.slice A_4 g.length c_4, .slice A_2 z.length c_2]) (by first | rfl | (rw [← HN4.out, ← HN2.out])) ?_; refine (laws_eqLineS.calls k _ _ g _ _ z true _ (R4.out.reads) (R4.out.cap) (R2.out.reads) (R2.out.cap) E4.out).mono ?_
    rintro e w8 ⟨rfl, hb⟩
    replace R1 := Aside0.mk (R1.out.below hb)
    replace R2 := Aside0.mk (R2.out.below hb)
    replace R3 := Aside0.mk (R3.out.below hb)
    replace R4 := Aside0.mk (R4.out.below hb)
    replace BK := Aside0.mk (blk_below BK.out hb)
    replace HB := Aside0.mk (below_step HB.out hb)
    clear hb
    go_wp2_with fail
    refine (laws_toLineS.calls k _ _ l1 L _ (Kd.C_below HR.out HB.out) HC.out E1.out).mono ?_
    rintro e w9 ⟨v, rfl, ho, hb⟩
    obtain ⟨A_5, c_5, rfl⟩ := Kd.S_slice ho
    obtain ⟨n_5, hn_5⟩ : ∃ n, L.length = n := ⟨_, rfl⟩
    rw [hn_5] at ho ⊢
    have HN5 := Aside0.mk hn_5
    clear hn_5
    have R5 := Aside0.mk (LRow.new ho HB.out.size)
    have NN5 := Aside0.mk (show w.heap.size ≤ w8.heap.size from HB.out.size)
    have O1_5 := Aside0.mk R1.out.2
    have O2_5 := Aside0.mk R2.out.2
    have O3_5 := Aside0.mk R3.out.2
    have O4_5 := Aside0.mk R4.out.2
    have OB5 := Aside0.mk (blk_lt BK.out)
    clear ho
    replace R1 := Aside0.mk (R1.out.below hb)
    replace R2 := Aside0.mk (R2.out.below hb)
    replace R3 := Aside0.mk (R3.out.below hb)
    replace R4 := Aside0.mk (R4.out.below hb)
    replace BK := Aside0.mk (blk_below BK.out hb)
    replace HB := Aside0.mk (below_step HB.out hb)
    clear hb
    go_wp2_with fail
    refine calls_of_args (args' := #[.slice A_3 L.length c_3, .slice A_5 L.length c_5]) (by first | rfl | (rw [← HN3.out, ← HN5.out])) ?_; refine (laws_eqLineS.calls k _ _ L _ _ L true _ (R3.out.reads) (R3.out.cap) (R5.out.reads) (R5.out.cap) E5.out).mono ?_
    rintro e w10 ⟨rfl, hb⟩
    replace R1 := Aside0.mk (R1.out.below hb)
    replace R2 := Aside0.mk (R2.out.below hb)
    replace R3 := Aside0.mk (R3.out.below hb)
    replace R4 := Aside0.mk (R4.out.below hb)
    replace R5 := Aside0.mk (R5.out.below hb)
    replace BK := Aside0.mk (blk_below BK.out hb)
    replace HB := Aside0.mk (below_step HB.out hb)
    clear hb
    go_wp2_with fail
    refine (laws_markLineS.calls k _ _ _ L 1 x1 x2 w _ HB.out NN3.out R3.out.1 E6.out).mono ?_
    rintro e w11 ⟨rfl, hs, hb, hk⟩
    replace R1 := Aside0.mk (R1.out.kept hk (.inl O1_3.out))
    replace R2 := Aside0.mk (R2.out.kept hk (.inl O2_3.out))
    replace R3 := Aside0.mk (R3.out.marked hs hk.1)
    replace R4 := Aside0.mk (R4.out.kept hk (.inr O3_4.out))
    replace R5 := Aside0.mk (R5.out.kept hk (.inr O3_5.out))
    replace BK := Aside0.mk (blk_kept BK.out hk (fun hs_ => Nat.not_le.2 OB3.out hs_.1))
    replace HB := Aside0.mk hb
    clear hs hb hk
    replace HN3 := Aside0.mk (show x2.length = n_3 from R3.out.len.symm)
    go_wp2_with fail
    refine calls_of_args (args' := #[.slice A_4 g.length c_4, .slice A_2 z.length c_2]) (by first | rfl | (rw [← HN4.out, ← HN2.out])) ?_; refine (laws_eqLineS.calls k _ _ g _ _ z true _ (R4.out.reads) (R4.out.cap) (R2.out.reads) (R2.out.cap) E4.out).mono ?_
    rintro e w12 ⟨rfl, hb⟩
    replace R1 := Aside0.mk (R1.out.below hb)
    replace R2 := Aside0.mk (R2.out.below hb)
    replace R3 := Aside0.mk (R3.out.below hb)
    replace R4 := Aside0.mk (R4.out.below hb)
    replace R5 := Aside0.mk (R5.out.below hb)
    replace BK := Aside0.mk (blk_below BK.out hb)
    replace HB := Aside0.mk (below_step HB.out hb)
    clear hb
    go_wp2_with fail
    refine (laws_markLineS.calls k _ _ _ g 1 q y2 w _ HB.out NN4.out R4.out.1 E7.out).mono ?_
    rintro e w13 ⟨rfl, hs, hb, hk⟩
    replace R1 := Aside0.mk (R1.out.kept hk (.inl O1_4.out))
    replace R2 := Aside0.mk (R2.out.kept hk (.inl O2_4.out))
    replace R3 := Aside0.mk (R3.out.kept hk (.inl O3_4.out))
    replace R4 := Aside0.mk (R4.out.marked hs hk.1)
    replace R5 := Aside0.mk (R5.out.kept hk (.inr O4_5.out))
    replace BK := Aside0.mk (blk_kept BK.out hk (fun hs_ => Nat.not_le.2 OB4.out hs_.1))
    replace HB := Aside0.mk hb
    clear hs hb hk
    replace HN4 := Aside0.mk (show y2.length = n_4 from R4.out.len.symm)
    go_wp2_with fail
    refine calls_of_args (args' := #[.slice A_4 y2.length c_4, .int .i64 1]) (by first | rfl | (rw [← HN4.out])) ?_; refine (laws_heldLineS.calls k _ _ y2 1 q _ (R4.out.reads) (R4.out.cap) E8.out).mono ?_
    rintro e w14 ⟨rfl, hd⟩
    have hb := hd.below
    clear hd
    replace R1 := Aside0.mk (R1.out.below hb)
    replace R2 := Aside0.mk (R2.out.below hb)
    replace R3 := Aside0.mk (R3.out.below hb)
    replace R4 := Aside0.mk (R4.out.below hb)
    replace R5 := Aside0.mk (R5.out.below hb)
    replace BK := Aside0.mk (blk_below BK.out hb)
    replace HB := Aside0.mk (below_step HB.out hb)
    clear hb
    have hb14_0 : w14.cell? ⟨w.heap.size, 0, none⟩ = some (.int .i64 a0_0) := (blk_cell BK.out 0).trans rfl
    have hb14_1 : w14.cell? ⟨w.heap.size, 1, none⟩ = some (.int .i64 a0_1) := (blk_cell BK.out 1).trans rfl
    have hb14_2 : w14.cell? ⟨w.heap.size, 2, none⟩ = some (.int .i64 a0_2) := (blk_cell BK.out 2).trans rfl
    have hb14_3 : w14.cell? ⟨w.heap.size, 3, none⟩ = some (.int .i64 a0_3) := (blk_cell BK.out 3).trans rfl
    have hb14_4 : w14.cell? ⟨w.heap.size, 4, none⟩ = some (.int .i64 a0_4) := (blk_cell BK.out 4).trans rfl
    have hb14_5 : w14.cell? ⟨w.heap.size, 5, none⟩ = some (.int .i64 a0_5) := (blk_cell BK.out 5).trans rfl
    go_wp2_with fail
    refine (laws_toAffine.calls a0_0 a0_1 a0_2 a0_3 a0_4 a0_5 a0_0 a0_1 a0_2 a0_3 a0_4 a0_5 _ rfl).mono ?_
    rintro e w15 ⟨rfl, hb⟩
    replace R1 := Aside0.mk (R1.out.below hb)
    replace R2 := Aside0.mk (R2.out.below hb)
    replace R3 := Aside0.mk (R3.out.below hb)
    replace R4 := Aside0.mk (R4.out.below hb)
    replace R5 := Aside0.mk (R5.out.below hb)
    replace BK := Aside0.mk (blk_below BK.out hb)
    replace HB := Aside0.mk (below_step HB.out hb)
    clear hb
    go_wp2_with fail
    refine (laws_toLineS.calls k _ _ l1 L _ (Kd.C_below HR.out HB.out) HC.out E1.out).mono ?_
    rintro e w16 ⟨v, rfl, ho, hb⟩
    obtain ⟨A_6, c_6, rfl⟩ := Kd.S_slice ho
    obtain ⟨n_6, hn_6⟩ : ∃ n, L.length = n := ⟨_, rfl⟩
    rw [hn_6] at ho ⊢
    have HN6 := Aside0.mk hn_6
    clear hn_6
    have R6 := Aside0.mk (LRow.new ho HB.out.size)
    have NN6 := Aside0.mk (show w.heap.size ≤ w15.heap.size from HB.out.size)
    have O1_6 := Aside0.mk R1.out.2
    have O2_6 := Aside0.mk R2.out.2
    have O3_6 := Aside0.mk R3.out.2
    have O4_6 := Aside0.mk R4.out.2
    have O5_6 := Aside0.mk R5.out.2
    have OB6 := Aside0.mk (blk_lt BK.out)
    clear ho
    replace R1 := Aside0.mk (R1.out.below hb)
    replace R2 := Aside0.mk (R2.out.below hb)
    replace R3 := Aside0.mk (R3.out.below hb)
    replace R4 := Aside0.mk (R4.out.below hb)
    replace R5 := Aside0.mk (R5.out.below hb)
    replace BK := Aside0.mk (blk_below BK.out hb)
    replace HB := Aside0.mk (below_step HB.out hb)
    clear hb
    go_wp2_with fail
    refine calls_of_args (args' := #[.agg #[.int .i64 a0_0, .int .i64 a0_1, .int .i64 a0_2, .int .i64 a0_3, .int .i64 a0_4, .int .i64 a0_5], .slice A_6 L.length c_6]) (by first | rfl | (rw [← HN6.out])) ?_; refine (impl_MoveLines.calls k a0_0 a0_1 a0_2 a0_3 a0_4 a0_5 _ _ L g go _ (R6.out.reads) (R6.out.cap) E3.out).mono ?_
    rintro e w17 ⟨v, rfl, ho, hb⟩
    obtain ⟨A_7, c_7, rfl⟩ := Kd.S_slice ho
    obtain ⟨n_7, hn_7⟩ : ∃ n, g.length = n := ⟨_, rfl⟩
    rw [hn_7] at ho ⊢
    have HN7 := Aside0.mk hn_7
    clear hn_7
    have R7 := Aside0.mk (LRow.new ho HB.out.size)
    have NN7 := Aside0.mk (show w.heap.size ≤ w16.heap.size from HB.out.size)
    have O1_7 := Aside0.mk R1.out.2
    have O2_7 := Aside0.mk R2.out.2
    have O3_7 := Aside0.mk R3.out.2
    have O4_7 := Aside0.mk R4.out.2
    have O5_7 := Aside0.mk R5.out.2
    have O6_7 := Aside0.mk R6.out.2
    have OB7 := Aside0.mk (blk_lt BK.out)
    clear ho
    replace R1 := Aside0.mk (R1.out.below hb)
    replace R2 := Aside0.mk (R2.out.below hb)
    replace R3 := Aside0.mk (R3.out.below hb)
    replace R4 := Aside0.mk (R4.out.below hb)
    replace R5 := Aside0.mk (R5.out.below hb)
    replace R6 := Aside0.mk (R6.out.below hb)
    replace BK := Aside0.mk (blk_below BK.out hb)
    replace HB := Aside0.mk (below_step HB.out hb)
    clear hb
    go_wp2_with fail
    refine calls_of_args (args' := #[.slice A_7 g.length c_7, .slice A_2 z.length c_2]) (by first | rfl | (rw [← HN7.out, ← HN2.out])) ?_; refine (laws_eqLineS.calls k _ _ g _ _ z true _ (R7.out.reads) (R7.out.cap) (R2.out.reads) (R2.out.cap) E4.out).mono ?_
    rintro e w18 ⟨rfl, hb⟩
    replace R1 := Aside0.mk (R1.out.below hb)
    replace R2 := Aside0.mk (R2.out.below hb)
    replace R3 := Aside0.mk (R3.out.below hb)
    replace R4 := Aside0.mk (R4.out.below hb)
    replace R5 := Aside0.mk (R5.out.below hb)
    replace R6 := Aside0.mk (R6.out.below hb)
    replace R7 := Aside0.mk (R7.out.below hb)
    replace BK := Aside0.mk (blk_below BK.out hb)
    replace HB := Aside0.mk (below_step HB.out hb)
    clear hb
    go_wp2_with fail
    refine calls_of_args (args' := #[.slice A_4 y2.length c_4, .int .i64 1]) (by first | rfl | (rw [← HN4.out])) ?_; refine (laws_heldLineS.calls k _ _ y2 1 q _ (R4.out.reads) (R4.out.cap) E8.out).mono ?_
    rintro e w19 ⟨rfl, hd⟩
    have hb := hd.below
    clear hd
    replace R1 := Aside0.mk (R1.out.below hb)
    replace R2 := Aside0.mk (R2.out.below hb)
    replace R3 := Aside0.mk (R3.out.below hb)
    replace R4 := Aside0.mk (R4.out.below hb)
    replace R5 := Aside0.mk (R5.out.below hb)
    replace R6 := Aside0.mk (R6.out.below hb)
    replace R7 := Aside0.mk (R7.out.below hb)
    replace BK := Aside0.mk (blk_below BK.out hb)
    replace HB := Aside0.mk (below_step HB.out hb)
    clear hb
    go_wp2
    go_ret
    exact ⟨rfl, HB.out⟩

end Go.Proofs.Ytdbgnoolokfafaa.HFnExactMoveLines
