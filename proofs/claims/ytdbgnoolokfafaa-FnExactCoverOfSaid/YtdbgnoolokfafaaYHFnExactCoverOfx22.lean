-- Printed by a program of this session over the kit's print; functions that the print does not take stand here by hand.
import Derived.Test.YtdbgnoolokfafaaYHFnExactCoverOfx0
import Derived.Test.YtdbgnoolokfafaaYHFnExactCoverOfx1
import Derived.Test.YtdbgnoolokfafaaYHFnExactCoverOfx2
import Derived.Test.YtdbgnoolokfafaaYHFnExactCoverOfx7
import Derived.Test.YtdbgnoolokfafaaYHFnExactCoverOfx14
import Derived.Test.YtdbgnoolokfafaaYHFnExactCoverOfx15
import Derived.Test.YtdbgnoolokfafaaYHFnExactCoverOfx16
import Derived.Test.YtdbgnoolokfafaaYHFnExactCoverOfx19
import Derived.Test.YtdbgnoolokfafaaYHFnExactCoverOfx20
import Derived.Test.YtdbgnoolokfafaaYHFnExactCoverOfx21
namespace Go.Proofs.Ytdbgnoolokfafaa.HFnExactCoverOf
open Go.RowKit Go.Proofs.YtdbgnoolokfafaaW.PrintWords Go.Proofs.YtdbgnoolokfafaaW.PrintLast Go.Proofs.YtdbgnoolokfafaaW.PrintMore
attribute [local go_sem] max2_int min2_int max_two min_two max_three min_three max_four min_four   -- for this text's walks alone
set_option linter.unusedVariables false
set_option linter.unusedSimpArgs false
/-! ### laws_FnExactCoverOf: function 10 -/
/-- Rows of lines whose blocks are those from N on and below M. -/
def LRow (W : World) (b N M : Nat) (A : Option Addr) (n c : Nat) (xs : List S83) : Prop := Kd.S k83 83 W b (fun k => N ≤ k ∧ k < M) (.slice A n c) xs ∧ M ≤ W.heap.size
theorem LRow.new {W w1 : World} {b n c : Nat} {A : Option Addr} {xs : List S83} (h : Kd.S k83 83 w1 W.heap.size (fun _ => True) (.slice A n c) xs) (hb : b ≤ W.heap.size) : LRow w1 b W.heap.size w1.heap.size A n c xs :=
  ⟨Kd.S_lower (Kd.S_mono (Kd.S_bound h) (fun k hk => ⟨hk.2.1, hk.2.2.1⟩)) hb, Nat.le_refl _⟩
theorem LRow.below {W w1 : World} {b N M n c : Nat} {A : Option Addr} {xs : List S83} (h : LRow W b N M A n c xs) (hb : Below W.heap.size W w1) : LRow w1 b N M A n c xs := ⟨Kd.S_below h.1 hb, Nat.le_trans h.2 hb.size⟩
theorem LRow.kept {W w1 : World} {b N M n c N2 M2 : Nat} {A : Option Addr} {xs : List S83} (h : LRow W b N M A n c xs) (hk : Kept W w1 (fun k => N2 ≤ k ∧ k < M2)) (ha : M ≤ N2 ∨ M2 ≤ N) : LRow w1 b N M A n c xs :=
  ⟨Kd.S_kept h.1 hk (fun k h1 h2 => by omega), Nat.le_trans h.2 hk.1⟩
theorem LRow.marked {W w1 : World} {b N M n c : Nat} {A : Option Addr} {xs ys : List S83} (h : LRow W b N M A n c xs) (hs : Kd.S k83 83 w1 b (fun k => N ≤ k ∧ k < M) (.slice A n c) ys) (hk : W.heap.size ≤ w1.heap.size) : LRow w1 b N M A n c ys := ⟨hs, Nat.le_trans h.2 hk⟩
theorem LRow.len {W : World} {b N M n c : Nat} {A : Option Addr} {xs : List S83} (h : LRow W b N M A n c xs) : n = xs.length := (Kd.S_reads' h.1).1
theorem LRow.cap {W : World} {b N M n c : Nat} {A : Option Addr} {xs : List S83} (h : LRow W b N M A n c xs) : xs.length ≤ c := by have := (Kd.S_reads' h.1).2.1; have := h.len; omega
theorem LRow.reads {W : World} {b N M n c : Nat} {A : Option Addr} {xs : List S83} (h : LRow W b N M A n c xs) : k83.C W A xs.length xs := (Kd.S_reads' h.1).2.2
/-- A row of numbers whose block is one from N on and below M. -/
def MRow (W : World) (b N M : Nat) (A : Option Addr) (n c : Nat) (xs : List Int) : Prop := Kd.R (Kd.int .i64) 3 W b (fun k => N ≤ k ∧ k < M) (.slice A n c) xs ∧ M ≤ W.heap.size
theorem MRow.new {W w1 : World} {b n c : Nat} {A : Option Addr} {xs : List Int} (h : Kd.R (Kd.int .i64) 3 w1 W.heap.size (fun _ => True) (.slice A n c) xs) (hb : b ≤ W.heap.size) : MRow w1 b W.heap.size w1.heap.size A n c xs :=
  ⟨Kd.R_lower (Kd.R_mono (Kd.R_bound h) (fun k hk => ⟨hk.2.1, hk.2.2.1⟩)) hb, Nat.le_refl _⟩
theorem MRow.below {W w1 : World} {b N M n c : Nat} {A : Option Addr} {xs : List Int} (h : MRow W b N M A n c xs) (hb : Below W.heap.size W w1) : MRow w1 b N M A n c xs := ⟨Kd.R_below h.1 hb, Nat.le_trans h.2 hb.size⟩
theorem MRow.kept {W w1 : World} {b N M n c N2 M2 : Nat} {A : Option Addr} {xs : List Int} (h : MRow W b N M A n c xs) (hk : Kept W w1 (fun k => N2 ≤ k ∧ k < M2)) (ha : M ≤ N2 ∨ M2 ≤ N) : MRow w1 b N M A n c xs :=
  ⟨Kd.R_kept h.1 hk (fun k h1 h2 => by omega), Nat.le_trans h.2 hk.1⟩
theorem MRow.marked {W w1 : World} {b N M n c : Nat} {A : Option Addr} {xs ys : List Int} (h : MRow W b N M A n c xs) (hs : Kd.R (Kd.int .i64) 3 w1 b (fun k => (N ≤ k ∧ k < M) ∨ W.heap.size ≤ k) (.slice A n c) ys) : MRow w1 b 0 w1.heap.size A n c ys := ⟨Kd.R_mono (Kd.R_bound hs) (fun k hk => ⟨Nat.zero_le _, hk.2.2.1⟩), Nat.le_refl _⟩
theorem MRow.len {W : World} {b N M n c : Nat} {A : Option Addr} {xs : List Int} (h : MRow W b N M A n c xs) : n = xs.length := (Kd.R_reads' h.1).1
theorem MRow.cap {W : World} {b N M n c : Nat} {A : Option Addr} {xs : List Int} (h : MRow W b N M A n c xs) : xs.length ≤ c := by have := (Kd.R_reads' h.1).2.1; have := h.len; omega
theorem MRow.reads {W : World} {b N M n c : Nat} {A : Option Addr} {xs : List Int} (h : MRow W b N M A n c xs) : (Kd.int .i64).C W A xs.length xs := (Kd.R_reads' h.1).2.2
def laws_FnExactCoverOf.f (k : Nat) (l0 : List (S116)) (a1 : Int) (a2 : Int) (a3 : Bool) : Option Bool :=
  (laws_szLineS.f k l0 1048576).bind fun s => if s < 0 then some true else (laws_toLineS.f k l0).bind fun L => (spec_CoverOf.f k L a1 a2 a3).bind fun w0 => (impl_CoverOf.f k L a1 a2 a3).bind fun g0 => (laws_eqMask.f k g0.1 g0.2.1 g0.2.2.1 w0.1 w0.2.1 w0.2.2.1).bind fun e1 => (laws_eqLineS.f k L L).bind fun e2 => (laws_markLineS.f k L 1).bind fun x => (laws_markMask.f k g0.1 g0.2.1 g0.2.2.1 1).bind fun y => (laws_heldMask.f k g0.1 g0.2.1 y.2 1).bind fun q => if e1 = true ∧ g0.2.2.2 = w0.2.2.2 ∧ e2 = true ∧ ¬ x.1 < 0 ∧ ¬ q < 0 ∧ q = y.1 then some true else none
set_option maxHeartbeats 4000000 in
set_option maxRecDepth 100000 in
theorem laws_FnExactCoverOf.calls (k : Nat) (A0 : Option Addr) (c0 : Nat) (l0 : List (S116)) (a1 : Int) (a2 : Int) (a3 : Bool) (r : Bool) (hrt : r = true) (w : World) (hr0 : Kd.C k116 w A0 l0.length l0) (hc0 : l0.length ≤ c0) (h : laws_FnExactCoverOf.f k l0 a1 a2 a3 = some r) :
    Calls Try.prog 10 #[.slice A0 l0.length c0, .int .i64 a1, .int .i64 a2, .bool a3] w fun e w' => e = .returned (.bool r) ∧ Below w.heap.size w w' := by
  subst hrt
  obtain ⟨s, e0, h⟩ := Option.bind_eq_some_iff.mp h
  have E0 := Aside0.mk e0
  clear e0
  have HR := Aside0.mk hr0
  have HC := Aside0.mk hc0
  clear hr0 hc0
  have hu_m := Try.underlying67
  by_cases hs : s < 0
  · rw [if_pos hs] at h
    have d0 : decide (s < 0) = true := decide_eq_true hs
    clear hs h
    go_enter Try.func10, Try.ntmps10
    go_wp2_with fail
    obtain ⟨W0, hW0⟩ : ∃ W0 : World, w = W0 := ⟨_, rfl⟩
    rw [hW0]
    have HB := Aside0.mk (show Below w.heap.size w W0 by rw [← hW0]; exact Below.refl _ _)
    clear hW0
    refine (laws_szLineS.calls k _ _ l0 1048576 s _ (Kd.C_below HR.out HB.out) HC.out E0.out).mono ?_
    rintro e w1 ⟨rfl, hb⟩
    replace HB := Aside0.mk (below_step HB.out hb)
    clear hb
    go_wp2
    go_ret
    exact ⟨rfl, HB.out⟩
  · rw [if_neg hs] at h
    obtain ⟨L, e1, h⟩ := Option.bind_eq_some_iff.mp h
    obtain ⟨⟨z1, z2, z, zo⟩, e2, h⟩ := Option.bind_eq_some_iff.mp h
    obtain ⟨⟨g1, g2, g, go⟩, e3, h⟩ := Option.bind_eq_some_iff.mp h
    obtain ⟨q1, e4, h⟩ := Option.bind_eq_some_iff.mp h
    obtain ⟨q2, e5, h⟩ := Option.bind_eq_some_iff.mp h
    obtain ⟨⟨x1, x2⟩, e6, h⟩ := Option.bind_eq_some_iff.mp h
    obtain ⟨⟨y1, y2⟩, e7, h⟩ := Option.bind_eq_some_iff.mp h
    obtain ⟨q, e8, h⟩ := Option.bind_eq_some_iff.mp h
    split at h
    rotate_left
    · cases h
    rename_i hc
    obtain ⟨rfl, rfl, rfl, hx, hq, rfl⟩ := hc
    clear h
    have E1 := Aside0.mk e1
    have E2 := Aside0.mk e2
    have E3 := Aside0.mk e3
    have E4 := Aside0.mk e4
    have E5 := Aside0.mk e5
    have E6 := Aside0.mk e6
    have E7 := Aside0.mk e7
    have E8 := Aside0.mk e8
    clear e1 e2 e3 e4 e5 e6 e7 e8
    have d0 : decide (s < 0) = false := decide_eq_false hs
    have d1 : decide (x1 < 0) = false := decide_eq_false hx
    have d2 : decide (q < 0) = false := decide_eq_false hq
    have d3 : (q != q) = false := bne_self_eq_false q
    have d4 : (go != go) = false := bne_self_eq_false go
    clear hs hx hq
    go_enter Try.func10, Try.ntmps10
    go_wp2_with fail
    obtain ⟨W0, hW0⟩ : ∃ W0 : World, w = W0 := ⟨_, rfl⟩
    rw [hW0]
    have HB := Aside0.mk (show Below w.heap.size w W0 by rw [← hW0]; exact Below.refl _ _)
    clear hW0
    refine (laws_szLineS.calls k _ _ l0 1048576 s _ (Kd.C_below HR.out HB.out) HC.out E0.out).mono ?_
    rintro e w1 ⟨rfl, hb⟩
    replace HB := Aside0.mk (below_step HB.out hb)
    clear hb
    go_wp2_with fail
    refine (laws_toLineS.calls k _ _ l0 L _ (Kd.C_below HR.out HB.out) HC.out E1.out).mono ?_
    rintro e w2 ⟨v, rfl, ho, hb⟩
    obtain ⟨A_1, c_1, rfl⟩ := Kd.S_slice ho
    obtain ⟨n_1, hn_1⟩ : ∃ n, L.length = n := ⟨_, rfl⟩
    rw [hn_1] at ho ⊢
    have HN1 := Aside0.mk hn_1
    clear hn_1
    have R1 := Aside0.mk (LRow.new ho HB.out.size)
    have NN1 := Aside0.mk (show w.heap.size ≤ w1.heap.size from HB.out.size)
    clear ho
    replace HB := Aside0.mk (below_step HB.out hb)
    clear hb
    go_wp2_with fail
    refine calls_of_args (args' := #[.slice A_1 L.length c_1, .int .i64 a1, .int .i64 a2, .bool a3]) (by first | rfl | (rw [← HN1.out])) ?_; refine (spec_CoverOf.calls k _ _ L a1 a2 a3 z1 z2 z go _ (R1.out.reads) (R1.out.cap) E2.out).mono ?_
    rintro e w3 ⟨v, rfl, ho, hb⟩
    obtain ⟨A_2, c_2, rfl⟩ := Kd.R_slice ho
    obtain ⟨n_2, hn_2⟩ : ∃ n, z.length = n := ⟨_, rfl⟩
    rw [hn_2] at ho ⊢
    have HN2 := Aside0.mk hn_2
    clear hn_2
    have R2 := Aside0.mk (MRow.new ho HB.out.size)
    have NN2 := Aside0.mk (show w.heap.size ≤ w2.heap.size from HB.out.size)
    have O1_2 := Aside0.mk R1.out.2
    clear ho
    replace R1 := Aside0.mk (R1.out.below hb)
    replace HB := Aside0.mk (below_step HB.out hb)
    clear hb
    go_wp2_with fail
    obtain ⟨V2, hV⟩ : ∃ V : World, w3.alloc (.cells #[.int .i64 z1, .int .i64 z2, .slice A_2 n_2 c_2] 67) = V := ⟨_, rfl⟩
    rw [hV]
    have hb : Below w3.heap.size w3 V2 := hV ▸ (Below.refl _ _).alloc (Nat.le_refl _) _
    have hk : V2.heap[w3.heap.size]? = some (.cells #[.int .i64 z1, .int .i64 z2, .slice A_2 n_2 c_2] 67 (0, 0)) := by rw [← hV]; exact (MapKept.heap_alloc w3 _).1
    clear hV
    have PM2_1 := Aside0.mk R1.out.2
    have PM2_2 := Aside0.mk R2.out.2
    replace R1 := Aside0.mk (R1.out.below hb)
    replace R2 := Aside0.mk (R2.out.below hb)
    replace HB := Aside0.mk (below_step HB.out hb)
    clear hb
    obtain ⟨gm2, hgm⟩ : ∃ g : Nat, w3.heap.size = g := ⟨_, rfl⟩
    rw [hgm] at hk ⊢
    replace PM2_1 := Aside0.mk (Nat.le_trans PM2_1.out (Nat.le_of_eq hgm))
    replace PM2_2 := Aside0.mk (Nat.le_trans PM2_2.out (Nat.le_of_eq hgm))
    clear hgm
    have BKM2 := Aside0.mk hk
    clear hk
    go_wp2_with fail
    refine (laws_toLineS.calls k _ _ l0 L _ (Kd.C_below HR.out HB.out) HC.out E1.out).mono ?_
    rintro e w4 ⟨v, rfl, ho, hb⟩
    obtain ⟨A_3, c_3, rfl⟩ := Kd.S_slice ho
    obtain ⟨n_3, hn_3⟩ : ∃ n, L.length = n := ⟨_, rfl⟩
    rw [hn_3] at ho ⊢
    have HN3 := Aside0.mk hn_3
    clear hn_3
    have R3 := Aside0.mk (LRow.new ho HB.out.size)
    have NN3 := Aside0.mk (show w.heap.size ≤ V2.heap.size from HB.out.size)
    have O1_3 := Aside0.mk R1.out.2
    have O2_3 := Aside0.mk R2.out.2
    have OM2_3 := Aside0.mk (blk_lt BKM2.out)
    clear ho
    replace R1 := Aside0.mk (R1.out.below hb)
    replace R2 := Aside0.mk (R2.out.below hb)
    replace BKM2 := Aside0.mk (blk_below BKM2.out hb)
    replace HB := Aside0.mk (below_step HB.out hb)
    clear hb
    go_wp2_with fail
    refine calls_of_args (args' := #[.slice A_3 L.length c_3, .int .i64 a1, .int .i64 a2, .bool a3]) (by first | rfl | (rw [← HN3.out])) ?_; refine (impl_CoverOf.calls k _ _ L a1 a2 a3 g1 g2 g go _ (R3.out.reads) (R3.out.cap) E3.out).mono ?_
    rintro e w5 ⟨v, rfl, ho, hb⟩
    obtain ⟨A_4, c_4, rfl⟩ := Kd.R_slice ho
    obtain ⟨n_4, hn_4⟩ : ∃ n, g.length = n := ⟨_, rfl⟩
    rw [hn_4] at ho ⊢
    have HN4 := Aside0.mk hn_4
    clear hn_4
    have R4 := Aside0.mk (MRow.new ho HB.out.size)
    have NN4 := Aside0.mk (show w.heap.size ≤ w4.heap.size from HB.out.size)
    have O1_4 := Aside0.mk R1.out.2
    have O2_4 := Aside0.mk R2.out.2
    have O3_4 := Aside0.mk R3.out.2
    have OM2_4 := Aside0.mk (blk_lt BKM2.out)
    clear ho
    replace R1 := Aside0.mk (R1.out.below hb)
    replace R2 := Aside0.mk (R2.out.below hb)
    replace R3 := Aside0.mk (R3.out.below hb)
    replace BKM2 := Aside0.mk (blk_below BKM2.out hb)
    replace HB := Aside0.mk (below_step HB.out hb)
    clear hb
    have hv4_2_0 : (w5.alloc (.cells #[.int .i64 g1, .int .i64 g2, .slice A_4 n_4 c_4] 67)).cell? ⟨gm2, 0, none⟩ = some (.int .i64 z1) := (blk_cell (blk_alloc BKM2.out _) 0).trans rfl
    have hv4_2_1 : (w5.alloc (.cells #[.int .i64 g1, .int .i64 g2, .slice A_4 n_4 c_4] 67)).cell? ⟨gm2, 1, none⟩ = some (.int .i64 z2) := (blk_cell (blk_alloc BKM2.out _) 1).trans rfl
    have hv4_2_2 : (w5.alloc (.cells #[.int .i64 g1, .int .i64 g2, .slice A_4 n_4 c_4] 67)).cell? ⟨gm2, 2, none⟩ = some (.slice A_2 n_2 c_2) := (blk_cell (blk_alloc BKM2.out _) 2).trans rfl
    go_wp2_with fail
    clear hv4_2_0 hv4_2_1 hv4_2_2
    obtain ⟨V4, hV⟩ : ∃ V : World, w5.alloc (.cells #[.int .i64 g1, .int .i64 g2, .slice A_4 n_4 c_4] 67) = V := ⟨_, rfl⟩
    rw [hV]
    have hb : Below w5.heap.size w5 V4 := hV ▸ (Below.refl _ _).alloc (Nat.le_refl _) _
    have hk : V4.heap[w5.heap.size]? = some (.cells #[.int .i64 g1, .int .i64 g2, .slice A_4 n_4 c_4] 67 (0, 0)) := by rw [← hV]; exact (MapKept.heap_alloc w5 _).1
    clear hV
    have PM4_1 := Aside0.mk R1.out.2
    have PM4_2 := Aside0.mk R2.out.2
    have PM4_3 := Aside0.mk R3.out.2
    have PM4_4 := Aside0.mk R4.out.2
    replace R1 := Aside0.mk (R1.out.below hb)
    replace R2 := Aside0.mk (R2.out.below hb)
    replace R3 := Aside0.mk (R3.out.below hb)
    replace R4 := Aside0.mk (R4.out.below hb)
    replace BKM2 := Aside0.mk (blk_below BKM2.out hb)
    replace HB := Aside0.mk (below_step HB.out hb)
    clear hb
    obtain ⟨gm4, hgm⟩ : ∃ g : Nat, w5.heap.size = g := ⟨_, rfl⟩
    rw [hgm] at hk ⊢
    replace PM4_1 := Aside0.mk (Nat.le_trans PM4_1.out (Nat.le_of_eq hgm))
    replace PM4_2 := Aside0.mk (Nat.le_trans PM4_2.out (Nat.le_of_eq hgm))
    replace PM4_3 := Aside0.mk (Nat.le_trans PM4_3.out (Nat.le_of_eq hgm))
    replace PM4_4 := Aside0.mk (Nat.le_trans PM4_4.out (Nat.le_of_eq hgm))
    clear hgm
    have BKM4 := Aside0.mk hk
    clear hk
    have hm1_4_0 : V4.cell? ⟨gm4, 0, none⟩ = some (.int .i64 g1) := (blk_cell BKM4.out 0).trans rfl
    have hm1_4_1 : V4.cell? ⟨gm4, 1, none⟩ = some (.int .i64 g2) := (blk_cell BKM4.out 1).trans rfl
    have hm1_4_2 : V4.cell? ⟨gm4, 2, none⟩ = some (.slice A_4 n_4 c_4) := (blk_cell BKM4.out 2).trans rfl
    have hm1_2_0 : V4.cell? ⟨gm2, 0, none⟩ = some (.int .i64 z1) := (blk_cell BKM2.out 0).trans rfl
    have hm1_2_1 : V4.cell? ⟨gm2, 1, none⟩ = some (.int .i64 z2) := (blk_cell BKM2.out 1).trans rfl
    have hm1_2_2 : V4.cell? ⟨gm2, 2, none⟩ = some (.slice A_2 n_2 c_2) := (blk_cell BKM2.out 2).trans rfl
    have hf1_4_0 := blk_frozen BKM4.out 0
    have hf1_4_1 := blk_frozen BKM4.out 1
    have hf1_4_2 := blk_frozen BKM4.out 2
    have hf1_2_0 := blk_frozen BKM2.out 0
    have hf1_2_1 := blk_frozen BKM2.out 1
    have hf1_2_2 := blk_frozen BKM2.out 2
    go_wp2_with fail
    refine calls_of_args (args' := #[.agg #[.int .i64 g1, .int .i64 g2, .slice A_4 g.length c_4], .agg #[.int .i64 z1, .int .i64 z2, .slice A_2 z.length c_2]]) (by first | rfl | (rw [← HN4.out, ← HN2.out])) ?_; refine (laws_eqMask.calls k g1 g2 _ _ g z1 z2 _ _ z true _ (R4.out.reads) (R4.out.cap) (R2.out.reads) (R2.out.cap) E4.out).mono ?_
    rintro e w6 ⟨rfl, hb⟩
    replace R1 := Aside0.mk (R1.out.below hb)
    replace R2 := Aside0.mk (R2.out.below hb)
    replace R3 := Aside0.mk (R3.out.below hb)
    replace R4 := Aside0.mk (R4.out.below hb)
    replace BKM2 := Aside0.mk (blk_below BKM2.out hb)
    replace BKM4 := Aside0.mk (blk_below BKM4.out hb)
    replace HB := Aside0.mk (below_step HB.out hb)
    clear hb
    go_wp2_with fail
    refine (laws_toLineS.calls k _ _ l0 L _ (Kd.C_below HR.out HB.out) HC.out E1.out).mono ?_
    rintro e w7 ⟨v, rfl, ho, hb⟩
    obtain ⟨A_5, c_5, rfl⟩ := Kd.S_slice ho
    obtain ⟨n_5, hn_5⟩ : ∃ n, L.length = n := ⟨_, rfl⟩
    rw [hn_5] at ho ⊢
    have HN5 := Aside0.mk hn_5
    clear hn_5
    have R5 := Aside0.mk (LRow.new ho HB.out.size)
    have NN5 := Aside0.mk (show w.heap.size ≤ w6.heap.size from HB.out.size)
    have O1_5 := Aside0.mk R1.out.2
    have O2_5 := Aside0.mk R2.out.2
    have O3_5 := Aside0.mk R3.out.2
    have O4_5 := Aside0.mk R4.out.2
    have OM2_5 := Aside0.mk (blk_lt BKM2.out)
    have OM4_5 := Aside0.mk (blk_lt BKM4.out)
    clear ho
    replace R1 := Aside0.mk (R1.out.below hb)
    replace R2 := Aside0.mk (R2.out.below hb)
    replace R3 := Aside0.mk (R3.out.below hb)
    replace R4 := Aside0.mk (R4.out.below hb)
    replace BKM2 := Aside0.mk (blk_below BKM2.out hb)
    replace BKM4 := Aside0.mk (blk_below BKM4.out hb)
    replace HB := Aside0.mk (below_step HB.out hb)
    clear hb
    go_wp2_with fail
    refine calls_of_args (args' := #[.slice A_3 L.length c_3, .slice A_5 L.length c_5]) (by first | rfl | (rw [← HN3.out, ← HN5.out])) ?_; refine (laws_eqLineS.calls k _ _ L _ _ L true _ (R3.out.reads) (R3.out.cap) (R5.out.reads) (R5.out.cap) E5.out).mono ?_
    rintro e w8 ⟨rfl, hb⟩
    replace R1 := Aside0.mk (R1.out.below hb)
    replace R2 := Aside0.mk (R2.out.below hb)
    replace R3 := Aside0.mk (R3.out.below hb)
    replace R4 := Aside0.mk (R4.out.below hb)
    replace R5 := Aside0.mk (R5.out.below hb)
    replace BKM2 := Aside0.mk (blk_below BKM2.out hb)
    replace BKM4 := Aside0.mk (blk_below BKM4.out hb)
    replace HB := Aside0.mk (below_step HB.out hb)
    clear hb
    go_wp2_with fail
    refine (laws_markLineS.calls k _ _ _ L 1 x1 x2 w _ HB.out NN3.out R3.out.1 E6.out).mono ?_
    rintro e w9 ⟨rfl, hs, hb, hk⟩
    replace R1 := Aside0.mk (R1.out.kept hk (.inl O1_3.out))
    replace R2 := Aside0.mk (R2.out.kept hk (.inl O2_3.out))
    replace R3 := Aside0.mk (R3.out.marked hs hk.1)
    replace R4 := Aside0.mk (R4.out.kept hk (.inr O3_4.out))
    replace R5 := Aside0.mk (R5.out.kept hk (.inr O3_5.out))
    replace BKM2 := Aside0.mk (blk_kept BKM2.out hk (fun hs_ => Nat.not_le.2 OM2_3.out hs_.1))
    replace BKM4 := Aside0.mk (blk_kept BKM4.out hk (fun hs_ => Nat.not_lt.2 PM4_3.out hs_.2))
    replace HB := Aside0.mk hb
    clear hs hb hk
    replace HN3 := Aside0.mk (show x2.length = n_3 from R3.out.len.symm)
    have hm2_4_0 : w9.cell? ⟨gm4, 0, none⟩ = some (.int .i64 g1) := (blk_cell BKM4.out 0).trans rfl
    have hm2_4_1 : w9.cell? ⟨gm4, 1, none⟩ = some (.int .i64 g2) := (blk_cell BKM4.out 1).trans rfl
    have hm2_4_2 : w9.cell? ⟨gm4, 2, none⟩ = some (.slice A_4 n_4 c_4) := (blk_cell BKM4.out 2).trans rfl
    have hm2_2_0 : w9.cell? ⟨gm2, 0, none⟩ = some (.int .i64 z1) := (blk_cell BKM2.out 0).trans rfl
    have hm2_2_1 : w9.cell? ⟨gm2, 1, none⟩ = some (.int .i64 z2) := (blk_cell BKM2.out 1).trans rfl
    have hm2_2_2 : w9.cell? ⟨gm2, 2, none⟩ = some (.slice A_2 n_2 c_2) := (blk_cell BKM2.out 2).trans rfl
    have hf2_4_0 := blk_frozen BKM4.out 0
    have hf2_4_1 := blk_frozen BKM4.out 1
    have hf2_4_2 := blk_frozen BKM4.out 2
    have hf2_2_0 := blk_frozen BKM2.out 0
    have hf2_2_1 := blk_frozen BKM2.out 1
    have hf2_2_2 := blk_frozen BKM2.out 2
    go_wp2_with fail
    refine calls_of_args (args' := #[.agg #[.int .i64 g1, .int .i64 g2, .slice A_4 g.length c_4], .agg #[.int .i64 z1, .int .i64 z2, .slice A_2 z.length c_2]]) (by first | rfl | (rw [← HN4.out, ← HN2.out])) ?_; refine (laws_eqMask.calls k g1 g2 _ _ g z1 z2 _ _ z true _ (R4.out.reads) (R4.out.cap) (R2.out.reads) (R2.out.cap) E4.out).mono ?_
    rintro e w10 ⟨rfl, hb⟩
    replace R1 := Aside0.mk (R1.out.below hb)
    replace R2 := Aside0.mk (R2.out.below hb)
    replace R3 := Aside0.mk (R3.out.below hb)
    replace R4 := Aside0.mk (R4.out.below hb)
    replace R5 := Aside0.mk (R5.out.below hb)
    replace BKM2 := Aside0.mk (blk_below BKM2.out hb)
    replace BKM4 := Aside0.mk (blk_below BKM4.out hb)
    replace HB := Aside0.mk (below_step HB.out hb)
    clear hb
    have hm3_4_0 : w10.cell? ⟨gm4, 0, none⟩ = some (.int .i64 g1) := (blk_cell BKM4.out 0).trans rfl
    have hm3_4_1 : w10.cell? ⟨gm4, 1, none⟩ = some (.int .i64 g2) := (blk_cell BKM4.out 1).trans rfl
    have hm3_4_2 : w10.cell? ⟨gm4, 2, none⟩ = some (.slice A_4 n_4 c_4) := (blk_cell BKM4.out 2).trans rfl
    have hf3_4_0 := blk_frozen BKM4.out 0
    have hf3_4_1 := blk_frozen BKM4.out 1
    have hf3_4_2 := blk_frozen BKM4.out 2
    go_wp2_with fail
    refine (laws_markMask.calls k g1 g2 _ _ g 1 q y2 w _ HB.out R4.out.1 E7.out).mono ?_
    rintro e w11 ⟨rfl, hs, hb, hk⟩
    replace R1 := Aside0.mk (R1.out.kept hk (.inl O1_4.out))
    replace R2 := Aside0.mk (R2.out.kept hk (.inl O2_4.out))
    replace R3 := Aside0.mk (R3.out.kept hk (.inl O3_4.out))
    replace R4 := Aside0.mk (R4.out.marked hs)
    replace R5 := Aside0.mk (R5.out.kept hk (.inr O4_5.out))
    replace BKM2 := Aside0.mk (blk_kept BKM2.out hk (fun hs_ => Nat.not_le.2 OM2_4.out hs_.1))
    replace BKM4 := Aside0.mk (blk_kept BKM4.out hk (fun hs_ => Nat.not_lt.2 PM4_4.out hs_.2))
    replace HB := Aside0.mk hb
    clear hs hb hk
    replace HN4 := Aside0.mk (show y2.length = n_4 from R4.out.len.symm)
    have hm4_4_0 : w11.cell? ⟨gm4, 0, none⟩ = some (.int .i64 g1) := (blk_cell BKM4.out 0).trans rfl
    have hm4_4_1 : w11.cell? ⟨gm4, 1, none⟩ = some (.int .i64 g2) := (blk_cell BKM4.out 1).trans rfl
    have hm4_4_2 : w11.cell? ⟨gm4, 2, none⟩ = some (.slice A_4 n_4 c_4) := (blk_cell BKM4.out 2).trans rfl
    have hf4_4_0 := blk_frozen BKM4.out 0
    have hf4_4_1 := blk_frozen BKM4.out 1
    have hf4_4_2 := blk_frozen BKM4.out 2
    go_wp2_with fail
    refine calls_of_args (args' := #[.agg #[.int .i64 g1, .int .i64 g2, .slice A_4 y2.length c_4], .int .i64 1]) (by first | rfl | (rw [← HN4.out])) ?_; refine (laws_heldMask.calls k g1 g2 _ _ y2 1 q _ (R4.out.reads) (R4.out.cap) E8.out).mono ?_
    rintro e w12 ⟨rfl, hb⟩
    replace R1 := Aside0.mk (R1.out.below hb)
    replace R2 := Aside0.mk (R2.out.below hb)
    replace R3 := Aside0.mk (R3.out.below hb)
    replace R4 := Aside0.mk (R4.out.below hb)
    replace R5 := Aside0.mk (R5.out.below hb)
    replace BKM2 := Aside0.mk (blk_below BKM2.out hb)
    replace BKM4 := Aside0.mk (blk_below BKM4.out hb)
    replace HB := Aside0.mk (below_step HB.out hb)
    clear hb
    go_wp2_with fail
    refine (laws_toLineS.calls k _ _ l0 L _ (Kd.C_below HR.out HB.out) HC.out E1.out).mono ?_
    rintro e w13 ⟨v, rfl, ho, hb⟩
    obtain ⟨A_6, c_6, rfl⟩ := Kd.S_slice ho
    obtain ⟨n_6, hn_6⟩ : ∃ n, L.length = n := ⟨_, rfl⟩
    rw [hn_6] at ho ⊢
    have HN6 := Aside0.mk hn_6
    clear hn_6
    have R6 := Aside0.mk (LRow.new ho HB.out.size)
    have NN6 := Aside0.mk (show w.heap.size ≤ w12.heap.size from HB.out.size)
    have O1_6 := Aside0.mk R1.out.2
    have O2_6 := Aside0.mk R2.out.2
    have O3_6 := Aside0.mk R3.out.2
    have O4_6 := Aside0.mk R4.out.2
    have O5_6 := Aside0.mk R5.out.2
    have OM2_6 := Aside0.mk (blk_lt BKM2.out)
    have OM4_6 := Aside0.mk (blk_lt BKM4.out)
    clear ho
    replace R1 := Aside0.mk (R1.out.below hb)
    replace R2 := Aside0.mk (R2.out.below hb)
    replace R3 := Aside0.mk (R3.out.below hb)
    replace R4 := Aside0.mk (R4.out.below hb)
    replace R5 := Aside0.mk (R5.out.below hb)
    replace BKM2 := Aside0.mk (blk_below BKM2.out hb)
    replace BKM4 := Aside0.mk (blk_below BKM4.out hb)
    replace HB := Aside0.mk (below_step HB.out hb)
    clear hb
    go_wp2_with fail
    refine calls_of_args (args' := #[.slice A_6 L.length c_6, .int .i64 a1, .int .i64 a2, .bool a3]) (by first | rfl | (rw [← HN6.out])) ?_; refine (impl_CoverOf.calls k _ _ L a1 a2 a3 g1 g2 g go _ (R6.out.reads) (R6.out.cap) E3.out).mono ?_
    rintro e w14 ⟨v, rfl, ho, hb⟩
    obtain ⟨A_7, c_7, rfl⟩ := Kd.R_slice ho
    obtain ⟨n_7, hn_7⟩ : ∃ n, g.length = n := ⟨_, rfl⟩
    rw [hn_7] at ho ⊢
    have HN7 := Aside0.mk hn_7
    clear hn_7
    have R7 := Aside0.mk (MRow.new ho HB.out.size)
    have NN7 := Aside0.mk (show w.heap.size ≤ w13.heap.size from HB.out.size)
    have O1_7 := Aside0.mk R1.out.2
    have O2_7 := Aside0.mk R2.out.2
    have O3_7 := Aside0.mk R3.out.2
    have O4_7 := Aside0.mk R4.out.2
    have O5_7 := Aside0.mk R5.out.2
    have O6_7 := Aside0.mk R6.out.2
    have OM2_7 := Aside0.mk (blk_lt BKM2.out)
    have OM4_7 := Aside0.mk (blk_lt BKM4.out)
    clear ho
    replace R1 := Aside0.mk (R1.out.below hb)
    replace R2 := Aside0.mk (R2.out.below hb)
    replace R3 := Aside0.mk (R3.out.below hb)
    replace R4 := Aside0.mk (R4.out.below hb)
    replace R5 := Aside0.mk (R5.out.below hb)
    replace R6 := Aside0.mk (R6.out.below hb)
    replace BKM2 := Aside0.mk (blk_below BKM2.out hb)
    replace BKM4 := Aside0.mk (blk_below BKM4.out hb)
    replace HB := Aside0.mk (below_step HB.out hb)
    clear hb
    have hv7_2_0 : (w14.alloc (.cells #[.int .i64 g1, .int .i64 g2, .slice A_7 n_7 c_7] 67)).cell? ⟨gm2, 0, none⟩ = some (.int .i64 z1) := (blk_cell (blk_alloc BKM2.out _) 0).trans rfl
    have hv7_2_1 : (w14.alloc (.cells #[.int .i64 g1, .int .i64 g2, .slice A_7 n_7 c_7] 67)).cell? ⟨gm2, 1, none⟩ = some (.int .i64 z2) := (blk_cell (blk_alloc BKM2.out _) 1).trans rfl
    have hv7_2_2 : (w14.alloc (.cells #[.int .i64 g1, .int .i64 g2, .slice A_7 n_7 c_7] 67)).cell? ⟨gm2, 2, none⟩ = some (.slice A_2 n_2 c_2) := (blk_cell (blk_alloc BKM2.out _) 2).trans rfl
    have hv7_4_0 : (w14.alloc (.cells #[.int .i64 g1, .int .i64 g2, .slice A_7 n_7 c_7] 67)).cell? ⟨gm4, 0, none⟩ = some (.int .i64 g1) := (blk_cell (blk_alloc BKM4.out _) 0).trans rfl
    have hv7_4_1 : (w14.alloc (.cells #[.int .i64 g1, .int .i64 g2, .slice A_7 n_7 c_7] 67)).cell? ⟨gm4, 1, none⟩ = some (.int .i64 g2) := (blk_cell (blk_alloc BKM4.out _) 1).trans rfl
    have hv7_4_2 : (w14.alloc (.cells #[.int .i64 g1, .int .i64 g2, .slice A_7 n_7 c_7] 67)).cell? ⟨gm4, 2, none⟩ = some (.slice A_4 n_4 c_4) := (blk_cell (blk_alloc BKM4.out _) 2).trans rfl
    go_wp2_with fail
    clear hv7_2_0 hv7_2_1 hv7_2_2
    clear hv7_4_0 hv7_4_1 hv7_4_2
    obtain ⟨V7, hV⟩ : ∃ V : World, w14.alloc (.cells #[.int .i64 g1, .int .i64 g2, .slice A_7 n_7 c_7] 67) = V := ⟨_, rfl⟩
    rw [hV]
    have hb : Below w14.heap.size w14 V7 := hV ▸ (Below.refl _ _).alloc (Nat.le_refl _) _
    have hk : V7.heap[w14.heap.size]? = some (.cells #[.int .i64 g1, .int .i64 g2, .slice A_7 n_7 c_7] 67 (0, 0)) := by rw [← hV]; exact (MapKept.heap_alloc w14 _).1
    clear hV
    have PM7_1 := Aside0.mk R1.out.2
    have PM7_2 := Aside0.mk R2.out.2
    have PM7_3 := Aside0.mk R3.out.2
    have PM7_4 := Aside0.mk R4.out.2
    have PM7_5 := Aside0.mk R5.out.2
    have PM7_6 := Aside0.mk R6.out.2
    have PM7_7 := Aside0.mk R7.out.2
    replace R1 := Aside0.mk (R1.out.below hb)
    replace R2 := Aside0.mk (R2.out.below hb)
    replace R3 := Aside0.mk (R3.out.below hb)
    replace R4 := Aside0.mk (R4.out.below hb)
    replace R5 := Aside0.mk (R5.out.below hb)
    replace R6 := Aside0.mk (R6.out.below hb)
    replace R7 := Aside0.mk (R7.out.below hb)
    replace BKM2 := Aside0.mk (blk_below BKM2.out hb)
    replace BKM4 := Aside0.mk (blk_below BKM4.out hb)
    replace HB := Aside0.mk (below_step HB.out hb)
    clear hb
    obtain ⟨gm7, hgm⟩ : ∃ g : Nat, w14.heap.size = g := ⟨_, rfl⟩
    rw [hgm] at hk ⊢
    replace PM7_1 := Aside0.mk (Nat.le_trans PM7_1.out (Nat.le_of_eq hgm))
    replace PM7_2 := Aside0.mk (Nat.le_trans PM7_2.out (Nat.le_of_eq hgm))
    replace PM7_3 := Aside0.mk (Nat.le_trans PM7_3.out (Nat.le_of_eq hgm))
    replace PM7_4 := Aside0.mk (Nat.le_trans PM7_4.out (Nat.le_of_eq hgm))
    replace PM7_5 := Aside0.mk (Nat.le_trans PM7_5.out (Nat.le_of_eq hgm))
    replace PM7_6 := Aside0.mk (Nat.le_trans PM7_6.out (Nat.le_of_eq hgm))
    replace PM7_7 := Aside0.mk (Nat.le_trans PM7_7.out (Nat.le_of_eq hgm))
    clear hgm
    have BKM7 := Aside0.mk hk
    clear hk
    have hm5_7_0 : V7.cell? ⟨gm7, 0, none⟩ = some (.int .i64 g1) := (blk_cell BKM7.out 0).trans rfl
    have hm5_7_1 : V7.cell? ⟨gm7, 1, none⟩ = some (.int .i64 g2) := (blk_cell BKM7.out 1).trans rfl
    have hm5_7_2 : V7.cell? ⟨gm7, 2, none⟩ = some (.slice A_7 n_7 c_7) := (blk_cell BKM7.out 2).trans rfl
    have hm5_2_0 : V7.cell? ⟨gm2, 0, none⟩ = some (.int .i64 z1) := (blk_cell BKM2.out 0).trans rfl
    have hm5_2_1 : V7.cell? ⟨gm2, 1, none⟩ = some (.int .i64 z2) := (blk_cell BKM2.out 1).trans rfl
    have hm5_2_2 : V7.cell? ⟨gm2, 2, none⟩ = some (.slice A_2 n_2 c_2) := (blk_cell BKM2.out 2).trans rfl
    have hf5_7_0 := blk_frozen BKM7.out 0
    have hf5_7_1 := blk_frozen BKM7.out 1
    have hf5_7_2 := blk_frozen BKM7.out 2
    have hf5_2_0 := blk_frozen BKM2.out 0
    have hf5_2_1 := blk_frozen BKM2.out 1
    have hf5_2_2 := blk_frozen BKM2.out 2
    go_wp2_with fail
    refine calls_of_args (args' := #[.agg #[.int .i64 g1, .int .i64 g2, .slice A_7 g.length c_7], .agg #[.int .i64 z1, .int .i64 z2, .slice A_2 z.length c_2]]) (by first | rfl | (rw [← HN7.out, ← HN2.out])) ?_; refine (laws_eqMask.calls k g1 g2 _ _ g z1 z2 _ _ z true _ (R7.out.reads) (R7.out.cap) (R2.out.reads) (R2.out.cap) E4.out).mono ?_
    rintro e w15 ⟨rfl, hb⟩
    replace R1 := Aside0.mk (R1.out.below hb)
    replace R2 := Aside0.mk (R2.out.below hb)
    replace R3 := Aside0.mk (R3.out.below hb)
    replace R4 := Aside0.mk (R4.out.below hb)
    replace R5 := Aside0.mk (R5.out.below hb)
    replace R6 := Aside0.mk (R6.out.below hb)
    replace R7 := Aside0.mk (R7.out.below hb)
    replace BKM2 := Aside0.mk (blk_below BKM2.out hb)
    replace BKM4 := Aside0.mk (blk_below BKM4.out hb)
    replace BKM7 := Aside0.mk (blk_below BKM7.out hb)
    replace HB := Aside0.mk (below_step HB.out hb)
    clear hb
    have hm6_4_0 : w15.cell? ⟨gm4, 0, none⟩ = some (.int .i64 g1) := (blk_cell BKM4.out 0).trans rfl
    have hm6_4_1 : w15.cell? ⟨gm4, 1, none⟩ = some (.int .i64 g2) := (blk_cell BKM4.out 1).trans rfl
    have hm6_4_2 : w15.cell? ⟨gm4, 2, none⟩ = some (.slice A_4 n_4 c_4) := (blk_cell BKM4.out 2).trans rfl
    have hf6_4_0 := blk_frozen BKM4.out 0
    have hf6_4_1 := blk_frozen BKM4.out 1
    have hf6_4_2 := blk_frozen BKM4.out 2
    go_wp2_with fail
    refine calls_of_args (args' := #[.agg #[.int .i64 g1, .int .i64 g2, .slice A_4 y2.length c_4], .int .i64 1]) (by first | rfl | (rw [← HN4.out])) ?_; refine (laws_heldMask.calls k g1 g2 _ _ y2 1 q _ (R4.out.reads) (R4.out.cap) E8.out).mono ?_
    rintro e w16 ⟨rfl, hb⟩
    replace R1 := Aside0.mk (R1.out.below hb)
    replace R2 := Aside0.mk (R2.out.below hb)
    replace R3 := Aside0.mk (R3.out.below hb)
    replace R4 := Aside0.mk (R4.out.below hb)
    replace R5 := Aside0.mk (R5.out.below hb)
    replace R6 := Aside0.mk (R6.out.below hb)
    replace R7 := Aside0.mk (R7.out.below hb)
    replace BKM2 := Aside0.mk (blk_below BKM2.out hb)
    replace BKM4 := Aside0.mk (blk_below BKM4.out hb)
    replace BKM7 := Aside0.mk (blk_below BKM7.out hb)
    replace HB := Aside0.mk (below_step HB.out hb)
    clear hb
    go_wp2
    go_ret
    exact ⟨rfl, HB.out⟩
end Go.Proofs.Ytdbgnoolokfafaa.HFnExactCoverOf
