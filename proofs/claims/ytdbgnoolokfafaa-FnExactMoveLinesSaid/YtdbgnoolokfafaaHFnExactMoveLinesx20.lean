-- Printed by a program of this session over the kit's print; functions that the print does not take stand here by hand.
import Derived.Test.YtdbgnoolokfafaaHFnExactMoveLinesx0
import Derived.Test.YtdbgnoolokfafaaHFnExactMoveLinesx16
import Derived.Test.YtdbgnoolokfafaaHFnExactMoveLinesx17
import Derived.Test.YtdbgnoolokfafaaHFnExactMoveLinesx18
import Derived.Test.YtdbgnoolokfafaaHFnExactMoveLinesx19
namespace Go.Proofs.Ytdbgnoolokfafaa.HFnExactMoveLines
open Go.RowKit Go.Proofs.YtdbgnoolokfafaaW.PrintWords Go.Proofs.YtdbgnoolokfafaaW.PrintLast Go.Proofs.YtdbgnoolokfafaaW.PrintMore
attribute [local go_sem] max2_int min2_int max_two min_two max_three min_three max_four min_four   -- for this text's walks alone
set_option linter.unusedVariables false
set_option linter.unusedSimpArgs false

/-! ### impl_FixMul: function 189 -/
mutual
def impl_FixMul.j0 : Nat → Int → Int → Bool → Option (Int)
  | 0, _, _, _ => none
  | k + 1, x0, x1, x21 => if x21 = true then ((impl_down.f (wrap64 ((wrap64 (x0 * x1)) + 32768)) 65536).bind fun t245 => ((impl_cut.f t245 (-1099511627776) 1099511627776).bind fun t246 => (some t246))) else ((bits_Mul64.f (IntKind.u64.wrap (mx x0 (wrap64 (-x0)))) (IntKind.u64.wrap (mx x1 (wrap64 (-x1))))).bind fun bt247 => (if ((decide (x0 < 0)) != (decide (x1 < 0))) = true then (impl_FixMul.j1 k ((decide (x0 < 0)) != (decide (x1 < 0))) bt247.1 bt247.2 (32768 - 1)) else (impl_FixMul.j1 k ((decide (x0 < 0)) != (decide (x1 < 0))) bt247.1 bt247.2 32768)))
def impl_FixMul.j1 : Nat → Bool → Int → Int → Int → Option (Int)
  | 0, _, _, _, _ => none
  | k + 1, x5, x6, x7, x8 => (bits_Add64.f x7 x8 0).bind fun bt249 => (if ((IntKind.u64.wrap (x6 + bt249.2)) / 65536) = 0 then (if x5 = true then (some (wrap64 (-(wrap64 (mn (Go.bits .or .u64 (IntKind.u64.wrap ((IntKind.u64.wrap (x6 + bt249.2)) * 281474976710656)) (bt249.1 / 65536)) 1099511627776))))) else (some (wrap64 (mn (Go.bits .or .u64 (IntKind.u64.wrap ((IntKind.u64.wrap (x6 + bt249.2)) * 281474976710656)) (bt249.1 / 65536)) 1099511627776)))) else (if x5 = true then (some (-1099511627776)) else (some 1099511627776)))
end
def impl_FixMul.f (k : Nat) (a0 : Int) (a1 : Int) : Option (Int) := (impl_areFixed.f k (([a0, a1] : List Int))).bind fun t242 => (if t242 = true then ((impl_within.f a0 (-1073741824) 1073741824).bind fun t243 => (if t243 = true then ((impl_within.f a1 (-1073741824) 1073741824).bind fun t244 => (impl_FixMul.j0 k a0 a1 t244)) else (impl_FixMul.j0 k a0 a1 false))) else (some 0))
theorem impl_FixMul.mono_l : ∀ k, (∀ y0 y1 y2, LeO (impl_FixMul.j0 k y0 y1 y2) (impl_FixMul.j0 (k + 1) y0 y1 y2)) ∧ (∀ y0 y1 y2 y3, LeO (impl_FixMul.j1 k y0 y1 y2 y3) (impl_FixMul.j1 (k + 1) y0 y1 y2 y3))
  | 0 => ⟨fun _ _ _ r h => by simp [impl_FixMul.j0] at h, fun _ _ _ _ r h => by simp [impl_FixMul.j1] at h⟩
  | k + 1 => by
    obtain ⟨ih0, ih1⟩ := impl_FixMul.mono_l k
    refine ⟨?_, ?_⟩
    · intro y0 y1 y2
      unfold impl_FixMul.j0
      repeat' first
      | (with_reducible exact ih0 _ _ _)
      | (with_reducible exact ih1 _ _ _ _)
      | (with_reducible exact impl_areFixed.mono _ _)
      | (with_reducible exact LeO.refl _)
      | (with_reducible exact LeO.none _)
      | (with_reducible refine LeO.ite ?_ ?_)
      | (with_reducible refine LeO.bind ?_ (fun _ => ?_))
      | exact ih0 _ _ _
      | exact ih1 _ _ _ _
      | exact impl_areFixed.mono _ _
      | exact LeO.none _
      | refine LeO.ite ?_ ?_
      | refine LeO.bind ?_ (fun _ => ?_)
    · intro y0 y1 y2 y3
      unfold impl_FixMul.j1
      repeat' first
      | (with_reducible exact ih0 _ _ _)
      | (with_reducible exact ih1 _ _ _ _)
      | (with_reducible exact impl_areFixed.mono _ _)
      | (with_reducible exact LeO.refl _)
      | (with_reducible exact LeO.none _)
      | (with_reducible refine LeO.ite ?_ ?_)
      | (with_reducible refine LeO.bind ?_ (fun _ => ?_))
      | exact ih0 _ _ _
      | exact ih1 _ _ _ _
      | exact impl_areFixed.mono _ _
      | exact LeO.none _
      | refine LeO.ite ?_ ?_
      | refine LeO.bind ?_ (fun _ => ?_)
theorem impl_FixMul.mono : ∀ a0 a1 k, LeO (impl_FixMul.f k a0 a1) (impl_FixMul.f (k + 1) a0 a1) := by
  intro a0 a1 k
  obtain ⟨ih0, ih1⟩ := impl_FixMul.mono_l k
  unfold impl_FixMul.f
  repeat' first
      | (with_reducible exact ih0 _ _ _)
      | (with_reducible exact ih1 _ _ _ _)
      | (with_reducible exact impl_areFixed.mono _ _)
      | (with_reducible exact LeO.refl _)
      | (with_reducible exact LeO.none _)
      | (with_reducible refine LeO.ite ?_ ?_)
      | (with_reducible refine LeO.bind ?_ (fun _ => ?_))
      | exact ih0 _ _ _
      | exact ih1 _ _ _ _
      | exact impl_areFixed.mono _ _
      | exact LeO.none _
      | refine LeO.ite ?_ ?_
      | refine LeO.bind ?_ (fun _ => ?_)
set_option maxHeartbeats 8000000 in
set_option maxRecDepth 100000 in
theorem impl_FixMul.calls (k : Nat) (a0 : Int) (a1 : Int) (r : Int) (w : World) (h : impl_FixMul.f k a0 a1 = some r) :
    Calls Try.prog 189 #[.int .i64 a0, .int .i64 a1] w fun e w' => e = .returned (.int .i64 r) ∧ Below w.heap.size w w' := by
  have HB := Aside0.mk (Below.refl w.heap.size w)
  have H : ((impl_areFixed.f k (([a0, a1] : List Int))).bind fun t242 => (if t242 = true then ((impl_within.f a0 (-1073741824) 1073741824).bind fun t243 => (if t243 = true then ((impl_within.f a1 (-1073741824) 1073741824).bind fun t244 => (impl_FixMul.j0 k a0 a1 t244)) else (impl_FixMul.j0 k a0 a1 false))) else (some 0))) = some r := h
  clear h
  obtain ⟨y239, hy239⟩ : ∃ y_ : List Int, y_ = (([a0, a1] : List Int)) := ⟨_, rfl⟩
  replace H : ((impl_areFixed.f k y239).bind fun t242 => (if t242 = true then ((impl_within.f a0 (-1073741824) 1073741824).bind fun t243 => (if t243 = true then ((impl_within.f a1 (-1073741824) 1073741824).bind fun t244 => (impl_FixMul.j0 k a0 a1 t244)) else (impl_FixMul.j0 k a0 a1 false))) else (some 0))) = some r := by first | (rw [hy239]; with_reducible exact H) | (have H2_ := (Option.bind_some _ _).symm.trans H; rw [hy239]; with_reducible exact H2_) | (have H2_ := (Option.bind_some _ _).symm.trans H; with_reducible exact H2_) | with_reducible exact H | (rw [hy239]; exact H) | exact H
  have Ny239 := Aside0.mk hy239
  clear hy239
  replace H := Option.bind_eq_some_iff.mp H
  obtain ⟨t242, A30, H⟩ := H
  replace H : (if t242 = true then ((impl_within.f a0 (-1073741824) 1073741824).bind fun t243 => (if t243 = true then ((impl_within.f a1 (-1073741824) 1073741824).bind fun t244 => (impl_FixMul.j0 k a0 a1 t244)) else (impl_FixMul.j0 k a0 a1 false))) else (some 0)) = some r := H
  have A3 := Aside0.mk A30
  clear A30
  by_cases c4 : t242 = true
  · subst c4
    have H1 : ((impl_within.f a0 (-1073741824) 1073741824).bind fun t243 => (if t243 = true then ((impl_within.f a1 (-1073741824) 1073741824).bind fun t244 => (impl_FixMul.j0 k a0 a1 t244)) else (impl_FixMul.j0 k a0 a1 false))) = some r := by rw [if_pos rfl] at H; exact H
    clear H
    have H := H1
    clear H1
    have HC5 := Aside0.mk H
    clear H
    go_enter Try.func189, Try.ntmps189
    go_upto_region 3 with (first | ((with_reducible refine gate_dst (N := 13) rfl ?_); refine Kd.R_lit (Kd.int .i64) _ 3 ?hg (N := 13) ?hd (xs := ([a0, a1] : List Int)) (inner := [.int .i64 a0, .int .i64 a1]) (ok := fun _ => True) (okp := fun _ => True) ?hr ?hp (fun _ hk => hk) trivial (Below.refl _ _) (Nat.le_refl _) (by simp) ?_; (case hd => rfl); (case hg => rfl); (case hr => first | (go_simp; done) | (go_simp; rfl)); (case hp => exact (Reps.one (show Kd.M (Kd.int .i64) _ _ _ a0 [.int .i64 a0] from rfl) (Reps.one (show Kd.M (Kd.int .i64) _ _ _ a1 [.int .i64 a1] from rfl) (Reps.none _ _)))); intro v240 w6 ho7 hb hg_ hnew_; clear hg_ hnew_; (first | rw [← Ny239.out] at ho7 | (simp only [Int.reduceToNat] at ho7; rw [← Ny239.out] at ho7)); have n0_ := Aside0.mk (Kd.R_lower ho7 (below_size (by repeat (first | (with_reducible first | exact HB.out | apply below_alloc | apply pw_below_drewN | apply below_drew1) | exact HB.out)))); have n1_ := Aside0.mk (below_step (by repeat (first | (with_reducible first | exact HB.out | apply below_alloc | apply pw_below_drewN | apply below_drew1) | exact HB.out)) hb); clear HB; have HO241 := n0_; have HB := n1_; clear n0_ n1_; clear hb ho7; obtain ⟨Ao8, co8, eo8⟩ := Kd.R_slice HO241.out; subst eo8) | ((with_reducible refine gate_callee (f := 94) rfl ?_); refine goesL_ (some 14) rfl rfl Try.func94 (by kernel_rfl) rfl #[.slice Ao8 y239.length co8] rfl (by (try simp only [List.map_toArray, List.map_cons, List.map_nil]); first | done | rfl | (simp only [List.length_drop, List.length_take]; rfl)) ?_; (with_reducible refine (impl_areFixed.calls k _ _ y239 true _ ?side1 ?side2 A3.out).mono ?_); (case side1 => repeat (first | exact (Kd.R_reads' HO241.out).2.2 | (with_reducible refine Kd.C_alloc ?_ _) | (with_reducible refine Kd.C_drewN ?_ _) | (with_reducible refine Kd.C_drew ?_))); (case side2 => exact (Kd.R_reads' HO241.out).2.1); rintro e w' ⟨rfl, ⟨nd, rfl⟩⟩; refine ⟨_, rfl, ?_⟩))
    (try simp only [Act.put, List.setIfInBounds_toArray, List.set_cons_zero, List.set_cons_succ])
    go_cut [21] (fun v21 wc => ∃ (kq : Nat) (x21_4 : Bool), v21 = .bool x21_4 ∧ Aside0 (impl_FixMul.j0 kq a0 a1 x21_4 = some r) ∧ Aside0 (kq ≤ k) ∧ Aside0 (Below w.heap.size w wc))
    case first =>
      have H := HC5.out
      clear HC5
      replace H := Option.bind_eq_some_iff.mp H
      obtain ⟨t243, A90, H⟩ := H
      replace H : (if t243 = true then ((impl_within.f a1 (-1073741824) 1073741824).bind fun t244 => (impl_FixMul.j0 k a0 a1 t244)) else (impl_FixMul.j0 k a0 a1 false)) = some r := H
      have A9 := Aside0.mk A90
      clear A90
      by_cases c10 : t243 = true
      · subst c10
        have H1 : ((impl_within.f a1 (-1073741824) 1073741824).bind fun t244 => (impl_FixMul.j0 k a0 a1 t244)) = some r := by rw [if_pos rfl] at H; exact H
        clear H
        have H := H1
        clear H1
        replace H := Option.bind_eq_some_iff.mp H
        obtain ⟨t244, A110, H⟩ := H
        replace H : (impl_FixMul.j0 k a0 a1 t244) = some r := H
        have A11 := Aside0.mk A110
        clear A110
        have H' := Aside0.mk H
        clear H
        go_wp2_with (first | ((with_reducible refine gate_callee (f := 91) rfl ?_); refine goesL_ (some 17) rfl rfl Try.func91 (by kernel_rfl) rfl #[.int .i64 a0, .int .i64 (-1073741824), .int .i64 1073741824] rfl (by (try simp only [List.map_toArray, List.map_cons, List.map_nil]); first | done | rfl | (simp only [List.length_drop, List.length_take]; rfl)) ?_; (with_reducible refine (impl_within.calls a0 (-1073741824) 1073741824 true _ A9.out).mono ?_); rintro e w' ⟨rfl, ⟨nd, rfl⟩⟩; refine ⟨_, rfl, ?_⟩) | (go_at_call 91; (with_reducible refine (impl_within.calls a1 (-1073741824) 1073741824 t244 _ A11.out).mono ?_); rintro e w' ⟨rfl, ⟨nd, rfl⟩⟩))
        go_meet
        case rel => exact ⟨_, (t244), (by first | rfl | (simp; done) | (simp [*]; done)), H', ⟨by first | omega | exact Nat.le_refl _⟩, ⟨by repeat (first | (with_reducible first | exact HB.out | apply below_alloc | apply pw_below_drewN | apply below_drew1) | exact HB.out)⟩⟩
      · replace c10 := Bool.eq_false_iff.mpr c10
        subst c10
        have H1 : (impl_FixMul.j0 k a0 a1 false) = some r := by rw [if_neg (show ¬ (false = true) by decide)] at H; exact H
        clear H
        have H := H1
        clear H1
        have H' := Aside0.mk H
        clear H
        go_wp2_with (first | ((with_reducible refine gate_callee (f := 91) rfl ?_); refine goesL_ (some 17) rfl rfl Try.func91 (by kernel_rfl) rfl #[.int .i64 a0, .int .i64 (-1073741824), .int .i64 1073741824] rfl (by (try simp only [List.map_toArray, List.map_cons, List.map_nil]); first | done | rfl | (simp only [List.length_drop, List.length_take]; rfl)) ?_; (with_reducible refine (impl_within.calls a0 (-1073741824) 1073741824 false _ A9.out).mono ?_); rintro e w' ⟨rfl, ⟨nd, rfl⟩⟩; refine ⟨_, rfl, ?_⟩))
        go_meet
        case rel => exact ⟨_, (false), (by first | rfl | (simp; done) | (simp [*]; done)), H', ⟨by first | omega | exact Nat.le_refl _⟩, ⟨by repeat (first | (with_reducible first | exact HB.out | apply below_alloc | apply pw_below_drewN | apply below_drew1) | exact HB.out)⟩⟩
    case rest =>
      clear HC5
      try clear c1
      try clear p2
      try clear c4
      try clear c9
      try clear c10
      obtain ⟨kq, x21_4, rfl, HA, HJ4, HB⟩ := hcut
      cases kq with
      | zero => exact absurd HA.out (by simp [impl_FixMul.j0])
      | succ kj4 =>
        have H := HA.out
        clear HA
        simp only [impl_FixMul.j0] at H
        by_cases c12 : x21_4 = true
        · subst c12
          have H1 : ((impl_down.f (wrap64 ((wrap64 (a0 * a1)) + 32768)) 65536).bind fun t245 => ((impl_cut.f t245 (-1099511627776) 1099511627776).bind fun t246 => (some t246))) = some r := by rw [if_pos rfl] at H; exact H
          clear H
          have H := H1
          clear H1
          replace H := Option.bind_eq_some_iff.mp H
          obtain ⟨t245, A130, H⟩ := H
          replace H : ((impl_cut.f t245 (-1099511627776) 1099511627776).bind fun t246 => (some t246)) = some r := H
          have A13 := Aside0.mk A130
          clear A130
          replace H := Option.bind_eq_some_iff.mp H
          obtain ⟨t246, A140, H⟩ := H
          replace H : (some t246) = some r := H
          have A14 := Aside0.mk A140
          clear A140
          obtain rfl := Option.some.inj H
          go_wp2_with (first | ((with_reducible refine gate_callee (f := 93) rfl ?_); refine goesL_ (some 26) rfl rfl Try.func93 (by kernel_rfl) rfl #[.int .i64 (wrap64 ((wrap64 (a0 * a1)) + 32768)), .int .i64 65536] rfl (by (try simp only [List.map_toArray, List.map_cons, List.map_nil]); first | done | rfl | (simp only [List.length_drop, List.length_take]; rfl)) ?_; (with_reducible refine (impl_down.calls (wrap64 ((wrap64 (a0 * a1)) + 32768)) 65536 t245 _ A13.out).mono ?_); rintro e w' ⟨rfl, ⟨nd, rfl⟩⟩; refine ⟨_, rfl, ?_⟩) | ((with_reducible refine gate_callee (f := 101) rfl ?_); refine goesL_ (some 27) rfl rfl Try.func101 (by kernel_rfl) rfl #[.int .i64 t245, .int .i64 (-1099511627776), .int .i64 1099511627776] rfl (by (try simp only [List.map_toArray, List.map_cons, List.map_nil]); first | done | rfl | (simp only [List.length_drop, List.length_take]; rfl)) ?_; (with_reducible refine (impl_cut.calls t245 (-1099511627776) 1099511627776 t246 _ A14.out).mono ?_); rintro e w15 ⟨rfl, hb⟩; refine ⟨_, rfl, ?_⟩; have n0_ := Aside0.mk (below_step (by repeat (first | (with_reducible first | exact HB.out | apply below_alloc | apply pw_below_drewN | apply below_drew1) | exact HB.out)) hb); clear HB; have HB := n0_; clear n0_; (try clear hb); (try clear hb2); (try clear hk); (try clear hi)))
          go_ret
          exact ⟨by first | rfl | (simp [errW_none, errW_some] <;> rfl) | (simp [*, errW_none, errW_some] <;> rfl), by repeat (first | (with_reducible first | exact HB.out | apply below_alloc | apply pw_below_drewN | apply below_drew1) | exact HB.out)⟩
        · replace c12 := Bool.eq_false_iff.mpr c12
          subst c12
          have H1 : ((bits_Mul64.f (IntKind.u64.wrap (mx a0 (wrap64 (-a0)))) (IntKind.u64.wrap (mx a1 (wrap64 (-a1))))).bind fun bt247 => (if ((decide (a0 < 0)) != (decide (a1 < 0))) = true then (impl_FixMul.j1 kj4 ((decide (a0 < 0)) != (decide (a1 < 0))) bt247.1 bt247.2 (32768 - 1)) else (impl_FixMul.j1 kj4 ((decide (a0 < 0)) != (decide (a1 < 0))) bt247.1 bt247.2 32768))) = some r := by rw [if_neg (show ¬ (false = true) by decide)] at H; exact H
          clear H
          have H := H1
          clear H1
          obtain ⟨ji16, hji16⟩ : ∃ j_ : Int, (mx a0 (wrap64 (-a0))) = j_ := ⟨_, rfl⟩
          replace H : ((bits_Mul64.f (IntKind.u64.wrap (ji16)) (IntKind.u64.wrap (mx a1 (wrap64 (-a1))))).bind fun bt247 => (if ((decide (a0 < 0)) != (decide (a1 < 0))) = true then (impl_FixMul.j1 kj4 ((decide (a0 < 0)) != (decide (a1 < 0))) bt247.1 bt247.2 (32768 - 1)) else (impl_FixMul.j1 kj4 ((decide (a0 < 0)) != (decide (a1 < 0))) bt247.1 bt247.2 32768))) = some r := by first | (rw [hji16] at H; exact H) | (simp only [hji16] at H ⊢; exact H)
          have hji16_ : (if a0 < (wrap64 (-a0)) then (wrap64 (-a0)) else a0) = ji16 := hji16
          obtain ⟨ji17, hji17⟩ : ∃ j_ : Int, (mx a1 (wrap64 (-a1))) = j_ := ⟨_, rfl⟩
          replace H : ((bits_Mul64.f (IntKind.u64.wrap (ji16)) (IntKind.u64.wrap (ji17))).bind fun bt247 => (if ((decide (a0 < 0)) != (decide (a1 < 0))) = true then (impl_FixMul.j1 kj4 ((decide (a0 < 0)) != (decide (a1 < 0))) bt247.1 bt247.2 (32768 - 1)) else (impl_FixMul.j1 kj4 ((decide (a0 < 0)) != (decide (a1 < 0))) bt247.1 bt247.2 32768))) = some r := by first | (rw [hji17] at H; exact H) | (simp only [hji17] at H ⊢; exact H)
          have hji17_ : (if a1 < (wrap64 (-a1)) then (wrap64 (-a1)) else a1) = ji17 := hji17
          replace H := Option.bind_eq_some_iff.mp H
          obtain ⟨⟨t247, t248⟩, A180, H⟩ := H
          replace H : (if ((decide (a0 < 0)) != (decide (a1 < 0))) = true then (impl_FixMul.j1 kj4 ((decide (a0 < 0)) != (decide (a1 < 0))) t247 t248 (32768 - 1)) else (impl_FixMul.j1 kj4 ((decide (a0 < 0)) != (decide (a1 < 0))) t247 t248 32768)) = some r := H
          have A18 := Aside0.mk A180
          clear A180
          have HC19 := Aside0.mk H
          clear H
          go_upto_if 47 with (first | ((with_reducible refine gate_callee (f := 218) rfl ?_); refine goesL_ (some 44) rfl rfl Try.func218 (by kernel_rfl) rfl #[.int .u64 (IntKind.u64.wrap (ji16)), .int .u64 (IntKind.u64.wrap (ji17))] rfl (by (try simp only [List.map_toArray, List.map_cons, List.map_nil]); first | done | (simp only [hji16, hji17]; rfl) | rfl | (simp only [List.length_drop, List.length_take]; rfl)) ?_; (with_reducible refine (bits_Mul64.calls (IntKind.u64.wrap (ji16)) (IntKind.u64.wrap (ji17)) t247 t248 _ A18.out).mono ?_); rintro e w' ⟨rfl, ⟨nd, rfl⟩⟩; refine ⟨_, rfl, ?_⟩))
          (try simp only [Act.put, List.setIfInBounds_toArray, List.set_cons_zero, List.set_cons_succ])
          go_cut [8] (fun v8 wc => ∃ (kq : Nat) (x8_18 : Int), v8 = .int .u64 x8_18 ∧ Aside0 (impl_FixMul.j1 kq ((decide (a0 < 0)) != (decide (a1 < 0))) t247 t248 x8_18 = some r) ∧ Aside0 (kq ≤ kj4) ∧ Aside0 (Below w.heap.size w wc))
          case first =>
            have H := HC19.out
            clear HC19
            by_cases c20 : ((decide (a0 < 0)) != (decide (a1 < 0))) = true
            · rw [if_pos c20] at H
              have c20b0 : ((decide (a0 < 0)) != (decide (a1 < 0))) = true := c20
              (try (have c20b1 : decide ((decide (a0 < 0)) = (decide (a1 < 0))) = false := by simpa using c20))
              (try (have c20b2 : ((decide (a0 < 0)) == (decide (a1 < 0))) = false := by simpa using c20))
              (try (have c20qn : (!((decide (a0 < 0)) == (decide (a1 < 0)))) = true := by first | exact c20 | simpa using c20))
              (try (have c20b3 : ¬ ((decide (a0 < 0)) = (decide (a1 < 0))) := by simpa using c20))
              clear c20
              (first | rw [c20b0] | (simp only [i64_w, i32_w]; rw [c20b0]) | skip)
              have H' := Aside0.mk H
              clear H
              go_wp2
              try any_goals (exact absurd (by assumption : (!((decide (a0 < 0)) == (decide (a1 < 0)))) = false) (by rw [c20qn]; decide))
              go_meet
              case rel => exact ⟨_, (32768 - 1), (by first | rfl | (simp; done) | (simp [*]; done)), H', ⟨by have := HJ4.out; first | omega | exact Nat.le_refl _⟩, ⟨by repeat (first | (with_reducible first | exact HB.out | apply below_alloc | apply pw_below_drewN | apply below_drew1) | exact HB.out)⟩⟩
            · rw [if_neg c20] at H
              have c20b0 : ((decide (a0 < 0)) != (decide (a1 < 0))) = false := by simpa using c20
              (try (have c20b1 : decide ((decide (a0 < 0)) = (decide (a1 < 0))) = true := by simpa using c20))
              (try (have c20b2 : ((decide (a0 < 0)) == (decide (a1 < 0))) = true := by simpa using c20))
              (try (have c20qn : (!((decide (a0 < 0)) == (decide (a1 < 0)))) = false := by first | exact c20 | simpa using c20))
              clear c20
              (first | rw [c20b0] | (simp only [i64_w, i32_w]; rw [c20b0]) | skip)
              have H' := Aside0.mk H
              clear H
              go_wp2
              try any_goals (exact absurd (by assumption : (!((decide (a0 < 0)) == (decide (a1 < 0)))) = true) (by rw [c20qn]; decide))
              go_meet
              case rel => exact ⟨_, (32768), (by first | rfl | (simp; done) | (simp [*]; done)), H', ⟨by have := HJ4.out; first | omega | exact Nat.le_refl _⟩, ⟨by repeat (first | (with_reducible first | exact HB.out | apply below_alloc | apply pw_below_drewN | apply below_drew1) | exact HB.out)⟩⟩
          case rest =>
            clear HC19
            try clear c1
            try clear c2
            try clear p2
            try clear c4
            try clear p6
            try clear c9
            try clear c10
            try clear c12
            try clear c18
            try clear c20
            try clear c20b0
            try clear c20b1
            try clear c20b2
            try clear p2
            obtain ⟨kq, x8_18, rfl, HA, HJ18, HB⟩ := hcut
            cases kq with
            | zero => exact absurd HA.out (by simp [impl_FixMul.j1])
            | succ kj18 =>
              have H := HA.out
              clear HA
              simp only [impl_FixMul.j1] at H
              replace H := Option.bind_eq_some_iff.mp H
              obtain ⟨⟨t249, t250⟩, A210, H⟩ := H
              replace H : (if ((IntKind.u64.wrap (t247 + t250)) / 65536) = 0 then (if ((decide (a0 < 0)) != (decide (a1 < 0))) = true then (some (wrap64 (-(wrap64 (mn (Go.bits .or .u64 (IntKind.u64.wrap ((IntKind.u64.wrap (t247 + t250)) * 281474976710656)) (t249 / 65536)) 1099511627776))))) else (some (wrap64 (mn (Go.bits .or .u64 (IntKind.u64.wrap ((IntKind.u64.wrap (t247 + t250)) * 281474976710656)) (t249 / 65536)) 1099511627776)))) else (if ((decide (a0 < 0)) != (decide (a1 < 0))) = true then (some (-1099511627776)) else (some 1099511627776))) = some r := H
              have A21 := Aside0.mk A210
              clear A210
              by_cases c22 : ((IntKind.u64.wrap (t247 + t250)) / 65536) = 0
              · rw [if_pos c22] at H
                have c22b0 : (((IntKind.u64.wrap (t247 + t250)) / 65536) == 0) = true := beq_iff_eq.mpr c22
                have c22b1 : (((IntKind.u64.wrap (t247 + t250)) / 65536) != 0) = false := bne_eq_false_iff_eq.mpr c22
                clear c22
                obtain ⟨ji23, hji23⟩ : ∃ j_ : Int, (mn (Go.bits .or .u64 (IntKind.u64.wrap ((IntKind.u64.wrap (t247 + t250)) * 281474976710656)) (t249 / 65536)) 1099511627776) = j_ := ⟨_, rfl⟩
                replace H : (if ((decide (a0 < 0)) != (decide (a1 < 0))) = true then (some (wrap64 (-(wrap64 (ji23))))) else (some (wrap64 (ji23)))) = some r := by first | (rw [hji23] at H; exact H) | (simp only [hji23] at H ⊢; exact H)
                (try rw [hji23] at A21)
                have hji23_ : (if 1099511627776 < (Go.bits .or .u64 (IntKind.u64.wrap ((IntKind.u64.wrap (t247 + t250)) * 281474976710656)) (t249 / 65536)) then 1099511627776 else (Go.bits .or .u64 (IntKind.u64.wrap ((IntKind.u64.wrap (t247 + t250)) * 281474976710656)) (t249 / 65536))) = ji23 := hji23
                by_cases c24 : ((decide (a0 < 0)) != (decide (a1 < 0))) = true
                · rw [if_pos c24] at H
                  have c24b0 : ((decide (a0 < 0)) != (decide (a1 < 0))) = true := c24
                  (try (have c24b1 : decide ((decide (a0 < 0)) = (decide (a1 < 0))) = false := by simpa using c24))
                  (try (have c24b2 : ((decide (a0 < 0)) == (decide (a1 < 0))) = false := by simpa using c24))
                  (try (have c24qn : (!((decide (a0 < 0)) == (decide (a1 < 0)))) = true := by first | exact c24 | simpa using c24))
                  (try (have c24b3 : ¬ ((decide (a0 < 0)) = (decide (a1 < 0))) := by simpa using c24))
                  clear c24
                  obtain rfl := Option.some.inj H
                  go_wp2_with (first | ((with_reducible refine gate_callee (f := 219) rfl ?_); refine goesX_ (some 53) rfl rfl Try.func219 (by kernel_rfl) rfl #[.int .u64 t248, .int .u64 x8_18, .int .u64 0] rfl (by (try simp only [List.map_toArray, List.map_cons, List.map_nil]); first | done | rfl | (simp only [List.length_drop, List.length_take]; rfl)) ?_; (with_reducible refine (bits_Add64.calls t248 x8_18 0 t249 t250 _ A21.out).mono ?_); rintro e w' ⟨rfl, ⟨nd, rfl⟩⟩; refine ⟨_, rfl, ?_⟩))
                  try any_goals (exact absurd (by assumption : (!((decide (a0 < 0)) == (decide (a1 < 0)))) = false) (by rw [c24qn]; decide))
                  go_ret
                  exact ⟨by first | rfl | (simp [errW_none, errW_some] <;> rfl) | (simp only [← hji16, ← hji17, ← hji23]; first | rfl | (simp [errW_none, errW_some] <;> rfl)) | (simp [*, errW_none, errW_some] <;> rfl), by repeat (first | (with_reducible first | exact HB.out | apply below_alloc | apply pw_below_drewN | apply below_drew1) | exact HB.out)⟩
                · rw [if_neg c24] at H
                  have c24b0 : ((decide (a0 < 0)) != (decide (a1 < 0))) = false := by simpa using c24
                  (try (have c24b1 : decide ((decide (a0 < 0)) = (decide (a1 < 0))) = true := by simpa using c24))
                  (try (have c24b2 : ((decide (a0 < 0)) == (decide (a1 < 0))) = true := by simpa using c24))
                  (try (have c24qn : (!((decide (a0 < 0)) == (decide (a1 < 0)))) = false := by first | exact c24 | simpa using c24))
                  clear c24
                  obtain rfl := Option.some.inj H
                  go_wp2_with (first | ((with_reducible refine gate_callee (f := 219) rfl ?_); refine goesX_ (some 53) rfl rfl Try.func219 (by kernel_rfl) rfl #[.int .u64 t248, .int .u64 x8_18, .int .u64 0] rfl (by (try simp only [List.map_toArray, List.map_cons, List.map_nil]); first | done | rfl | (simp only [List.length_drop, List.length_take]; rfl)) ?_; (with_reducible refine (bits_Add64.calls t248 x8_18 0 t249 t250 _ A21.out).mono ?_); rintro e w' ⟨rfl, ⟨nd, rfl⟩⟩; refine ⟨_, rfl, ?_⟩))
                  try any_goals (exact absurd (by assumption : (!((decide (a0 < 0)) == (decide (a1 < 0)))) = true) (by rw [c24qn]; decide))
                  go_ret
                  exact ⟨by first | rfl | (simp [errW_none, errW_some] <;> rfl) | (simp only [← hji16, ← hji17, ← hji23]; first | rfl | (simp [errW_none, errW_some] <;> rfl)) | (simp [*, errW_none, errW_some] <;> rfl), by repeat (first | (with_reducible first | exact HB.out | apply below_alloc | apply pw_below_drewN | apply below_drew1) | exact HB.out)⟩
              · rw [if_neg c22] at H
                have c22b0 : (((IntKind.u64.wrap (t247 + t250)) / 65536) == 0) = false := beq_eq_false_iff_ne.mpr c22
                have c22b1 : (((IntKind.u64.wrap (t247 + t250)) / 65536) != 0) = true := bne_iff_ne.mpr c22
                by_cases c25 : ((decide (a0 < 0)) != (decide (a1 < 0))) = true
                · rw [if_pos c25] at H
                  have c25b0 : ((decide (a0 < 0)) != (decide (a1 < 0))) = true := c25
                  (try (have c25b1 : decide ((decide (a0 < 0)) = (decide (a1 < 0))) = false := by simpa using c25))
                  (try (have c25b2 : ((decide (a0 < 0)) == (decide (a1 < 0))) = false := by simpa using c25))
                  (try (have c25qn : (!((decide (a0 < 0)) == (decide (a1 < 0)))) = true := by first | exact c25 | simpa using c25))
                  (try (have c25b3 : ¬ ((decide (a0 < 0)) = (decide (a1 < 0))) := by simpa using c25))
                  clear c25
                  obtain rfl := Option.some.inj H
                  go_wp2_with (first | ((with_reducible refine gate_callee (f := 219) rfl ?_); refine goesX_ (some 53) rfl rfl Try.func219 (by kernel_rfl) rfl #[.int .u64 t248, .int .u64 x8_18, .int .u64 0] rfl (by (try simp only [List.map_toArray, List.map_cons, List.map_nil]); first | done | rfl | (simp only [List.length_drop, List.length_take]; rfl)) ?_; (with_reducible refine (bits_Add64.calls t248 x8_18 0 t249 t250 _ A21.out).mono ?_); rintro e w' ⟨rfl, ⟨nd, rfl⟩⟩; refine ⟨_, rfl, ?_⟩))
                  try any_goals (exact absurd (by assumption : (!((decide (a0 < 0)) == (decide (a1 < 0)))) = false) (by rw [c25qn]; decide))
                  go_ret
                  exact ⟨by first | rfl | (simp [errW_none, errW_some] <;> rfl) | (simp only [← hji16, ← hji17]; first | rfl | (simp [errW_none, errW_some] <;> rfl)) | (simp [*, errW_none, errW_some] <;> rfl), by repeat (first | (with_reducible first | exact HB.out | apply below_alloc | apply pw_below_drewN | apply below_drew1) | exact HB.out)⟩
                · rw [if_neg c25] at H
                  have c25b0 : ((decide (a0 < 0)) != (decide (a1 < 0))) = false := by simpa using c25
                  (try (have c25b1 : decide ((decide (a0 < 0)) = (decide (a1 < 0))) = true := by simpa using c25))
                  (try (have c25b2 : ((decide (a0 < 0)) == (decide (a1 < 0))) = true := by simpa using c25))
                  (try (have c25qn : (!((decide (a0 < 0)) == (decide (a1 < 0)))) = false := by first | exact c25 | simpa using c25))
                  clear c25
                  obtain rfl := Option.some.inj H
                  go_wp2_with (first | ((with_reducible refine gate_callee (f := 219) rfl ?_); refine goesX_ (some 53) rfl rfl Try.func219 (by kernel_rfl) rfl #[.int .u64 t248, .int .u64 x8_18, .int .u64 0] rfl (by (try simp only [List.map_toArray, List.map_cons, List.map_nil]); first | done | rfl | (simp only [List.length_drop, List.length_take]; rfl)) ?_; (with_reducible refine (bits_Add64.calls t248 x8_18 0 t249 t250 _ A21.out).mono ?_); rintro e w' ⟨rfl, ⟨nd, rfl⟩⟩; refine ⟨_, rfl, ?_⟩))
                  try any_goals (exact absurd (by assumption : (!((decide (a0 < 0)) == (decide (a1 < 0)))) = true) (by rw [c25qn]; decide))
                  go_ret
                  exact ⟨by first | rfl | (simp [errW_none, errW_some] <;> rfl) | (simp only [← hji16, ← hji17]; first | rfl | (simp [errW_none, errW_some] <;> rfl)) | (simp [*, errW_none, errW_some] <;> rfl), by repeat (first | (with_reducible first | exact HB.out | apply below_alloc | apply pw_below_drewN | apply below_drew1) | exact HB.out)⟩
  · replace c4 := Bool.eq_false_iff.mpr c4
    subst c4
    have H1 : (some 0) = some r := by rw [if_neg (show ¬ (false = true) by decide)] at H; exact H
    clear H
    have H := H1
    clear H1
    obtain rfl := Option.some.inj H
    go_enter Try.func189, Try.ntmps189
    go_wp2_with (first | ((with_reducible refine gate_dst (N := 13) rfl ?_); refine Kd.R_lit (Kd.int .i64) _ 3 ?hg (N := 13) ?hd (xs := ([a0, a1] : List Int)) (inner := [.int .i64 a0, .int .i64 a1]) (ok := fun _ => True) (okp := fun _ => True) ?hr ?hp (fun _ hk => hk) trivial (Below.refl _ _) (Nat.le_refl _) (by simp) ?_; (case hd => rfl); (case hg => rfl); (case hr => first | (go_simp; done) | (go_simp; rfl)); (case hp => exact (Reps.one (show Kd.M (Kd.int .i64) _ _ _ a0 [.int .i64 a0] from rfl) (Reps.one (show Kd.M (Kd.int .i64) _ _ _ a1 [.int .i64 a1] from rfl) (Reps.none _ _)))); intro v240 w26 ho27 hb hg_ hnew_; clear hg_ hnew_; (first | rw [← Ny239.out] at ho27 | (simp only [Int.reduceToNat] at ho27; rw [← Ny239.out] at ho27)); have n0_ := Aside0.mk (Kd.R_lower ho27 (below_size (by repeat (first | (with_reducible first | exact HB.out | apply below_alloc | apply pw_below_drewN | apply below_drew1) | exact HB.out)))); have n1_ := Aside0.mk (below_step (by repeat (first | (with_reducible first | exact HB.out | apply below_alloc | apply pw_below_drewN | apply below_drew1) | exact HB.out)) hb); clear HB; have HO241 := n0_; have HB := n1_; clear n0_ n1_; clear hb ho27; obtain ⟨Ao28, co28, eo28⟩ := Kd.R_slice HO241.out; subst eo28) | ((with_reducible refine gate_callee (f := 94) rfl ?_); refine goesL_ (some 14) rfl rfl Try.func94 (by kernel_rfl) rfl #[.slice Ao28 y239.length co28] rfl (by (try simp only [List.map_toArray, List.map_cons, List.map_nil]); first | done | rfl | (simp only [List.length_drop, List.length_take]; rfl)) ?_; (with_reducible refine (impl_areFixed.calls k _ _ y239 false _ ?side1 ?side2 A3.out).mono ?_); (case side1 => repeat (first | exact (Kd.R_reads' HO241.out).2.2 | (with_reducible refine Kd.C_alloc ?_ _) | (with_reducible refine Kd.C_drewN ?_ _) | (with_reducible refine Kd.C_drew ?_))); (case side2 => exact (Kd.R_reads' HO241.out).2.1); rintro e w' ⟨rfl, ⟨nd, rfl⟩⟩; refine ⟨_, rfl, ?_⟩))
    go_ret
    exact ⟨by first | rfl | (simp [errW_none, errW_some] <;> rfl) | (simp [*, errW_none, errW_some] <;> rfl), by repeat (first | (with_reducible first | exact HB.out | apply below_alloc | apply pw_below_drewN | apply below_drew1) | exact HB.out)⟩

end Go.Proofs.Ytdbgnoolokfafaa.HFnExactMoveLines
