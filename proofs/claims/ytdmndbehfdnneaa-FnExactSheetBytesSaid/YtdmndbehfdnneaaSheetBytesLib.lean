/- The bytes of a sheet, by both sides. -/
import Derived.Test.YtdmndbehfdnneaaSheetFnExactSheetBytes
namespace Go.Proofs.Ytdmndbehfdnneaa.PFnExactSheetBytes
open Go.RowKit Go.Proofs.YtdmndbehfdnneaaW.PrintWords Go.Proofs.YtdmndbehfdnneaaW.PrintLast Go.Proofs.Ytdmndbehfdnneaa.Plain
set_option linter.unusedSimpArgs false
set_option linter.unusedVariables false

/-- A color's byte. -/
def px (x a : Int) : Int := (wrap64 (Int.tdiv (wrap64 ((wrap64 (x * 255)) + (wrap64 (Int.tdiv a 2)))) a)) % 256
def tintBytes (t : S54) : List Int := if t.f3 = 0 then [0, 0, 0, 0] else [px t.f0 t.f3, px t.f1 t.f3, px t.f2 t.f3, t.f3 % 256]
theorem tintBytes_len (t : S54) : (tintBytes t).length = 4 := by unfold tintBytes; split <;> rfl
theorem bytes_len (l : List S54) : (l.flatMap tintBytes).length = 4 * l.length := by
  induction l with
  | nil => rfl
  | cons x l ih => rw [List.flatMap_cons, List.length_append, ih, tintBytes_len, List.length_cons]; omega

theorem specBytes (l : List S54) (hl : l.length ≤ 1048576) : Ev (fun k => spec_l12Bytes.l0 k ([] : List Int) l l.length 0) (l.flatMap tintBytes) := by
  have key : ∀ i, i ≤ l.length → Ev (fun k => spec_l12Bytes.l0 k ((l.take i).flatMap tintBytes) l l.length (i : Nat)) (l.flatMap tintBytes) := by
    refine up (p := fun i => Ev (fun k => spec_l12Bytes.l0 k ((l.take i).flatMap tintBytes) l l.length (i : Nat)) (l.flatMap tintBytes)) l.length ?_ ?_
    · rw [List.take_length]
      exact ev_some fun k => by rw [spec_l12Bytes.l0, if_neg (by omega)]
    · intro i hi ih
      have hn := bytes_len (l.take i)
      have hn2 : (l.take i).length ≤ 1048576 := by rw [List.length_take]; omega
      have ht : (l.take (i + 1)).flatMap tintBytes = (l.take i).flatMap tintBytes ++ tintBytes (rd_T54 l (i : Nat)) := by
        have e : rd_T54 l (i : Nat) = l[i] := by simp [rd_T54, hi]
        rw [List.take_succ_eq_append_getElem hi, List.flatMap_append, e]
        simp
      generalize (l.take i).flatMap tintBytes = acc at hn ht ⊢
      generalize hT : rd_T54 l (i : Nat) = T at ht
      have hw : wrap64 ((i : Int) + 1) = ((i + 1 : Nat) : Int) := by rw [wrap_id (by omega) (by omega)]; rfl
      by_cases h0 : T.f3 = 0
      · refine Ev.step (f := fun k => spec_l12Bytes.l0 k ((l.take (i + 1)).flatMap tintBytes) l l.length ((i + 1 : Nat) : Int)) (fun k => ?_) ih
        rw [spec_l12Bytes.l0, if_pos (by omega), if_pos (by omega), if_pos (by omega), hT, if_pos h0]
        simp only [Option.bind_some]
        rw [if_pos (by simp; omega), hw, ht, tintBytes, if_pos h0]
      · have hb : tintBytes T = [px T.f0 T.f3, px T.f1 T.f3, px T.f2 T.f3, T.f3 % 256] := by rw [tintBytes, if_neg h0]
        refine Ev.step (f := fun k => spec_l12Bytes.l1 k acc l l.length i [T.f0, T.f1, T.f2] 3 0 T.f0 T.f1 T.f2 T.f3) (fun k => ?_) ?_
        · rw [spec_l12Bytes.l0, if_pos (by omega), if_pos (by omega), if_pos (by omega), hT, if_neg h0]
          rfl
        refine Ev.step (f := fun k => spec_l12Bytes.l1 k (acc ++ [px T.f0 T.f3]) l l.length i [T.f0, T.f1, T.f2] 3 1 T.f0 T.f1 T.f2 T.f3) (fun k => ?_) ?_
        · rw [spec_l12Bytes.l1, if_pos (by omega), if_pos (by omega), if_pos (by simp), if_neg h0, if_pos (by omega)]
          rw [show wrap64 (0 + 1) = 1 by unfold wrap64; omega]
          rfl
        refine Ev.step (f := fun k => spec_l12Bytes.l1 k (acc ++ [px T.f0 T.f3] ++ [px T.f1 T.f3]) l l.length i [T.f0, T.f1, T.f2] 3 2 T.f0 T.f1 T.f2 T.f3) (fun k => ?_) ?_
        · rw [spec_l12Bytes.l1, if_pos (by omega), if_pos (by omega), if_pos (by simp), if_neg h0, if_pos (by simp; omega)]
          rw [show wrap64 (1 + 1) = 2 by unfold wrap64; omega]
          rfl
        refine Ev.step (f := fun k => spec_l12Bytes.l1 k (acc ++ [px T.f0 T.f3] ++ [px T.f1 T.f3] ++ [px T.f2 T.f3]) l l.length i [T.f0, T.f1, T.f2] 3 3 T.f0 T.f1 T.f2 T.f3) (fun k => ?_) ?_
        · rw [spec_l12Bytes.l1, if_pos (by omega), if_pos (by omega), if_pos (by simp), if_neg h0, if_pos (by simp; omega)]
          rw [show wrap64 (2 + 1) = 3 by unfold wrap64; omega]
          rfl
        refine Ev.step (f := fun k => spec_l12Bytes.l0 k ((l.take (i + 1)).flatMap tintBytes) l l.length ((i + 1 : Nat) : Int)) (fun k => ?_) ih
        rw [spec_l12Bytes.l1, if_neg (by omega), if_pos (by simp; omega), hw, ht, hb]
        simp
  have := key 0 (Nat.zero_le _)
  simpa using this

theorem implBytes (l : List S54) (hl : l.length ≤ 1048576) : Ev (fun k => impl_SheetBytes.l0 k ([] : List Int) l l.length 0) (l.flatMap tintBytes, true) := by
  have key : ∀ i, i ≤ l.length → Ev (fun k => impl_SheetBytes.l0 k ((l.take i).flatMap tintBytes) l l.length (i : Nat)) (l.flatMap tintBytes, true) := by
    refine up (p := fun i => Ev (fun k => impl_SheetBytes.l0 k ((l.take i).flatMap tintBytes) l l.length (i : Nat)) (l.flatMap tintBytes, true)) l.length ?_ ?_
    · rw [List.take_length]
      exact ev_some fun k => by rw [impl_SheetBytes.l0, if_neg (by omega)]
    · intro i hi ih
      have hn := bytes_len (l.take i)
      have hn2 : (l.take i).length ≤ 1048576 := by rw [List.length_take]; omega
      have ht : (l.take (i + 1)).flatMap tintBytes = (l.take i).flatMap tintBytes ++ tintBytes (rd_T54 l (i : Nat)) := by
        have e : rd_T54 l (i : Nat) = l[i] := by simp [rd_T54, hi]
        rw [List.take_succ_eq_append_getElem hi, List.flatMap_append, e]
        simp
      generalize (l.take i).flatMap tintBytes = acc at hn ht ⊢
      generalize hT : rd_T54 l (i : Nat) = T at ht
      have hw : wrap64 ((i : Int) + 1) = ((i + 1 : Nat) : Int) := by rw [wrap_id (by omega) (by omega)]; rfl
      by_cases h0 : T.f3 = 0
      · refine Ev.step (f := fun k => impl_SheetBytes.l0 k ((l.take (i + 1)).flatMap tintBytes) l l.length ((i + 1 : Nat) : Int)) (fun k => ?_) ih
        rw [impl_SheetBytes.l0, if_pos (by omega), if_pos (by omega), if_pos (by omega), hT, if_pos h0]
        simp only [Option.bind_some]
        rw [if_pos (by simp; omega), hw, ht, tintBytes, if_pos h0]
      · have hb : tintBytes T = [px T.f0 T.f3, px T.f1 T.f3, px T.f2 T.f3, T.f3 % 256] := by rw [tintBytes, if_neg h0]
        refine Ev.step (f := fun k => impl_SheetBytes.l1 k acc l l.length i [T.f0, T.f1, T.f2] 3 0 T.f0 T.f1 T.f2 T.f3) (fun k => ?_) ?_
        · rw [impl_SheetBytes.l0, if_pos (by omega), if_pos (by omega), if_pos (by omega), hT, if_neg h0]
          rfl
        refine Ev.step (f := fun k => impl_SheetBytes.l1 k (acc ++ [px T.f0 T.f3]) l l.length i [T.f0, T.f1, T.f2] 3 1 T.f0 T.f1 T.f2 T.f3) (fun k => ?_) ?_
        · rw [impl_SheetBytes.l1, if_pos (by omega), if_pos (by omega), if_pos (by simp), if_neg h0, if_pos (by omega)]
          rw [show wrap64 (0 + 1) = 1 by unfold wrap64; omega]
          rfl
        refine Ev.step (f := fun k => impl_SheetBytes.l1 k (acc ++ [px T.f0 T.f3] ++ [px T.f1 T.f3]) l l.length i [T.f0, T.f1, T.f2] 3 2 T.f0 T.f1 T.f2 T.f3) (fun k => ?_) ?_
        · rw [impl_SheetBytes.l1, if_pos (by omega), if_pos (by omega), if_pos (by simp), if_neg h0, if_pos (by simp; omega)]
          rw [show wrap64 (1 + 1) = 2 by unfold wrap64; omega]
          rfl
        refine Ev.step (f := fun k => impl_SheetBytes.l1 k (acc ++ [px T.f0 T.f3] ++ [px T.f1 T.f3] ++ [px T.f2 T.f3]) l l.length i [T.f0, T.f1, T.f2] 3 3 T.f0 T.f1 T.f2 T.f3) (fun k => ?_) ?_
        · rw [impl_SheetBytes.l1, if_pos (by omega), if_pos (by omega), if_pos (by simp), if_neg h0, if_pos (by simp; omega)]
          rw [show wrap64 (2 + 1) = 3 by unfold wrap64; omega]
          rfl
        refine Ev.step (f := fun k => impl_SheetBytes.l0 k ((l.take (i + 1)).flatMap tintBytes) l l.length ((i + 1 : Nat) : Int)) (fun k => ?_) ih
        rw [impl_SheetBytes.l1, if_neg (by omega), if_pos (by simp; omega), hw, ht, hb]
        simp
  have := key 0 (Nat.zero_le _)
  simpa using this

/-- What both sides answer. -/
def sheetBytes (a b : Int) (l : List S54) : List Int × Bool := if goodSheet a b l = true then (l.flatMap tintBytes, true) else ([], false)
theorem sheetBytes_len (a b : Int) (l : List S54) (hl : l.length ≤ 1048576) : (sheetBytes a b l).1.length ≤ 16777216 := by
  unfold sheetBytes
  split
  · rw [bytes_len]; omega
  · simp
theorem specSheetBytes (a b : Int) (l : List S54) (hl : l.length ≤ 1048576) : Ev (fun k => spec_SheetBytes.f k a b l) (sheetBytes a b l) := by
  unfold spec_SheetBytes.f sheetBytes spec_l12Bytes.f
  refine Ev.bind (specGoodSheet a b l hl) ?_
  cases goodSheet a b l
  · exact Ev.now _
  · simp only [if_true]
    exact Ev.bind (f := fun _ t => some (t, true)) (specBytes l hl) (Ev.now _)
theorem implSheetBytes (a b : Int) (l : List S54) (hl : l.length ≤ 1048576) : Ev (fun k => impl_SheetBytes.f k a b l) (sheetBytes a b l) := by
  unfold impl_SheetBytes.f sheetBytes
  refine Ev.bind (implGoodSheet a b l hl) ?_
  cases goodSheet a b l
  · exact Ev.now _
  · simp only [if_true]
    exact implBytes l hl

end Go.Proofs.Ytdmndbehfdnneaa.PFnExactSheetBytes
