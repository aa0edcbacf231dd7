/- MeetMasks, as numbers: the program's answer is the reference's, field by field, and its memory is its own. -/
import Derived.Test.YtdmndbehfdnneaaMaskFnExactMeetMasks
import Derived.Test.YtdmndbehfdnneaaMarkMaskFnExactMeetMasks
import Derived.Test.YtdmndbehfdnneaaGrow
namespace Go.Proofs.Ytdmndbehfdnneaa.Pure
open Go.RowKit Go.Proofs.Ytdmndbehfdnneaa.HFnExactMeetMasks Go.Proofs.YtdmndbehfdnneaaW.PrintWords Go.Proofs.YtdmndbehfdnneaaW.PrintLast Go.Proofs.Ytdmndbehfdnneaa.Plain
set_option linter.unusedSimpArgs false
set_option linter.unusedVariables false

def meet1 (l m : List Int) (i : Nat) : Int := wrap64 (Int.tdiv (wrap64 ((wrap64 ((rd l (i : Int)) * (rd m (i : Int)))) + 8)) 16)
def met (l m : List Int) : List Int := (List.range l.length).map (meet1 l m)
def meetMasks (a b : Int) (l : List Int) (c d : Int) (m : List Int) : Int × Int × List Int × Bool :=
  if goodMask a b l = true then (if goodMask c d m = true then (if a = c then (if b = d then (a, b, met l m, true) else (0, 0, [], false)) else (0, 0, [], false)) else (0, 0, [], false)) else (0, 0, [], false)
theorem good_len {a b : Int} {l : List Int} (h : goodMask a b l = true) : (l.length : Int) = wrap64 (a * b) := by
  unfold goodMask at h
  split at h
  · rename_i hc
    simp at hc
    exact hc.2
  · simp at h
theorem specMeet (a b : Int) (l : List Int) (c d : Int) (m : List Int) (hl : l.length ≤ 1048576) (hm : m.length ≤ 1048576) : Ev (fun k => spec_MeetMasks.f k a b l c d m) (meetMasks a b l c d m) := by
  unfold spec_MeetMasks.f meetMasks
  refine Ev.bind (specGoodMask a b l hl) ?_
  cases h1 : goodMask a b l
  · exact Ev.now _
  simp only [if_true]
  refine Ev.bind (specGoodMask c d m hm) ?_
  cases h2 : goodMask c d m
  · exact Ev.now _
  simp only [if_true]
  by_cases h3 : a = c
  · by_cases h4 : b = d
    · simp only [if_pos h3, if_pos h4]
      have e : l.length = m.length := by have e1 := good_len h1; have e2 := good_len h2; subst h3; subst h4; omega
      unfold spec_l11Meet.f
      refine Ev.bind (a := (a, b, met l m)) ?_ (Ev.now _)
      exact grow_ev l.length (meet1 l m) (fun ys => (a, b, ys)) (by omega) (fun k i ys => spec_l11Meet.l0 k l l.length i c d m a b ys) (fun k i ys hi hy => by
        show spec_l11Meet.l0 (k + 1) l l.length i c d m a b ys = _
        rw [spec_l11Meet.l0, if_pos (by omega), if_pos (by omega), if_pos (by omega), if_pos (by omega), if_pos (by omega)]; rfl) (fun k ys hy => by
        show spec_l11Meet.l0 (k + 1) l l.length _ c d m a b ys = _
        rw [spec_l11Meet.l0, if_neg (by omega)])
    · simp only [if_pos h3, if_neg h4]; exact Ev.now _
  · simp only [if_neg h3]; exact Ev.now _
theorem implMeet (a b : Int) (l : List Int) (c d : Int) (m : List Int) (hl : l.length ≤ 1048576) (hm : m.length ≤ 1048576) : Ev (fun k => impl_MeetMasks.f k a b l c d m) (meetMasks a b l c d m) := by
  have none_ : Ev (fun k => impl_MeetMasks.j0 k true a b l c d m) (0, 0, [], false) := ev_some fun k => by rw [impl_MeetMasks.j0, if_pos rfl]
  unfold impl_MeetMasks.f meetMasks
  refine Ev.bind (implGoodMask a b l hl) ?_
  cases h1 : goodMask a b l
  · exact none_
  simp only [if_true]
  refine Ev.bind (implGoodMask c d m hm) ?_
  cases h2 : goodMask c d m
  · exact none_
  simp only [if_true]
  by_cases h3 : a = c
  · simp only [if_pos h3]
    by_cases h4 : b = d
    · simp only [if_pos h4]
      have e : l.length = m.length := by have e1 := good_len h1; have e2 := good_len h2; subst h3; subst h4; omega
      refine Ev.step (f := fun k => impl_MeetMasks.l0 k l l.length 0 c d m a b []) (fun k => ?_) ?_
      · rw [impl_MeetMasks.j0, if_neg (by simp [h4])]
      · exact grow_ev l.length (meet1 l m) (fun ys => (a, b, ys, true)) (by omega) (fun k i ys => impl_MeetMasks.l0 k l l.length i c d m a b ys) (fun k i ys hi hy => by
          show impl_MeetMasks.l0 (k + 1) l l.length i c d m a b ys = _
          rw [impl_MeetMasks.l0, if_pos (by omega), if_pos (by omega), if_pos (by omega), if_pos (by omega), if_pos (by omega)]; rfl) (fun k ys hy => by
          show impl_MeetMasks.l0 (k + 1) l l.length _ c d m a b ys = _
          rw [impl_MeetMasks.l0, if_neg (by omega)])
    · simp only [if_neg h4, show (b != d) = true by simpa using h4]; exact none_
  · simp only [if_neg h3]; exact none_
theorem met_len (a b : Int) (l : List Int) (c d : Int) (m : List Int) : (meetMasks a b l c d m).2.2.1.length ≤ l.length := by
  unfold meetMasks
  repeat' split
  all_goals simp [met]

theorem FnExactMeetMasks : ∀ (a0_0 : Int) (a0_1 : Int) (l0_2 : List (Int)) (a1_0 : Int) (a1_1 : Int) (l1_2 : List (Int)), ((Lit.int .i64 a0_0).wf = true) → ((Lit.int .i64 a0_1).wf = true) → ((∀ x3 ∈ l0_2, (Lit.int .i64 x3).wf = true) ∧ l0_2.length ≤ 9223372036854775807) → ((Lit.int .i64 a1_0).wf = true) → ((Lit.int .i64 a1_1).wf = true) → ((∀ x3 ∈ l1_2, (Lit.int .i64 x3).wf = true) ∧ l1_2.length ≤ 9223372036854775807) → ∃ k, HFnExactMeetMasks.laws_FnExactMeetMasks.f k a0_0 a0_1 l0_2 a1_0 a1_1 l1_2 = some true := by
  intro a b l c d m _ _ hl0 _ _ hm0
  refine Ev.rounds ?_
  unfold laws_FnExactMeetMasks.f laws_szMask.f laws_szIntS.f
  rw [wrap_id (n := (1048576 : Int) - l.length) (by omega) (by omega)]
  by_cases hl : (1048576 : Int) - l.length < 0
  · simp only [if_pos hl, Option.bind_some, if_pos (show (-1 : Int) < 0 by omega)]
    exact Ev.now _
  simp only [if_neg hl, Option.bind_some]
  rw [wrap_id (n := (1048576 : Int) - l.length - m.length) (by omega) (by omega)]
  by_cases hm : (1048576 : Int) - l.length - m.length < 0
  · simp only [if_pos hm, Option.bind_some, if_pos (show (-1 : Int) < 0 by omega)]
    exact Ev.now _
  simp only [if_neg hm, Option.bind_some]
  have hl' : l.length ≤ 1048576 := by omega
  have hm' : m.length ≤ 1048576 := by omega
  obtain ⟨x, y, r, o, hR⟩ : ∃ x y r o, meetMasks a b l c d m = (x, y, r, o) := ⟨_, _, _, _, rfl⟩
  have hr : r.length ≤ 1048576 := by have := met_len a b l c d m; rw [hR] at this; exact Nat.le_trans this hl'
  have hs := specMeet a b l c d m hl' hm'
  have hi := implMeet a b l c d m hl' hm'
  rw [hR] at hs hi
  refine Ev.bind (toMask_ a b l hl') (Ev.bind (toMask_ c d m hm') (Ev.bind hs (Ev.bind (toMask_ a b l hl') (Ev.bind (toMask_ c d m hm') (Ev.bind hi (Ev.bind (eqMask_ x y r (by omega)) ?_))))))
  simp only [if_true, bne_self_eq_false]
  have hj2 : Ev (fun k => laws_FnExactMeetMasks.j2 k ((1 + 1 * r.length : Nat) : Int) false x y (over (intMark 1) r r.length)) true := by
    refine Ev.step (f := fun k => (laws_heldMask.f k x y (over (intMark 1) r r.length) 1).bind fun t247 => (if t247 < 0 then (some false) else (if t247 = ((1 + 1 * r.length : Nat) : Int) then (some true) else (some false)))) (fun k => by rw [laws_FnExactMeetMasks.j2, if_neg (by simp)]) ?_
    refine Ev.bind (heldMask x y r 1 (by omega) (by omega)) ?_
    simp only [if_neg (show ¬ ((1 + 1 * r.length : Nat) : Int) < 0 by omega), if_true]
    exact Ev.now _
  have hj1 : Ev (fun k => laws_FnExactMeetMasks.j1 k o false a b l c d m x y r x y r) true := by
    refine Ev.step (f := fun k => ((laws_markMask.f k x y r 1).bind fun bt226 => ((laws_heldMask.f k x y bt226.2 1).bind fun t228 => (if t228 < 0 then (some false) else (if t228 = bt226.1 then ((laws_toMask.f k a b l).bind fun bt229 => ((laws_toMask.f k c d m).bind fun bt234 => ((impl_MeetMasks.f k bt229.1 bt229.2.1 bt229.2.2 bt234.1 bt234.2.1 bt234.2.2).bind fun bt239 => ((laws_eqMask.f k bt239.1 bt239.2.1 bt239.2.2.1 x y r).bind fun t246 => (if t246 = true then (laws_FnExactMeetMasks.j2 k bt226.1 (bt239.2.2.2 != o) x y bt226.2) else (laws_FnExactMeetMasks.j2 k bt226.1 true x y bt226.2)))))) else (some false)))))) (fun k => by rw [laws_FnExactMeetMasks.j1, if_neg (by simp)]) ?_
    refine Ev.bind (markMask x y r 1 (by omega) (by omega)) (Ev.bind (heldMask x y r 1 (by omega) (by omega)) ?_)
    simp only [if_neg (show ¬ ((1 + 1 * r.length : Nat) : Int) < 0 by omega), if_true]
    refine Ev.bind (toMask_ a b l hl') (Ev.bind (toMask_ c d m hm') (Ev.bind hi (Ev.bind (eqMask_ x y r (by omega)) ?_)))
    simp only [if_true, bne_self_eq_false]
    exact hj2
  refine Ev.step (f := fun k => ((laws_toMask.f k a b l).bind fun bt209 => ((laws_eqMask.f k a b l bt209.1 bt209.2.1 bt209.2.2).bind fun t214 => (if t214 = true then ((laws_toMask.f k c d m).bind fun bt215 => ((laws_eqMask.f k c d m bt215.1 bt215.2.1 bt215.2.2).bind fun t220 => (if t220 = true then ((laws_markMask.f k a b l 1).bind fun bt221 => ((laws_markMask.f k c d m bt221.1).bind fun bt223 => (if bt223.1 < 0 then (laws_FnExactMeetMasks.j1 k o true a b l c d m x y r x y r) else ((laws_eqMask.f k x y r x y r).bind fun t225 => (if t225 = true then (laws_FnExactMeetMasks.j1 k o (o != o) a b l c d m x y r x y r) else (laws_FnExactMeetMasks.j1 k o true a b l c d m x y r x y r)))))) else (some false)))) else (some false))))) (fun k => by rw [laws_FnExactMeetMasks.j0, if_neg (by simp)]) ?_
  refine Ev.bind (toMask_ a b l hl') (Ev.bind (eqMask_ a b l (by omega)) ?_)
  simp only [if_true]
  refine Ev.bind (toMask_ c d m hm') (Ev.bind (eqMask_ c d m (by omega)) ?_)
  simp only [if_true]
  refine Ev.bind (markMask a b l 1 (by omega) (by omega)) (Ev.bind (markMask c d m (1 + 1 * l.length) (by omega) (by omega)) ?_)
  simp only [if_neg (show ¬ ((1 + 1 * l.length + 1 * m.length : Nat) : Int) < 0 by omega)]
  refine Ev.bind (eqMask_ x y r (by omega)) ?_
  simp only [if_true, bne_self_eq_false]
  exact hj1

end Go.Proofs.Ytdmndbehfdnneaa.Pure
