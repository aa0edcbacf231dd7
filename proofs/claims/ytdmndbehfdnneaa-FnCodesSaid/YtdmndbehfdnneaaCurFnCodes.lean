/- Draws: they always tell something, and move on. -/
import Derived.Test.YtdmndbehfdnneaaHFnCodesx
import Derived.Test.YtdmndbehfdnneaaNum
import Derived.Laws.BitsAllLaws
namespace Go.Proofs.Ytdmndbehfdnneaa.HFnCodes
open Go.RowKit Go.Proofs.YtdmndbehfdnneaaW.PrintWords Go.Proofs.YtdmndbehfdnneaaW.PrintLast Go.Proofs.Ytdmndbehfdnneaa.Plain
set_option linter.unusedSimpArgs false
set_option linter.unusedVariables false

/-- A text of bytes. -/
def Bytes (c : List Int) : Prop := (∀ x ∈ c, 0 ≤ x ∧ x ≤ 255) ∧ c.length ≤ 140737488351232
theorem byte_rd {c : List Int} (hc : Bytes c) {i : Int} (h0 : 0 ≤ i) (h1 : i < c.length) : 0 ≤ rd c i ∧ rd c i ≤ 255 := by
  obtain ⟨n, rfl⟩ := Int.eq_ofNat_of_zero_le h0
  have hn : n < c.length := by omega
  have e : rd c ((n : Nat) : Int) = c[n] := rd_nat c n hn
  show 0 ≤ rd c ((n : Nat) : Int) ∧ rd c ((n : Nat) : Int) ≤ 255
  rw [e]
  exact hc.1 _ (List.getElem_mem hn)
theorem low8 (z : Int) : 0 ≤ Go.bits .and .u64 (IntKind.u64.wrap z / 1099511627776) 255 ∧ Go.bits .and .u64 (IntKind.u64.wrap z / 1099511627776) 255 ≤ 255 := by
  have hw : 0 ≤ IntKind.u64.wrap z ∧ IntKind.u64.wrap z < 18446744073709551616 := by rw [IntKind.wrap_u64]; omega
  rw [u64_and _ _ (by omega) (by omega) (by omega) (by omega)]
  have := @Nat.and_le_right (IntKind.u64.wrap z / 1099511627776).toNat (255 : Int).toNat
  have e : (255 : Int).toNat = 255 := rfl
  rw [e] at this ⊢
  omega
/-- A draw's place. -/
def At (a : Int) (n : Int) : Prop := 0 ≤ a ∧ a ≤ n
theorem at_le {a n m : Int} (h : At a n) (hm : n ≤ m) : At a m := ⟨h.1, Int.le_trans h.2 hm⟩
theorem next_ {c : List Int} (hc : Bytes c) {a n : Int} (s : Int) (ha : At a n) (hn : n ≤ 4611686018427387904) : ∃ r a' s', spec_l1Cur_next.f c a s = some (r, a', s') ∧ (0 ≤ r ∧ r ≤ 255) ∧ At a' (n + 1) := by
  have hw : wrap64 (a + 1) = a + 1 := wrap_id (by have := ha.1; omega) (by have := ha.2; omega)
  have h0 := ha.1
  have h2 := ha.2
  unfold spec_l1Cur_next.f
  rw [hw]
  by_cases h : a < c.length
  · have hb := byte_rd hc h0 h
    rw [if_pos h, if_pos h0]
    have hr : wrap64 (rd c a) = rd c a := wrap_id (by omega) (by omega)
    by_cases h1 : a + 1 ≤ (c.length : Int)
    · rw [if_pos h1]
      exact ⟨_, _, _, rfl, by rw [hr]; exact hb, ⟨by omega, by omega⟩⟩
    · rw [if_neg h1]
      have l8 := low8 ((IntKind.u64.wrap ((IntKind.u64.wrap (s * 6364136223846793005)) + (IntKind.u64.wrap (wrap64 (rd c a))))) + 1442695040888963407)
      exact ⟨_, _, _, rfl, by rw [wrap_id (by omega) (by omega)]; exact l8, ⟨by omega, by omega⟩⟩
  · rw [if_neg h]
    by_cases h1 : a + 1 ≤ (c.length : Int)
    · rw [if_pos h1]
      exact ⟨_, _, _, rfl, by omega, ⟨by omega, by omega⟩⟩
    · rw [if_neg h1]
      have l8 := low8 ((IntKind.u64.wrap (IntKind.u64.wrap (s * 6364136223846793005))) + 1442695040888963407)
      exact ⟨_, _, _, rfl, by rw [wrap_id (by omega) (by omega)]; exact l8, ⟨by omega, by omega⟩⟩
theorem tmod_in {x n : Int} (h0 : 0 ≤ x) (hn : 0 < n) : 0 ≤ Int.tmod x n ∧ Int.tmod x n < n := by
  rw [tmod_nn h0]
  exact ⟨Int.emod_nonneg _ (by omega), Int.emod_lt_of_pos _ hn⟩
theorem pick_ {c : List Int} (hc : Bytes c) {a n : Int} (s m : Int) (ha : At a n) (hn : n ≤ 4611686018427387000) : ∃ r a' s', spec_l1Cur_pick.f c a s m = some (r, a', s') ∧ (0 ≤ r ∧ (0 < m → r < m)) ∧ At a' (n + 2) := by
  unfold spec_l1Cur_pick.f
  by_cases h1 : m ≤ 1
  · rw [if_pos h1]
    exact ⟨_, _, _, rfl, ⟨by omega, by omega⟩, at_le ha (by omega)⟩
  · rw [if_neg h1]
    obtain ⟨r, a1, s1, e1, hr, ha1⟩ := next_ hc s ha (by omega)
    rw [e1, Option.bind_some]
    by_cases h2 : m > 200
    · obtain ⟨q, a2, s2, e2, hq, ha2⟩ := next_ hc s1 ha1 (by omega)
      rw [if_pos h2]
      simp only []
      rw [e2, Option.bind_some, if_neg (by omega), wrap_id (n := r * 256) (by omega) (by omega), wrap_id (n := r * 256 + q) (by omega) (by omega)]
      have ht := tmod_in (x := r * 256 + q) (n := m) (by omega) (by omega)
      exact ⟨_, _, _, rfl, ⟨ht.1, fun _ => ht.2⟩, at_le ha2 (by omega)⟩
    · rw [if_neg h2, if_neg (by omega)]
      have ht := tmod_in (x := r) (n := m) (by omega) (by omega)
      exact ⟨_, _, _, rfl, ⟨ht.1, fun _ => ht.2⟩, at_le ha1 (by omega)⟩
theorem one_ {c : List Int} (hc : Bytes c) {a n : Int} (s m : Int) (ha : At a n) (hn : n ≤ 4611686018427387000) : ∃ r a' s', spec_l1Cur_one.f c a s m = some (r, a', s') ∧ At a' (n + 2) := by
  obtain ⟨r, a1, s1, e1, hr, ha1⟩ := pick_ hc s m ha hn
  unfold spec_l1Cur_one.f
  rw [e1, Option.bind_some]
  exact ⟨_, _, _, rfl, ha1⟩

end Go.Proofs.Ytdmndbehfdnneaa.HFnCodes
