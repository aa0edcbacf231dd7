/- Regions whose order is drawn: any order does what the text's does. -/
import Derived.Test.YtigkodlbjimikaaVcZh
namespace Go.Proofs.Ytigkodlbjimikaa.Vc
open Go Go.RowKit
set_option linter.unusedVariables false
set_option linter.unusedSimpArgs false

/-! ### what comes before -/
theorem bef_bit {ms : List Nat} {i j : Nat} : bef ms i j = (ms.getD j 0).testBit i := by
  unfold bef
  rw [Nat.testBit_eq_decide_div_mod_eq, Nat.shiftRight_eq_div_pow]
  cases h : decide ((ms.getD j 0) / 2 ^ i % 2 = 1) with
  | true => simpa using h
  | false => simpa using h
theorem maskOf_bit {acc : List Nat} {r : Nat} : ∀ {es : List Edge}, (maskOf acc es).testBit r = true → ∃ e ∈ es, Region.binds .any e = true ∧ (e.on = r ∨ (acc.getD e.on 0).testBit r = true)
  | [], h => by simp [maskOf] at h
  | e :: es, h => by
    unfold maskOf at h
    cases hb : Region.binds .any e with
    | false =>
      rw [hb] at h
      obtain ⟨e', h1, h2⟩ := maskOf_bit (es := es) h
      exact ⟨e', List.mem_cons_of_mem _ h1, h2⟩
    | true =>
      rw [hb] at h
      simp only [cond_true, Nat.testBit_or, Bool.or_eq_true] at h
      rcases h with (h | h) | h
      · refine ⟨e, List.mem_cons_self, hb, .inl ?_⟩
        rw [Nat.one_shiftLeft, Nat.testBit_two_pow] at h
        exact of_decide_eq_true h
      · exact ⟨e, List.mem_cons_self, hb, .inr h⟩
      · obtain ⟨e', h1, h2⟩ := maskOf_bit (es := es) h
        exact ⟨e', List.mem_cons_of_mem _ h1, h2⟩
theorem masks_pre : ∀ (l : List Oper) (acc : List Nat), ∃ t, masks l acc = acc ++ t
  | [], acc => ⟨[], by simp [masks]⟩
  | o :: l, acc => by
    obtain ⟨t, h⟩ := masks_pre l (acc ++ [maskOf acc o.after.toList])
    exact ⟨maskOf acc o.after.toList :: t, by rw [masks, h]; simp⟩
theorem masks_at : ∀ (l : List Oper) (acc : List Nat) (k : Nat) (o : Oper), l[k]? = some o → (masks l acc).getD (acc.length + k) 0 = maskOf ((masks l acc).take (acc.length + k)) o.after.toList
  | [], acc, k, o, h => by simp at h
  | o' :: l, acc, 0, o, h => by
    obtain rfl : o' = o := by simpa using h
    obtain ⟨t, ht⟩ := masks_pre l (acc ++ [maskOf acc o'.after.toList])
    rw [masks, ht, List.append_assoc, Nat.add_zero, List.take_left']
    · simp [List.getD_eq_getElem?_getD]
    · rfl
  | o' :: l, acc, k + 1, o, h => by
    have ih := masks_at l (acc ++ [maskOf acc o'.after.toList]) k o (by simpa using h)
    simp only [List.length_append, List.length_cons, List.length_nil] at ih
    rw [masks, show acc.length + (k + 1) = acc.length + (0 + 1) + k by omega]
    exact ih
theorem edges_at : ∀ (l : List Oper) (n k : Nat) (o : Oper), edgesOk l n = true → l[k]? = some o → ∀ e ∈ o.after, Region.binds .any e = true → e.on < n + k
  | [], n, k, o, _, h => by simp at h
  | o' :: l, n, 0, o, hd, h => by
    obtain rfl : o' = o := by simpa using h
    simp only [edgesOk, Bool.and_eq_true] at hd
    intro e he hb
    have := List.all_eq_true.1 hd.1 e (by simpa using he)
    rw [hb] at this
    exact Nat.le_of_ble_eq_true this
  | o' :: l, n, k + 1, o, hd, h => by
    simp only [edgesOk, Bool.and_eq_true] at hd
    intro e he hb
    have := edges_at l (n + 1) k o hd.2 (by simpa using h) e he hb
    omega
section
variable {ops : Array Oper}
theorem bef_pre (hd : edgesOk ops.toList 0 = true) {r i : Nat} {o : Oper} (ho : ops[i]? = some o) (h : bef (masks ops.toList []) r i = true) : ∃ e ∈ o.after, Region.binds .any e = true ∧ e.on < i ∧ (e.on = r ∨ bef (masks ops.toList []) r e.on = true) := by
  rw [bef_bit] at h
  have h0 := masks_at ops.toList [] i o (by rw [Array.getElem?_toList]; exact ho)
  simp only [List.length_nil, Nat.zero_add] at h0
  rw [h0] at h
  obtain ⟨e, he, hb, h⟩ := maskOf_bit h
  have he' : e ∈ o.after := by simpa using he
  have hlt := edges_at ops.toList 0 i o hd (by rw [Array.getElem?_toList]; exact ho) e he' hb
  rw [Nat.zero_add] at hlt
  refine ⟨e, he', hb, hlt, h.imp id fun h => ?_⟩
  rw [bef_bit]
  rw [List.getD_eq_getElem?_getD, List.getElem?_take, if_pos hlt, ← List.getD_eq_getElem?_getD] at h
  exact h
theorem bef_lt (hd : edgesOk ops.toList 0 = true) {r : Nat} : ∀ (i : Nat), i < ops.size → bef (masks ops.toList []) r i = true → r < i := by
  intro i
  induction i using Nat.strongRecOn with
  | _ i ih =>
    intro hi h
    obtain ⟨e, _, _, h1, h2⟩ := bef_pre hd (Array.getElem?_eq_getElem hi) h
    rcases h2 with h2 | h2
    · omega
    · have := ih e.on h1 (by omega) h2; omega
/-- What is listed is listed behind what comes before it. -/
def UpOk (ops : Array Oper) (listed : Array Bool) : Prop := ∀ j o, listed.getD j false = true → ops[j]? = some o → ∀ e ∈ o.after, Region.binds .any e = true → listed.getD e.on false = true
theorem bef_listed (hd : edgesOk ops.toList 0 = true) {listed : Array Bool} (hu : UpOk ops listed) {r : Nat} : ∀ (i : Nat) (o : Oper), ops[i]? = some o → (∀ e ∈ o.after, Region.binds .any e = true → listed.getD e.on false = true) → bef (masks ops.toList []) r i = true → listed.getD r false = true := by
  intro i
  induction i using Nat.strongRecOn with
  | _ i ih =>
    intro o ho hp h
    obtain ⟨e, he, hb, h1, h2⟩ := bef_pre hd ho h
    have hl := hp e he hb
    rcases h2 with h2 | h2
    · rw [← h2]; exact hl
    · have hi := (Array.getElem?_eq_some_iff.1 ho).1
      have ho' : ops[e.on]? = some ops[e.on] := Array.getElem?_eq_getElem (by omega)
      exact ih e.on h1 _ ho' (hu e.on _ hl ho') h2

/-! ### what is left to do -/
def left_ (ops : Array Oper) (listed : Array Bool) : List Nat := (List.range ops.size).filter fun j => !listed.getD j true
theorem left_pair (listed : Array Bool) : (left_ ops listed).Pairwise (· < ·) := List.pairwise_lt_range.filter _
theorem mem_left {listed : Array Bool} {j : Nat} : j ∈ left_ ops listed ↔ j < ops.size ∧ listed.getD j true = false := by
  unfold left_
  rw [List.mem_filter, List.mem_range]
  simp
theorem getD_lt {listed : Array Bool} {j : Nat} (h : j < listed.size) (d d' : Bool) : listed.getD j d = listed.getD j d' := by
  simp [Array.getD, h]
theorem left_set {listed : Array Bool} {i : Nat} (hs : listed.size = ops.size) (hi : i < ops.size) {l1 l2 : List Nat} (h : left_ ops listed = l1 ++ i :: l2) : left_ ops (listed.setIfInBounds i true) = l1 ++ l2 := by
  have hp := left_pair (ops := ops) listed
  rw [h] at hp
  have e : left_ ops (listed.setIfInBounds i true) = (left_ ops listed).filter (· != i) := by
    unfold left_
    rw [List.filter_filter]
    refine List.filter_congr fun j hj => ?_
    by_cases e : j = i
    · subst e
      simp [Array.getD, hs, hi]
    · rw [getD_set_ne true (Ne.symm e)]
      simp [e]
  rw [e, h, List.filter_append, List.filter_cons]
  obtain ⟨_, h2, h3⟩ := List.pairwise_append.1 hp
  obtain ⟨h4, _⟩ := List.pairwise_cons.1 h2
  rw [List.filter_eq_self.2 fun x hx => by have := h3 x hx i List.mem_cons_self; simp; omega, List.filter_eq_self.2 fun x hx => by have := h4 x hx; simp; omega]
  simp
end
section
variable {P : Program} {V : Prog} {C : Ctx} {G : Gh} {s s' s1 s2 : St} {a : Act} {w : World} {rf : CallF V} {nt : Nat} {ops : Array Oper} {lone_ : Nat → Bool × Bool} {draw : Bool}
theorem step_real (hV : ProgOk P V) (hrf : CallsOk P V rf) (hn : nt ≤ C.nt) (h : Inv C G s a w) {i : Nat} (hs : Step_ V rf nt ops draw lone_ i s s') : ∃ G' a' w', Inv C G' s' a' w' := by
  obtain ⟨a', w', G', _, hi⟩ := step_ok (b := default) (k := []) (cs := []) hV hrf hn h hs (rest := [])
  exact ⟨G', a', w', hi⟩
theorem chain_front (hV : ProgOk P V) (hrf : CallsOk P V rf) (hn : nt ≤ C.nt) (hsig : ∀ i, resLen (V.sig i).res ≤ 1000) {i : Nat} {l2 : List Nat} : ∀ (l1 : List Nat) {s s' : St} {G : Gh} {a : Act} {w : World}, Inv C G s a w → (∀ r ∈ l1, ∃ x y, ops[r]? = some x ∧ ops[i]? = some y ∧ pairOk V.E ops x y = true ∧ (lone_ r).2 = isWild V.E x ∧ (lone_ i).2 = isWild V.E y ∧ ((isLoad x && isWildB V.E y) = true → (lone_ r).1 = true) ∧ ((isLoad y && isWildB V.E x) = true → (lone_ i).1 = true) ∧ ((lone_ r).1 = true → isLoad x = true) ∧ ((lone_ i).1 = true → isLoad y = true)) →
    Chain V rf nt ops true lone_ (l1 ++ i :: l2) s s' → Chain V rf nt ops true lone_ (i :: (l1 ++ l2)) s s'
  | [], s, s', G, a, w, h, hsw, hc => hc
  | r :: l1, s, s', G, a, w, h, hsw, hc => by
    obtain ⟨s1, h1, h2⟩ := hc
    obtain ⟨G1, a1, w1, hi1⟩ := step_real hV hrf hn h h1
    obtain ⟨s2, h3, h4⟩ := chain_front hV hrf hn hsig l1 hi1 (fun q hq => hsw q (List.mem_cons_of_mem _ hq)) h2
    obtain ⟨x, y, hx, hy, hp, hlr, hli, hnr, hni, har, hai⟩ := hsw r List.mem_cons_self
    obtain ⟨s3, k1, k2⟩ := swap hsig h.closed hx hy hp hlr hli hnr hni har hai h1 h3
    exact ⟨s3, k1, s2, k2, h4⟩
theorem lin_chain (hV : ProgOk P V) (hrf : CallsOk P V rf) (hn : nt ≤ C.nt) (hsig : ∀ i, resLen (V.sig i).res ≤ 1000) (hd : drawOk V.E ops (masks ops.toList []) = true) : ∀ (fuel t : Nat) (listed : Array Bool) {s s' : St} {G : Gh} {a : Act} {w : World}, listed.size = ops.size → (left_ ops listed).length ≤ fuel → UpOk ops listed → Inv C G s a w →
    Chain V rf nt ops true (loneOf V.E ops (masks ops.toList [])) (left_ ops listed) s s' → Chain V rf nt ops true (loneOf V.E ops (masks ops.toList [])) (Region.linearise.go .any ops fuel t listed []) s s' := by
  unfold drawOk at hd
  simp only [Bool.and_eq_true] at hd
  obtain ⟨hed, hpr⟩ := hd
  intro fuel
  induction fuel with
  | zero =>
    intro t listed s s' G a w hsz hlen hu h hc
    rw [List.eq_nil_of_length_eq_zero (Nat.le_zero.1 hlen)] at hc
    exact hc
  | succ fuel ih =>
    intro t listed s s' G a w hsz hlen hu h hc
    simp only [Region.linearise.go]
    change Chain V rf nt ops true _ (match (Region.ready .any ops listed)[t % (Region.ready .any ops listed).length]? with
      | some i => Region.linearise.go .any ops fuel (t / (Region.ready .any ops listed).length) (listed.setIfInBounds i true) [i]
      | none => [].reverse) s s'
    cases hi : (Region.ready .any ops listed)[t % (Region.ready .any ops listed).length]? with
    | none =>
      have hnil : Region.ready .any ops listed = [] := by
        cases hr : Region.ready .any ops listed with
        | nil => rfl
        | cons x xs =>
          rw [hr] at hi
          have hlt : t % (x :: xs).length < (x :: xs).length := Nat.mod_lt _ (by simp)
          simp at hi
          simp at hlt
          omega
      cases hl : left_ ops listed with
      | nil => rw [hl] at hc; exact hc
      | cons j R =>
        have hp := left_pair (ops := ops) listed
        have hj : j ∈ left_ ops listed := by rw [hl]; exact List.mem_cons_self
        rw [hl] at hp
        obtain ⟨hp1, _⟩ := List.pairwise_cons.1 hp
        obtain ⟨hjlt, hjl⟩ := mem_left.1 hj
        have ho : ops[j]? = some ops[j] := Array.getElem?_eq_getElem hjlt
        have : j ∈ Region.ready .any ops listed := by
          rw [mem_ready]
          refine ⟨hjl, _, ho, fun e he hb => ?_⟩
          have hlt := edges_at ops.toList 0 j _ hed (by rw [Array.getElem?_toList]; exact ho) e he hb
          rw [Nat.zero_add] at hlt
          cases hv : listed.getD e.on false with
          | true => rfl
          | false =>
            have : e.on ∈ left_ ops listed := mem_left.2 ⟨by omega, by rw [getD_lt (by omega) true false]; exact hv⟩
            rw [hl] at this
            rcases List.mem_cons.1 this with h1 | h1
            · omega
            · have := hp1 _ h1; omega
        rw [hnil] at this; cases this
    | some i =>
      simp only []
      rw [linearise_go_acc, List.reverse_singleton, List.singleton_append]
      have hr := List.mem_of_getElem? hi
      obtain ⟨hil, o, ho, hpre⟩ := mem_ready.1 hr
      have hilt := (Array.getElem?_eq_some_iff.1 ho).1
      have hmem : i ∈ left_ ops listed := mem_left.2 ⟨hilt, hil⟩
      obtain ⟨l1, l2, hl⟩ := List.append_of_mem hmem
      have hp := left_pair (ops := ops) listed
      rw [hl] at hp hc
      have hlt : ∀ r ∈ l1, r < i := fun r hr => (List.pairwise_append.1 hp).2.2 r hr i List.mem_cons_self
      have hgo : ops.getD i default = o := by rw [Array.getD_eq_getD_getElem?, ho]; rfl
      have hfront := chain_front hV hrf hn hsig l1 h (fun r hr => by
        have hri := hlt r hr
        have hrm : r ∈ left_ ops listed := by rw [hl]; simp [hr]
        obtain ⟨hrlt, hrl⟩ := mem_left.1 hrm
        have hor : ops[r]? = some ops[r] := Array.getElem?_eq_getElem hrlt
        have hgr : ops.getD r default = ops[r] := by rw [Array.getD_eq_getD_getElem?, hor]; rfl
        have hb1 : bef (masks ops.toList []) r i = false := by
          cases hb : bef (masks ops.toList []) r i with
          | false => rfl
          | true =>
            have := bef_listed hed hu i o ho hpre hb
            rw [getD_lt (by omega) false true, hrl] at this; cases this
        have hb2 : bef (masks ops.toList []) i r = false := by
          cases hb : bef (masks ops.toList []) i r with
          | false => rfl
          | true => have := bef_lt hed r hrlt hb; omega
        have hpair := List.all_eq_true.1 (List.all_eq_true.1 hpr i (List.mem_range.2 hilt)) r (List.mem_range.2 hri)
        rw [hb1, hgr, hgo, Bool.false_or] at hpair
        have hal1 : alone ops.size (masks ops.toList []) r = false := by
          cases hal : alone ops.size (masks ops.toList []) r with
          | false => rfl
          | true =>
            have := List.all_eq_true.1 hal i (List.mem_range.2 hilt)
            rw [hb1, hb2] at this
            have hne : (i == r) = false := by simp; omega
            rw [hne] at this; cases this
        have hal2 : alone ops.size (masks ops.toList []) i = false := by
          cases hal : alone ops.size (masks ops.toList []) i with
          | false => rfl
          | true =>
            have := List.all_eq_true.1 hal r (List.mem_range.2 hrlt)
            rw [hb1, hb2] at this
            have hne : (r == i) = false := by simp; omega
            rw [hne] at this; cases this
        have ne1 : (i == r) = false := by simp; omega
        have ne2 : (r == i) = false := by simp; omega
        refine ⟨_, o, hor, ho, hpair, ?_, ?_, fun hw => ?_, fun hw => ?_, fun hw => ?_, fun hw => ?_⟩
        · unfold loneOf; simp only []; rw [hgr, hal1, Bool.or_false]
        · unfold loneOf; simp only []; rw [hgo, hal2, Bool.or_false]
        · simp only [Bool.and_eq_true] at hw
          unfold loneOf needPtr
          simp only []
          rw [hgr, hw.1, Bool.true_and, List.any_eq_true]
          exact ⟨i, List.mem_range.2 hilt, by rw [hgo, hw.2, ne1, hb1, hb2]; rfl⟩
        · simp only [Bool.and_eq_true] at hw
          unfold loneOf needPtr
          simp only []
          rw [hgo, hw.1, Bool.true_and, List.any_eq_true]
          exact ⟨r, List.mem_range.2 hrlt, by rw [hgr, hw.2, ne2, hb1, hb2]; rfl⟩
        · unfold loneOf needPtr at hw
          simp only [Bool.and_eq_true] at hw
          rw [hgr] at hw; exact hw.1
        · unfold loneOf needPtr at hw
          simp only [Bool.and_eq_true] at hw
          rw [hgo] at hw; exact hw.1) hc
      obtain ⟨s1, k1, k2⟩ := hfront
      obtain ⟨G1, a1, w1, hi1⟩ := step_real hV hrf hn h k1
      have hset := left_set hsz hilt hl
      refine ⟨s1, k1, ih _ _ (by simpa using hsz) ?_ ?_ hi1 (by rw [hset]; exact k2)⟩
      · rw [hset]
        rw [hl] at hlen
        simp only [List.length_append, List.length_cons] at hlen ⊢
        omega
      · intro j o' hj ho' e he hb
        by_cases e1 : i = j
        · subst e1
          obtain rfl : o = o' := by rw [ho] at ho'; exact Option.some.inj ho'
          exact getD_set_true (hpre e he hb)
        · rw [getD_set_ne false e1] at hj
          exact getD_set_true (hu j o' hj ho' e he hb)
/-- Any order does what the text's does. -/
theorem drawn_chain (hV : ProgOk P V) (hrf : CallsOk P V rf) (hn : nt ≤ C.nt) (h : Inv C G s a w) (hd : drawOk V.E ops (masks ops.toList []) = true) (hc : Chain V rf nt ops true (loneOf V.E ops (masks ops.toList [])) (List.range ops.size) s s') (t : Nat) :
    Chain V rf nt ops true (loneOf V.E ops (masks ops.toList [])) (Region.schedule (P.follows .mixedOrders) ops t) s s' := by
  have hsig : ∀ i, resLen (V.sig i).res ≤ 1000 := fun i => by
    have := hV.sig i
    simp only [sigOk, Bool.and_eq_true] at this
    have := Nat.le_of_ble_eq_true this.2
    omega
  rw [hV.mixed]
  simp only [Region.schedule, Bool.true_or, if_true]
  have hR : left_ ops (Array.replicate ops.size false) = List.range ops.size := by
    refine List.filter_eq_self.2 fun j hj => ?_
    have := List.mem_range.1 hj
    simp [Array.getD, this]
  refine lin_chain hV hrf hn hsig hd ops.size t _ (by simp) (by rw [hR]; simp) (fun j o hj => ?_) h (by rw [hR]; exact hc)
  exfalso
  by_cases hlt : j < ops.size
  · simp [Array.getD, hlt] at hj
  · simp [Array.getD, hlt] at hj
end

end Go.Proofs.Ytigkodlbjimikaa.Vc
