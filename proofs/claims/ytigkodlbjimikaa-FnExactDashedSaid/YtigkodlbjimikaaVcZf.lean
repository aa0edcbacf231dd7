/- Regions whose order is drawn: what is looked up stays what it is where more is told. -/
import Derived.Test.YtigkodlbjimikaaVcZe
namespace Go.Proofs.Ytigkodlbjimikaa.Vc
open Go Go.RowKit
set_option linter.unusedVariables false
set_option linter.unusedSimpArgs false

/-! ### tables -/
theorem blt_iff (n k : Nat) : Nat.blt n k = decide (n < k) := by
  by_cases h : n < k
  · rw [show Nat.blt n k = true from Nat.ble_eq_true_of_le h]; simp [h]
  · have : Nat.blt n k = false := by
      cases hb : Nat.blt n k with
      | false => rfl
      | true => exact absurd (Nat.le_of_ble_eq_true hb) h
    rw [this]; simp [h]
theorem ins_cons {α : Type} (n : Nat) (x : α) (k : Nat) (v : α) (l : List (Nat × α)) : ins n x ((k, v) :: l) = if n < k then (n, x) :: (k, v) :: l else if n = k then (n, x) :: l else (k, v) :: ins n x l := by
  simp only [ins, blt_iff]
  by_cases h : n < k
  · simp [h]
  · by_cases e : n = k
    · simp [e]
    · have h2 : (n == k) = false := by simp [e]
      simp [h, e, h2]
theorem ins_comm {α : Type} {n m : Nat} {x y : α} (h : n < m) : ∀ l : List (Nat × α), ins n x (ins m y l) = ins m y (ins n x l)
  | [] => by
    simp only [ins]
    rw [blt_iff, blt_iff]
    have h1 : ¬ m < n := by omega
    have h2 : (m == n) = false := by simp; omega
    simp [h, h1, h2]
  | (k, v) :: l => by
    have ih := ins_comm (x := x) (y := y) h l
    have h2 : ¬ m = n := by omega
    have h4 : ¬ m < n := by omega
    have h5 : ¬ n = m := by omega
    rw [ins_cons m, ins_cons n x k]
    by_cases a : m < k
    · have b : n < k := by omega
      rw [if_pos a, if_pos b, ins_cons, if_pos h, ins_cons, if_neg h4, if_neg h2, ins_cons, if_pos a]
    · rw [if_neg a]
      by_cases e : m = k
      · have b : n < k := by omega
        rw [if_pos e, if_pos b, ins_cons, if_pos h, ins_cons, if_neg h4, if_neg h2, ins_cons, if_neg a, if_pos e]
      · rw [if_neg e]
        by_cases b : n < k
        · rw [if_pos b, ins_cons, if_pos b, ins_cons, if_neg h4, if_neg h2, ins_cons, if_neg a, if_neg e]
        · rw [if_neg b, ins_cons, if_neg b]
          by_cases f : n = k
          · rw [if_pos f, if_pos f, ins_cons, if_neg h4, if_neg h2]
          · rw [if_neg f, if_neg f, ins_cons, if_neg a, if_neg e, ih]
theorem ins_comm' {α : Type} {n m : Nat} {x y : α} (h : n ≠ m ∨ (n, x) = (m, y)) (l : List (Nat × α)) : ins n x (ins m y l) = ins m y (ins n x l) := by
  by_cases e : n = m
  · rcases h with h | h
    · exact absurd e h
    · obtain ⟨rfl, rfl⟩ := Prod.mk.inj h; rfl
  · rcases Nat.lt_or_gt_of_ne e with h | h
    · exact ins_comm h l
    · exact (ins_comm h l).symm
def insAll {α : Type} : List (Nat × α) → List (Nat × α) → List (Nat × α)
  | [], t => t
  | (k, v) :: l, t => insAll l (ins k v t)
theorem ins_insAll {α : Type} {n : Nat} {x : α} : ∀ (M : List (Nat × α)) (t : List (Nat × α)), (∀ q ∈ M, n ≠ q.1 ∨ (n, x) = q) → ins n x (insAll M t) = insAll M (ins n x t)
  | [], t, _ => rfl
  | (k, v) :: M, t, h => by
    show ins n x (insAll M (ins k v t)) = insAll M (ins k v (ins n x t))
    rw [ins_insAll M _ fun q hq => h q (List.mem_cons_of_mem _ hq), ins_comm' (h (k, v) List.mem_cons_self)]
theorem insAll_comm {α : Type} : ∀ (L M : List (Nat × α)) (t : List (Nat × α)), (∀ p ∈ L, ∀ q ∈ M, p.1 ≠ q.1 ∨ p = q) → insAll L (insAll M t) = insAll M (insAll L t)
  | [], M, t, _ => rfl
  | (k, v) :: L, M, t, h => by
    show insAll L (ins k v (insAll M t)) = insAll M (insAll L (ins k v t))
    rw [ins_insAll M t (h (k, v) List.mem_cons_self), insAll_comm L M _ fun p hp => h p (List.mem_cons_of_mem _ hp)]
theorem get_insAll {α : Type} {k : Nat} : ∀ (L : List (Nat × α)) (t : List (Nat × α)), (∀ p ∈ L, p.1 ≠ k) → get (insAll L t) k = get t k
  | [], t, _ => rfl
  | (n, v) :: L, t, h => by
    show get (insAll L (ins n v t)) k = get t k
    rw [get_insAll L _ fun p hp => h p (List.mem_cons_of_mem _ hp), get_ins, if_neg (Ne.symm (h (n, v) List.mem_cons_self))]
theorem keys_ins {α : Type} (n : Nat) (x : α) : ∀ (l : List (Nat × α)) (k : Nat), (∃ v, (k, v) ∈ ins n x l) ↔ k = n ∨ ∃ v, (k, v) ∈ l
  | [], k => by simp [ins]
  | (m, y) :: l, k => by
    have ih := keys_ins n x l k
    rw [ins_cons]
    split
    · constructor
      · rintro ⟨v, hv⟩
        rcases List.mem_cons.1 hv with e | hv
        · exact .inl (Prod.mk.inj e).1
        · exact .inr ⟨v, hv⟩
      · rintro (rfl | ⟨v, hv⟩)
        · exact ⟨x, List.mem_cons_self⟩
        · exact ⟨v, List.mem_cons_of_mem _ hv⟩
    · split
      · rename_i e
        constructor
        · rintro ⟨v, hv⟩
          rcases List.mem_cons.1 hv with e | hv
          · exact .inl (Prod.mk.inj e).1
          · exact .inr ⟨v, List.mem_cons_of_mem _ hv⟩
        · rintro (rfl | ⟨v, hv⟩)
          · exact ⟨x, List.mem_cons_self⟩
          · rcases List.mem_cons.1 hv with e' | hv
            · exact ⟨x, by rw [(Prod.mk.inj e').1, e]; exact List.mem_cons_self⟩
            · exact ⟨v, List.mem_cons_of_mem _ hv⟩
      · constructor
        · rintro ⟨v, hv⟩
          rcases List.mem_cons.1 hv with e | hv
          · exact .inr ⟨y, by rw [(Prod.mk.inj e).1]; exact List.mem_cons_self⟩
          · exact (ih.1 ⟨v, hv⟩).imp id fun ⟨v, hv⟩ => ⟨v, List.mem_cons_of_mem _ hv⟩
        · rintro (e | ⟨v, hv⟩)
          · obtain ⟨v, hv⟩ := ih.2 (.inl e); exact ⟨v, List.mem_cons_of_mem _ hv⟩
          · rcases List.mem_cons.1 hv with e' | hv
            · exact ⟨y, by rw [(Prod.mk.inj e').1]; exact List.mem_cons_self⟩
            · obtain ⟨v, hv⟩ := ih.2 (.inr ⟨v, hv⟩); exact ⟨v, List.mem_cons_of_mem _ hv⟩
theorem keys_insAll {α : Type} : ∀ (L : List (Nat × α)) (l : List (Nat × α)) (k : Nat), (∃ v, (k, v) ∈ insAll L l) ↔ (∃ v, (k, v) ∈ L) ∨ ∃ v, (k, v) ∈ l
  | [], l, k => by simp [insAll]
  | (n, x) :: L, l, k => by
    show (∃ v, (k, v) ∈ insAll L (ins n x l)) ↔ _
    rw [keys_insAll L, keys_ins]
    constructor
    · rintro (⟨v, hv⟩ | rfl | ⟨v, hv⟩)
      · exact .inl ⟨v, List.mem_cons_of_mem _ hv⟩
      · exact .inl ⟨x, List.mem_cons_self⟩
      · exact .inr ⟨v, hv⟩
    · rintro (⟨v, hv⟩ | ⟨v, hv⟩)
      · rcases List.mem_cons.1 hv with e | hv
        · exact .inr (.inl (Prod.mk.inj e).1)
        · exact .inl ⟨v, hv⟩
      · exact .inr (.inr ⟨v, hv⟩)

/-! ### what is told anew -/
structure Delta where
  tmps : List (Nat × AVal)
  boxes : List (Nat × Box)
  regs : List (Nat × Reg)
def Delta.app (D : Delta) (s : St) : St := ⟨insAll D.tmps s.tmps, insAll D.boxes s.boxes, insAll D.regs s.regs⟩
def dl (d : Option Tmp) (v : AVal) : List (Nat × AVal) := match d with | some d => [(d, v)] | none => []
theorem app_put (d : Option Tmp) (v : AVal) (s : St) : (Delta.mk (dl d v) [] []).app s = s.put d v := by cases d <;> rfl

/-! ### cells of what is there -/
def OkC (s : St) (c : Cell) : Prop := (∀ r, c.of = some r → (s.reg r).isSome = true) ∧ (∀ b o, c = .ptr b o → (get s.boxes b).isSome = true) ∧ ∀ f caps, c = .fn f caps → ∀ b ∈ caps, (get s.boxes b).isSome = true
structure Closed (s : St) : Prop where
  tmp : ∀ t v, get s.tmps t = some v → ∀ c ∈ v.cells, OkC s c
  box : ∀ b x, get s.boxes b = some x → ∀ c ∈ x.cells, OkC s c
section
variable {C : Ctx} {G : Gh} {s s1 : St} {a : Act} {w : World} {E : Env}
theorem Cells.each {R : Nat → Option Reg} : ∀ {cs : List Cell} {vs : List Value}, Cells G R w cs vs → ∀ c ∈ cs, ∃ v, CRep G R w c v
  | [], _, _, c, hc => by cases hc
  | x :: l, _, h, c, hc => by
    obtain ⟨v, vl, _, h1, h2⟩ := h
    rcases List.mem_cons.1 hc with rfl | hc
    · exact ⟨v, h1⟩
    · exact h2.each c hc
theorem KRep.each {R : Nat → Option Reg} {x : Comp} {v : Value} (h : KRep G R w x v) : ∀ c ∈ x.cells, ∃ v, CRep G R w c v := by
  cases x with
  | one x => intro c hc; obtain rfl : c = x := by simpa [Comp.cells] using hc
             exact ⟨v, h⟩
  | agg cs => obtain ⟨arr, _, h⟩ := h; exact h.each
theorem Comps.each {R : Nat → Option Reg} : ∀ {l : List Comp} {vs : List Value}, Comps G R w l vs → ∀ x ∈ l, ∃ v, KRep G R w x v
  | [], _, _, c, hc => by cases hc
  | x :: l, _, h, c, hc => by
    obtain ⟨v, vl, _, h1, h2⟩ := h
    rcases List.mem_cons.1 hc with rfl | hc
    · exact ⟨v, h1⟩
    · exact h2.each c hc
theorem ARep.each {R : Nat → Option Reg} {x : AVal} {v : Value} (h : ARep G R w x v) : ∀ c ∈ x.cells, ∃ v, CRep G R w c v := by
  cases x with
  | cp x => exact KRep.each h
  | tup l =>
    obtain ⟨vs, _, h⟩ := h
    intro c hc
    obtain ⟨x, hx, hc⟩ := List.mem_flatMap.1 hc
    obtain ⟨v, hv⟩ := h.each x hx
    exact hv.each c hc
  | bad => intro c hc; cases hc
  | und => intro c hc; cases hc
theorem Inv.okc (h : Inv C G s a w) {c : Cell} {v : Value} (hc : CRep G s.reg w c v) : OkC s c := by
  refine ⟨fun r hr => hc.has hr, fun b o e => ?_, fun f caps e b hb => ?_⟩
  · subst e; exact h.pb b hc.1
  · subst e; exact h.pb b (hc.1 b hb)
theorem Inv.closed (h : Inv C G s a w) : Closed s := by
  refine ⟨fun t v hv c hc => ?_, fun b x hb c hc => ?_⟩
  · obtain ⟨u, hu⟩ := (h.tmp t v hv).each c hc; exact h.okc hu
  · obtain ⟨arr, _, h2⟩ := h.box b x hb
    obtain ⟨u, hu⟩ := h2.each c hc; exact h.okc hu

/-! ### what is looked up -/
structure Le (s s1 : St) (T : Tmp → Prop) : Prop where
  tmp : ∀ t, T t → get s1.tmps t = get s.tmps t
  box : ∀ b x, get s.boxes b = some x → get s1.boxes b = some x
  reg : ∀ r g, s.reg r = some g → s1.reg r = some g
variable {T : Tmp → Prop}
theorem Le.boxE (h : Le s s1 T) {b : Nat} (hb : (get s.boxes b).isSome = true) : get s1.boxes b = get s.boxes b := by
  obtain ⟨x, hx⟩ := Option.isSome_iff_exists.1 hb
  rw [hx, h.box b x hx]
theorem Le.regE (h : Le s s1 T) {r : Nat} (hr : (s.reg r).isSome = true) : s1.reg r = s.reg r := by
  obtain ⟨x, hx⟩ := Option.isSome_iff_exists.1 hr
  rw [hx, h.reg r x hx]
theorem Le.opnd (h : Le s s1 T) {t : TypeId} {x : Operand} (hT : ∀ u, x = .tmp u → T u) : s1.opnd E t x = s.opnd E t x := by
  cases x with
  | tmp n => simp only [St.opnd, h.tmp n (hT n rfl)]
  | _ => rfl
theorem constCells_plain : ∀ {u : Ty} {l : List Value} {cs : List Cell} {rest : List Value}, constCells u l = some (cs, rest) → ∀ c ∈ cs, c.of = none ∧ OkC s c
  | .int k, l, cs, rest, h => by
    rcases l with _ | ⟨v, l⟩
    · simp [constCells] at h
    cases v <;> simp only [constCells] at h <;> try cases h
    rename_i k' n
    by_cases e : k = k'
    · subst e
      simp at h
      obtain ⟨rfl, rfl⟩ := h
      intro c hc
      obtain rfl := List.mem_singleton.1 hc
      exact ⟨rfl, fun r hr => (by cases hr), fun b o e => (by cases e), fun f caps e => (by cases e)⟩
    · simp [e] at h
  | .bool, l, cs, rest, h => by
    rcases l with _ | ⟨v, l⟩
    · simp [constCells] at h
    cases v <;> simp only [constCells] at h <;> try cases h
    intro c hc
    obtain rfl := List.mem_singleton.1 hc
    exact ⟨rfl, fun r hr => (by cases hr), fun b o e => (by cases e), fun f caps e => (by cases e)⟩
  | .str, l, cs, rest, h => by
    rcases l with _ | ⟨v, l⟩
    · simp [constCells] at h
    cases v <;> simp only [constCells] at h <;> try cases h
    intro c hc
    obtain rfl := List.mem_singleton.1 hc
    exact ⟨rfl, fun r hr => (by cases hr), fun b o e => (by cases e), fun f caps e => (by cases e)⟩
  | .sl e t, l, cs, rest, h => by
    have key : cs = [.nil e t] := by
      unfold constCells at h
      split at h <;> simp_all
    subst key
    intro c hc
    obtain rfl := List.mem_singleton.1 hc
    exact ⟨rfl, fun r hr => (by cases hr), fun b o e => (by cases e), fun f caps e => (by cases e)⟩
  | .unit, l, cs, rest, h => by
    unfold constCells at h
    obtain ⟨rfl, _⟩ : [] = cs ∧ l = rest := by simpa using h
    intro c hc; cases hc
  | .opq, l, cs, rest, h => by unfold constCells at h; cases h
  | .pair a b, l, cs, rest, h => by
    unfold constCells at h
    split at h
    · rename_i x l' hx
      split at h
      · rename_i y l'' hy
        simp only [Option.some.injEq, Prod.mk.injEq] at h
        obtain ⟨rfl, _⟩ := h
        intro c hc
        rcases List.mem_append.1 hc with hc | hc
        · exact constCells_plain hx c hc
        · exact constCells_plain hy c hc
      · cases h
    · cases h
theorem constVal_plain {t : TypeId} {v : Value} {x : AVal} (h : constVal E t v = some x) : ∀ c ∈ x.cells, c.of = none ∧ OkC s c := by
  have one : ∀ {c : Cell}, c.of = none → (∀ b o, c ≠ .ptr b o) → (∀ f caps, c = .fn f caps → caps = []) → ∀ c' ∈ (AVal.c c).cells, c'.of = none ∧ OkC s c' := by
    intro c h1 h2 h3 c' hc
    obtain rfl := List.mem_singleton.1 hc
    exact ⟨h1, fun r hr => (by rw [h1] at hr; cases hr), fun b o e => absurd e (h2 b o), fun f caps e b hb => (by rw [h3 f caps e] at hb; cases hb)⟩
  unfold constVal at h
  split at h
  · obtain rfl := Option.some.inj h; exact one rfl (fun _ _ e => by cases e) (fun _ _ e => by cases e)
  · obtain rfl := Option.some.inj h; exact one rfl (fun _ _ e => by cases e) (fun _ _ e => by cases e)
  · obtain rfl := Option.some.inj h; exact one rfl (fun _ _ e => by cases e) (fun _ _ e => by cases e)
  · split at h
    · obtain rfl := Option.some.inj h; exact one rfl (fun _ _ e => by cases e) (fun _ _ e => by cases e)
    · cases h
  · split at h
    · split at h
      · rename_i hx
        obtain rfl := Option.some.inj h
        exact constCells_plain hx
      · cases h
    · cases h
  · rename_i f first caps
    cases hb : (first.size == 0 && caps.size == 0) with
    | false => rw [hb] at h; cases h
    | true =>
      rw [hb] at h
      obtain rfl := Option.some.inj h
      exact one rfl (fun _ _ e => by cases e) (fun f' caps' e => by injection e with _ e; exact e.symm)
  · cases h
theorem Closed.opnd (hc : Closed s) {t : TypeId} {x : Operand} {v : AVal} (h : s.opnd E t x = some v) : ∀ c ∈ v.cells, OkC s c := by
  cases x with
  | tmp n =>
    simp only [St.opnd] at h
    split at h
    · rename_i c hg
      obtain rfl := Option.some.inj h; exact hc.tmp n _ hg
    · rename_i l hg
      obtain rfl := Option.some.inj h; exact hc.tmp n _ hg
    · cases h
  | const v => exact fun c hcm => (constVal_plain h c hcm).2
  | func f =>
    unfold St.opnd at h
    obtain rfl := Option.some.inj h
    intro c hcm
    obtain rfl := List.mem_singleton.1 hcm
    exact ⟨fun r hr => (by cases hr), fun b o e => (by cases e), fun f' caps e b hb => (by injection e with _ e; rw [← e] at hb; cases hb)⟩
  | global _ => cases h
theorem Closed.cell (hc : Closed s) {t : TypeId} {x : Operand} {c : Cell} (h : cell? (s.opnd E t x) = some c) : OkC s c := by
  unfold cell? at h
  split at h
  · rename_i c' hv
    obtain rfl := Option.some.inj h
    exact hc.opnd hv c' (by simp [AVal.cells, Comp.cells])
  · cases h
theorem Closed.cells (hc : Closed s) {t : TypeId} {x : Operand} {cs : List Cell} (h : cells? (s.opnd E t x) = some cs) : ∀ c ∈ cs, OkC s c := by
  unfold cells? at h
  split at h
  · rename_i c' hv
    obtain rfl := Option.some.inj h
    exact hc.opnd hv
  · cases h
theorem Le.slice (h : Le s s1 T) {c : Cell} (hc : OkC s c) : s1.slice c = s.slice c := by
  cases c with
  | own r => simp only [St.slice, h.regE (hc.1 r rfl)]
  | sub r z lo n => simp only [St.slice, h.regE (hc.1 r rfl)]
  | inn r i off e t => simp only [St.slice, h.regE (hc.1 r rfl)]
  | _ => rfl
theorem read_sub : ∀ {t : Ty} {l : List Cell} {x : t.den} {l' : List Cell}, s.read t l = some (x, l') → ∀ c ∈ l', c ∈ l
  | .int k, l, x, l', h => by
    rcases l with _ | ⟨v, l⟩
    · simp [St.read] at h
    cases v <;> simp only [St.read] at h <;> try cases h
    rename_i k' n
    by_cases e : k = k'
    · subst e
      simp at h
      obtain ⟨_, rfl⟩ := h
      exact fun c hc => List.mem_cons_of_mem _ hc
    · simp [e] at h
  | .bool, l, x, l', h => by
    rcases l with _ | ⟨v, l⟩
    · simp [St.read] at h
    cases v <;> simp only [St.read] at h <;> try cases h
    exact fun c hc => List.mem_cons_of_mem _ hc
  | .str, l, x, l', h => by
    rcases l with _ | ⟨v, l⟩
    · simp [St.read] at h
    cases v <;> simp only [St.read] at h <;> try cases h
    exact fun c hc => List.mem_cons_of_mem _ hc
  | .sl e t, l, x, l', h => by
    cases l with
    | nil => simp [St.read] at h
    | cons c l =>
      simp only [St.read] at h
      split at h
      · rename_i e' t' xs hs
        cases hb : (e == e') with
        | false => rw [hb] at h; cases h
        | true =>
          rw [hb] at h
          simp only [cond_true, Option.map_eq_some_iff] at h
          obtain ⟨y, _, e⟩ := h
          obtain ⟨_, rfl⟩ := Prod.mk.inj e
          exact fun c hc => List.mem_cons_of_mem _ hc
      · cases h
  | .unit, l, x, l', h => by
    unfold St.read at h
    obtain ⟨_, rfl⟩ := Prod.mk.inj (Option.some.inj h)
    exact fun c hc => hc
  | .opq, l, x, l', h => by unfold St.read at h; cases h
  | .pair a b, l, x, l', h => by
    unfold St.read at h
    split at h
    · rename_i y l1 hy
      split at h
      · rename_i z l2 hz
        obtain ⟨_, rfl⟩ := Prod.mk.inj (Option.some.inj h)
        exact fun c hc => read_sub hy c (read_sub hz c hc)
      · cases h
    · cases h
theorem read_congr : ∀ {t : Ty} {l : List Cell}, (∀ c ∈ l, s1.slice c = s.slice c) → s1.read t l = s.read t l
  | .int k, l, h => by cases l with
    | nil => rfl
    | cons c l => cases c <;> rfl
  | .bool, l, h => by cases l with
    | nil => rfl
    | cons c l => cases c <;> rfl
  | .str, l, h => by cases l with
    | nil => rfl
    | cons c l => cases c <;> rfl
  | .sl e t, l, h => by
    cases l with
    | nil => rfl
    | cons c l => simp only [St.read, h c List.mem_cons_self]
  | .unit, l, h => rfl
  | .opq, l, h => rfl
  | .pair a b, l, h => by
    simp only [St.read, read_congr (t := a) h]
    cases ha : s.read a l with
    | none => rfl
    | some p =>
      obtain ⟨x, l'⟩ := p
      simp only []
      rw [read_congr (t := b) fun c hc => h c (read_sub ha c hc)]
theorem Le.read (h : Le s s1 T) {t : Ty} {l : List Cell} (hc : ∀ c ∈ l, OkC s c) : s1.read t l = s.read t l := read_congr fun c hm => h.slice (hc c hm)
theorem Le.readMany (h : Le s s1 T) {t : Ty} : ∀ {n : Nat} {l : List Cell}, (∀ c ∈ l, OkC s c) → readMany s1 t n l = readMany s t n l
  | 0, l, hc => rfl
  | n + 1, l, hc => by
    simp only [Vc.readMany, h.read hc]
    cases hr : s.read t l with
    | none => rfl
    | some p =>
      obtain ⟨x, l'⟩ := p
      simp only []
      rw [Le.readMany h fun c hm => hc c (read_sub hr c hm)]
theorem OkC.plain {c : Cell} (h1 : c.of = none) (h2 : ∀ b o, c ≠ .ptr b o) (h3 : ∀ f caps, c ≠ .fn f caps) : OkC s c :=
  ⟨fun r hr => (by rw [h1] at hr; cases hr), fun b o e => absurd e (h2 b o), fun f caps e => absurd e (h3 f caps)⟩
theorem zcells_ok : ∀ (t : Ty), ∀ c ∈ zcells t, OkC s c
  | .int k, c, hc => by obtain rfl := List.mem_singleton.1 hc; exact .plain rfl (fun _ _ e => by cases e) (fun _ _ e => by cases e)
  | .bool, c, hc => by obtain rfl := List.mem_singleton.1 hc; exact .plain rfl (fun _ _ e => by cases e) (fun _ _ e => by cases e)
  | .str, c, hc => by obtain rfl := List.mem_singleton.1 hc; exact .plain rfl (fun _ _ e => by cases e) (fun _ _ e => by cases e)
  | .sl _ _, c, hc => by obtain rfl := List.mem_singleton.1 hc; exact .plain rfl (fun _ _ e => by cases e) (fun _ _ e => by cases e)
  | .unit, c, hc => by cases hc
  | .opq, c, hc => by obtain rfl := List.mem_singleton.1 hc; exact .plain rfl (fun _ _ e => by cases e) (fun _ _ e => by cases e)
  | .pair a b, c, hc => by
    rcases List.mem_append.1 hc with hc | hc
    · exact zcells_ok a c hc
    · exact zcells_ok b c hc
theorem zmanyC (t : Ty) : ∀ (n : Nat), ∀ c ∈ zmany t n, OkC s c
  | 0, c, hc => by cases hc
  | n + 1, c, hc => by
    rcases List.mem_append.1 hc with hc | hc
    · exact zcells_ok t c hc
    · exact zmanyC t n c hc
theorem putCells_mem {cs new cs' : List Cell} {off size : Nat} (h : putCells cs off size new = some cs') : ∀ c ∈ cs', c ∈ cs ∨ c ∈ new := by
  unfold putCells at h
  cases hb : (new.length == size && Nat.ble (off + size) cs.length) with
  | false => rw [hb] at h; cases h
  | true =>
    rw [hb] at h
    obtain rfl := Option.some.inj h
    intro c hc
    simp only [splice, List.mem_append] at hc
    rcases hc with (hc | hc) | hc
    · exact .inl (List.mem_of_mem_take hc)
    · exact .inr hc
    · exact .inl (List.mem_of_mem_drop hc)
theorem Le.fillCells (h : Le s s1 T) {size : Nat} {te : TypeId} : ∀ {ps : List (Nat × Operand)} {cs : List Cell}, (∀ p ∈ ps, ∀ u, p.2 = .tmp u → T u) → fillCells size s1 E te ps cs = fillCells size s E te ps cs
  | [], cs, _ => rfl
  | (i, x) :: l, cs, hT => by
    simp only [Vc.fillCells, h.opnd (hT (i, x) List.mem_cons_self)]
    have ih := fun cs => Le.fillCells h (size := size) (te := te) (ps := l) (cs := cs) fun p hp => hT p (List.mem_cons_of_mem _ hp)
    simp only [ih]
theorem fillCells_ok (hc : Closed s) {size : Nat} {te : TypeId} : ∀ {ps : List (Nat × Operand)} {cs cs' : List Cell}, (∀ c ∈ cs, OkC s c) → fillCells size s E te ps cs = some cs' → ∀ c ∈ cs', OkC s c
  | [], cs, cs', h0, h => by obtain rfl := Option.some.inj h; exact h0
  | (i, x) :: l, cs, cs', h0, h => by
    simp only [Vc.fillCells] at h
    split at h
    · rename_i c hx
      split at h
      · rename_i cs1 hp
        refine fillCells_ok hc (ps := l) (fun c' hc' => ?_) h
        rcases putCells_mem hp c' hc' with hm | hm
        · exact h0 c' hm
        · exact hc.opnd hx c' hm
      · cases h
    · cases h
theorem Le.fillFields (h : Le s s1 T) {fl : List (Nat × TypeId)} : ∀ {ps : List (Nat × Operand)} {cs : List Cell}, (∀ p ∈ ps, ∀ u, p.2 = .tmp u → T u) → fillFields s1 E fl ps cs = fillFields s E fl ps cs
  | [], cs, _ => rfl
  | (i, x) :: l, cs, hT => by
    have ih := fun cs => Le.fillFields h (fl := fl) (ps := l) (cs := cs) fun p hp => hT p (List.mem_cons_of_mem _ hp)
    have e := fun te => Le.opnd (E := E) h (t := te) (hT (i, x) List.mem_cons_self)
    simp only [] at e
    simp only [Vc.fillFields, e, ih]
theorem Le.capsOf (h : Le s s1 T) : ∀ {l : List Operand}, (∀ x ∈ l, ∀ u, x = .tmp u → T u) → capsOf E s1 l = capsOf E s l
  | [], _ => rfl
  | x :: l, hT => by simp only [Vc.capsOf, h.opnd (hT x List.mem_cons_self), Le.capsOf h fun y hy => hT y (List.mem_cons_of_mem _ hy)]
theorem Le.numsOf (h : Le s s1 T) {t : TypeId} : ∀ {l : List Operand}, (∀ x ∈ l, ∀ u, x = .tmp u → T u) → numsOf E s1 t l = numsOf E s t l
  | [], _ => rfl
  | x :: l, hT => by simp only [Vc.numsOf, h.opnd (hT x List.mem_cons_self), Le.numsOf h fun y hy => hT y (List.mem_cons_of_mem _ hy)]
theorem Le.opnds (h : Le s s1 T) : ∀ {l : List Operand} {ts : List TypeId}, (∀ x ∈ l, ∀ u, x = .tmp u → T u) → opnds E s1 l ts = opnds E s l ts
  | [], _, _ => rfl
  | x :: l, ts, hT => by simp only [Vc.opnds, h.opnd (hT x List.mem_cons_self), Le.opnds h fun y hy => hT y (List.mem_cons_of_mem _ hy)]
theorem Le.optInt (h : Le s s1 T) {x : Option Operand} {d : Int} (hT : ∀ y, x = some y → ∀ u, y = .tmp u → T u) : optInt E s1 x d = optInt E s x d := by
  cases x with
  | none => rfl
  | some y => simp only [Vc.optInt, h.opnd (hT y rfl)]
end

end Go.Proofs.Ytigkodlbjimikaa.Vc
