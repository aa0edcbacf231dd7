/- The run: an operation, a call among them, and the operations of a region one behind the other. -/
import Derived.Test.YtigkodlbjimikaaVcZd
namespace Go.Proofs.Ytigkodlbjimikaa.Vc
open Go Go.RowKit
set_option linter.unusedVariables false
set_option linter.unusedSimpArgs false

/-- An operation, a call among them, is done. -/
inductive Does (V : Prog) (rf : CallF V) (s : St) (o : Oper) : St → Prop where
  | op {s' : St} : isCall o = false → astep V.E V.H s o = some (true, s') → Does V rf s o s'
  | call {c : Go.Call} {f : FuncId} {as : List AVal} {ci : Nat} {g : Sig} {x : (V.sig ci).arg} {own lent back : List Nat} {r : (V.sig ci).ans} : o.op = .call c → isCall o = true → callee V.E s c = some (f, as) → find V.S f as 0 = some (ci, g) → inPars s (V.sig ci).pars as = some (x, own, lent, back) →
      (nodup (own ++ boxesOf as) && noneOf own lent && labsFree (dstOr o.dst) (ready (V.sig ci) s own lent back)) = true → rf ci x = some r → Does V rf s o (after (V.sig ci) o.dst (ready (V.sig ci) s own lent back) as r)
theorem doOp_does {V : Prog} {rf : CallF V} {α : Type} {s : St} {o : Oper} {next : St → Option α} {r : α} (h : doOp V rf s o next = some r) : ∃ s', Does V rf s o s' ∧ next s' = some r := by
  have plain : isCall o = false → (match astep V.E V.H s o with | some (q, s') => bif q then next s' else none | none => none) = some r → ∃ s', Does V rf s o s' ∧ next s' = some r := by
    intro hc h
    split at h
    · rename_i q s' hs
      cases q with
      | false => cases h
      | true => exact ⟨s', .op hc hs, h⟩
    · cases h
  unfold doOp at h
  split at h
  · rename_i c hc
    obtain ⟨callee_, args, argTypes⟩ := c
    have iscall : (∀ b, callee_ ≠ .builtin b) → isCall o = true := by
      intro hb
      unfold isCall
      rw [hc]
      cases callee_ with
      | builtin b => exact absurd rfl (hb b)
      | _ => rfl
    split at h
    · rename_i b hb
      refine plain ?_ h
      obtain rfl : callee_ = .builtin b := hb
      unfold isCall; rw [hc]
    · rename_i hnb
      split at h
      · rename_i f as hcal
        split at h
        · rename_i ci g hfind
          split at h
          · rename_i x own lent back hin
            cases hchk : (nodup (own ++ boxesOf as) && noneOf own lent && labsFree (dstOr o.dst) (ready (V.sig ci) s own lent back)) with
            | false => rw [hchk] at h; cases h
            | true =>
              rw [hchk] at h
              simp only [cond_true] at h
              cases hr : rf ci x with
              | none => rw [hr] at h; cases h
              | some y =>
                rw [hr] at h
                exact ⟨_, .call hc (iscall fun b hb => hnb b hb) hcal hfind hin hchk hr, h⟩
          · cases h
        · cases h
      · cases h
  · rename_i hno
    refine plain ?_ h
    unfold isCall
    split
    · rfl
    · rename_i c _ hc; exact absurd hc (hno c)
    · rfl
/-- One of a region's operations is done or passed over. -/
def Step_ (V : Prog) (rf : CallF V) (nt : Nat) (ops : Array Oper) (draw : Bool) (lone : Nat → Bool × Bool) (j : Nat) (s s' : St) : Prop :=
  ∃ o, ops[j]? = some o ∧ dstOk nt o = true ∧
    ((o.guard = none ∧ (!draw || tagOk V s o (lone j)) = true ∧ Does V rf s o s') ∨
      ∃ g want d, o.guard = some (g, want) ∧ (ops[g]?).bind (·.dst) = some d ∧
        ((get s.tmps d = some (.c (.bool want)) ∧ (!draw || tagOk V (s.put (some d) (.c (.bool want))) o (lone j)) = true ∧ Does V rf (s.put (some d) (.c (.bool want))) o s') ∨
          (get s.tmps d = some (.c (.bool (!want))) ∧ s' = (s.put (some d) (.c (.bool (!want)))).put o.dst .und) ∨
          (get s.tmps d = some .und ∧ s' = s.put o.dst .und)))
def Chain (V : Prog) (rf : CallF V) (nt : Nat) (ops : Array Oper) (draw : Bool) (lone : Nat → Bool × Bool) : List Nat → St → St → Prop
  | [], s, s' => s = s'
  | j :: l, s, s' => ∃ s1, Step_ V rf nt ops draw lone j s s1 ∧ Chain V rf nt ops draw lone l s1 s'
theorem runOps_chain {V : Prog} {rf : CallF V} {nt : Nat} {ops : Array Oper} {draw : Bool} {lone : Nat → Bool × Bool} {α : Type} {next : St → Option α} {r : α} : ∀ (l : List Nat) (s : St), runOps V rf nt ops draw lone l s next = some r → ∃ s', Chain V rf nt ops draw lone l s s' ∧ next s' = some r
  | [], s, h => ⟨s, rfl, h⟩
  | j :: l, s, h => by
    unfold runOps at h
    split at h
    · cases h
    · rename_i o ho
      cases hd : dstOk nt o with
      | false => rw [hd] at h; cases h
      | true =>
        rw [hd] at h
        simp only [cond_true] at h
        split at h
        · rename_i g want hg
          split at h
          · rename_i d hgd
            split at h
            · rename_i q hq
              cases hw : (bif want then q else not_ q) with
              | true =>
                rw [hw] at h
                simp only [cond_true] at h
                obtain rfl : q = want := by cases want <;> cases q <;> first | rfl | cases hw
                cases hck : (!draw || tagOk V (s.put (some d) (.c (.bool q))) o (lone j)) with
                | false => rw [hck] at h; cases h
                | true =>
                  rw [hck] at h
                  obtain ⟨s1, h1, h2⟩ := doOp_does h
                  obtain ⟨s', h3, h4⟩ := runOps_chain l s1 h2
                  exact ⟨s', ⟨s1, ⟨o, ho, hd, .inr ⟨g, q, d, hg, hgd, .inl ⟨hq, hck, h1⟩⟩⟩, h3⟩, h4⟩
              | false =>
                rw [hw] at h
                simp only [cond_false] at h
                obtain rfl : q = !want := by cases want <;> cases q <;> first | rfl | cases hw
                obtain ⟨s', h3, h4⟩ := runOps_chain l _ h
                exact ⟨s', ⟨_, ⟨o, ho, hd, .inr ⟨g, want, d, hg, hgd, .inr (.inl ⟨hq, rfl⟩)⟩⟩, h3⟩, h4⟩
            · rename_i hq
              obtain ⟨s', h3, h4⟩ := runOps_chain l _ h
              exact ⟨s', ⟨_, ⟨o, ho, hd, .inr ⟨g, want, d, hg, hgd, .inr (.inr ⟨hq, rfl⟩)⟩⟩, h3⟩, h4⟩
            · cases h
          · cases h
        · rename_i hg
          cases hck : (!draw || tagOk V s o (lone j)) with
          | false => rw [hck] at h; cases h
          | true =>
            rw [hck] at h
            obtain ⟨s1, h1, h2⟩ := doOp_does h
            obtain ⟨s', h3, h4⟩ := runOps_chain l s1 h2
            exact ⟨s', ⟨s1, ⟨o, ho, hd, .inl ⟨hg, hck, h1⟩⟩, h3⟩, h4⟩

/-! ### the machine -/
/-- What is asked of a signature. -/
def sigOk (g : Sig) : Bool := Nat.ble g.pars.length 1000 && (g.pars.all fun p => match p with
  | .box _ sh _ => Nat.ble sh.length 1000
  | .agg sh => Nat.ble sh.length 1000
  | .fn _ caps => caps.isEmpty
  | _ => true) && Nat.ble (resLen g.res + outLen g.pars) 1000
structure ProgOk (P : Program) (V : Prog) : Prop where
  env : EnvOk P V.E
  mixed : P.follows .mixedOrders = true
  sigs : V.S.all sigOk = true
/-- What is called does what it is read to do. -/
def CallsOk (P : Program) (V : Prog) (rf : CallF V) : Prop := ∀ ci x r, rf ci x = some r → CallSpec P (V.sig ci) x r ∧ ∃ fn c, get V.E.funcs (V.sig ci).f = some fn ∧ fn.body = some c
theorem ProgOk.sig {P : Program} {V : Prog} (hV : ProgOk P V) (i : Nat) : sigOk (V.sig i) = true := by
  show sigOk (V.S.getD i noSig) = true
  rw [List.getD_eq_getElem?_getD]
  cases h : V.S[i]? with
  | none => rfl
  | some g => exact List.all_eq_true.1 hV.sigs g (List.mem_of_getElem? h)
theorem find_sig {f : FuncId} {as : List AVal} : ∀ {S : List Sig} {i j : Nat} {g : Sig}, find S f as i = some (j, g) → i ≤ j ∧ S[j - i]? = some g ∧ g.f = f
  | [], i, j, g, h => by cases h
  | g0 :: l, i, j, g, h => by
    replace h : (bif g0.f == f && fits g0.pars as then some (i, g0) else find l f as (i + 1)) = some (j, g) := h
    cases hb : (g0.f == f && fits g0.pars as) with
    | true =>
      rw [hb] at h
      simp only [cond_true, Option.some.injEq, Prod.mk.injEq] at h
      obtain ⟨rfl, rfl⟩ := h
      simp only [Bool.and_eq_true, beq_iff_eq] at hb
      exact ⟨Nat.le_refl _, by simp, hb.1⟩
    | false =>
      rw [hb] at h
      obtain ⟨h1, h2, h3⟩ := find_sig (S := l) (i := i + 1) h
      refine ⟨by omega, ?_, h3⟩
      rw [show j - i = (j - (i + 1)) + 1 by omega]
      simpa using h2
section
variable {P : Program} {V : Prog} {C : Ctx} {G : Gh} {s : St} {a : Act} {w : World} {rf : CallF V} {nt : Nat} {ops : Array Oper} {draw : Bool} {lone_ : Nat → Bool × Bool} {b : Frame} {k : List Item} {cs : List Frame}
theorem step_value {i : Nat} {rest : List Nat} {o : Oper} {v : Value} {w' : World} (ho : ops[i]? = some o) (hw : Region.wanted o (yielded ops a.tmps) = true) (hr : (execOp a.eval o).run P w = .ok (.value v) w') :
    step P (lone (b.at a (.inRegion ops (i :: rest) :: k)) cs w) = .next (lone (b.at (a.put o.dst v) (.inRegion ops rest :: k)) cs w') := by
  have hg := stepG_op (P := P) (b := b) (k := k) (cs := cs) (w := w) (rest := rest) ho hw
  have hfin : (b.at a (.inRegion ops (i :: rest) :: k)).finish v = b.at (a.put o.dst v) (.inRegion ops rest :: k) := by rw [Frame.finish_at, ho]; rfl
  refine step_lone_go ?_
  rw [hg, ← hfin]; simp [stepG.apply, hr]
theorem step_none {i : Nat} {rest : List Nat} {o : Oper} {w' : World} (ho : ops[i]? = some o) (hw : Region.wanted o (yielded ops a.tmps) = true) (hr : (execOp a.eval o).run P w = .ok .skip w') :
    step P (lone (b.at a (.inRegion ops (i :: rest) :: k)) cs w) = .next (lone (b.at (a.put o.dst undef) (.inRegion ops rest :: k)) cs w') := by
  have hg := stepG_op (P := P) (b := b) (k := k) (cs := cs) (w := w) (rest := rest) ho hw
  have hfin : (b.at a (.inRegion ops (i :: rest) :: k)).finish undef = b.at (a.put o.dst undef) (.inRegion ops rest :: k) := by rw [Frame.finish_at, ho]; rfl
  refine step_lone_go ?_
  rw [hg, ← hfin]; simp [stepG.apply, hr]
theorem step_enter {i : Nat} {rest : List Nat} {o : Oper} {f : FuncId} {args : Array Value} (ho : ops[i]? = some o) (hw : Region.wanted o (yielded ops a.tmps) = true) (hr : (execOp a.eval o).run P w = .ok (.enter f args) w) :
    step P (lone (b.at a (.inRegion ops (i :: rest) :: k)) cs w) = .next (lone (Frame.enter P f args .normal) (b.at a (.inRegion ops (i :: rest) :: k) :: cs) w) := by
  have hg := stepG_op (P := P) (b := b) (k := k) (cs := cs) (w := w) (rest := rest) ho hw
  exact step_lone_go (by rw [hg]; simp [stepG.apply, hr, Frame.at])
/-- An operation's step, whatever it is. -/
theorem does_ok (hV : ProgOk P V) (hrf : CallsOk P V rf) (h : Inv C G s a w) {o : Oper} (hd : ∀ t, o.dst = some t → t < C.nt) {s' : St} (hs : Does V rf s o s') {i : Nat} {rest : List Nat} (ho : ops[i]? = some o) (hw : Region.wanted o (yielded ops a.tmps) = true) :
    ∃ a' w' G', Steps P (lone (b.at a (.inRegion ops (i :: rest) :: k)) cs w) (lone (b.at a' (.inRegion ops rest :: k)) cs w') ∧ Inv C G' s' a' w' := by
  cases hs with
  | op hc hs =>
    obtain ⟨v, w', G', hr, hi⟩ := astep_ok hV.env h hd hs rfl
    rcases hr with hr | ⟨hr, rfl⟩
    · exact ⟨_, w', G', .one (step_value ho hw hr), hi⟩
    · exact ⟨_, w', G', .one (step_none ho hw hr), hi⟩
  | @call c f as ci g x own lent back r hop hc hcal hfind hin hchk hrx =>
    obtain ⟨hspec, fn, body, hfn, hbody⟩ := hrf ci x r hrx
    obtain ⟨_, hS, hgf⟩ := find_sig hfind
    have hsig : V.sig ci = g := by
      show V.S.getD ci noSig = g
      rw [List.getD_eq_getElem?_getD, show V.S[ci]? = some g by simpa using hS]; rfl
    have hf : (V.sig ci).f = f := by rw [hsig]; exact hgf
    obtain ⟨hP, hname⟩ := hV.env.funcs _ _ hfn
    have hok := hV.sig ci
    simp only [sigOk, Bool.and_eq_true] at hok
    obtain ⟨⟨_, hp⟩, hlen⟩ := hok
    have hfnp : ∀ f caps, Par.fn f caps ∈ (V.sig ci).pars → caps = [] := fun f caps hm => by
      have := List.all_eq_true.1 hp _ hm
      simpa using this
    obtain ⟨callee_, args, argTypes⟩ := c
    unfold callee at hcal
    split at hcal
    · rename_i xf hxf
      obtain rfl : callee_ = .value xf := hxf
      split at hcal
      · rename_i f' caps as0 hcell hops
        simp only [Option.some.injEq, Prod.mk.injEq] at hcal
        obtain ⟨rfl, rfl⟩ := hcal
        obtain ⟨hpb, hev⟩ := cell_ok h hcell
        have hars := opnds_ok h hops
        have hcaps : ∀ l : List Nat, (∀ b ∈ l, G.pb b) → AReps G s.reg w (l.map fun b => AVal.c (.ptr b 0)) (l.map fun b => Value.pointer (some ⟨G.blk b, 0, none⟩)) := by
          intro l
          induction l with
          | nil => intro _; rfl
          | cons x l ih => intro hb; exact ⟨_, _, rfl, ⟨hb x (by simp), rfl⟩, ih fun b hm => hb b (by simp [hm])⟩
        have hall := hars.append (hcaps caps hpb)
        simp only [Bool.and_eq_true] at hchk
        obtain ⟨⟨hc1, hc2⟩, hc3⟩ := hchk
        have hcalls := call_ok h hd hin hfnp hall hc1 hc2 hc3 (Nat.le_of_ble_eq_true hlen) hspec
        rw [hf] at hcalls
        have hrun : (execOp a.eval o).run P w = .ok (.enter f' ((args.toList.map a.eval ++ caps.map fun b => Value.pointer (some ⟨G.blk b, 0, none⟩)).toArray)) w := by
          have h1 : ¬ fn.name = "runtime.NumGoroutine" := by simpa using hname
          have h2 : ¬ fn.body = none := by rw [hbody]; exact fun e => by cases e
          rw [hf] at hP
          have e : args.map a.eval ++ (caps.map fun b => Value.pointer (some ⟨G.blk b, 0, none⟩)).toArray = (args.toList.map a.eval ++ caps.map fun b => Value.pointer (some ⟨G.blk b, 0, none⟩)).toArray := by
            apply Array.toList_inj.1
            simp
          rw [← e]
          unfold execOp
          simp [hop, resolve, Deferred.ofValue, invoke, callFunc, hP, h1, h2, hev, fnVal]
        obtain ⟨e, w', fr, ⟨v, G', rfl, hi⟩, hcomes, _, hleave⟩ := hcalls (b.at a (.inRegion ops (i :: rest) :: k) :: cs)
        refine ⟨_, w', G', .head (step_enter ho hw hrun) (Steps.trans hcomes (.one ?_)), hi⟩
        have hfin : (b.at a (.inRegion ops (i :: rest) :: k)).finish v = b.at (a.put o.dst v) (.inRegion ops rest :: k) := by rw [Frame.finish_at, ho]; rfl
        rw [← hfin]; exact step_leave_returned hleave
      · cases hcal
    · cases hcal
theorem dst_lt {o : Oper} (h : dstOk nt o = true) (hn : nt ≤ C.nt) : ∀ t, o.dst = some t → t < C.nt := by
  intro t ht
  unfold dstOk at h
  rw [ht] at h
  simp only [Bool.and_eq_true] at h
  exact Nat.lt_of_lt_of_le (Nat.le_of_ble_eq_true h.1) hn
theorem tmp_bool {d : Tmp} {q : Bool} (h : a.tmps.getD d undef = .bool q) : a.tmps[d]? = some (.bool q) := by
  rw [Array.getD_eq_getD_getElem?] at h
  cases hx : a.tmps[d]? with
  | none => rw [hx] at h; cases h
  | some v => rw [hx] at h; exact congrArg some h
theorem step_ok (hV : ProgOk P V) (hrf : CallsOk P V rf) (hn : nt ≤ C.nt) (h : Inv C G s a w) {i : Nat} {s' : St} (hs : Step_ V rf nt ops draw lone_ i s s') {rest : List Nat} :
    ∃ a' w' G', Steps P (lone (b.at a (.inRegion ops (i :: rest) :: k)) cs w) (lone (b.at a' (.inRegion ops rest :: k)) cs w') ∧ Inv C G' s' a' w' := by
  obtain ⟨o, ho, hdst, hs⟩ := hs
  have hd := dst_lt (C := C) hdst hn
  have skip : Region.wanted o (yielded ops a.tmps) = false → Steps P (lone (b.at a (.inRegion ops (i :: rest) :: k)) cs w) (lone (b.at (a.put o.dst undef) (.inRegion ops rest :: k)) cs w) := by
    intro hw
    have := step_op_skip (P := P) (b := b) (a := a) (k := k) (cs := cs) (w := w) (ops := ops) (i := i) (rest := rest) (by simp [ho, hw])
    simp only [ho, Option.bind_some] at this
    exact .one this
  rcases hs with ⟨hg, _, hs⟩ | ⟨g, want, d, hg, hgd, hs⟩
  · exact does_ok hV hrf h hd hs ho (by simp [Region.wanted, hg])
  · have hyb : ∀ q, a.tmps.getD d undef = .bool q → yielded ops a.tmps g = some q := by
      intro q hq
      unfold yielded
      rw [hgd, Option.bind_some, tmp_bool hq]
    rcases hs with ⟨hq, _, hs⟩ | ⟨hq, rfl⟩ | ⟨hq, rfl⟩
    · have hv : a.tmps.getD d undef = .bool want := h.tmp d _ hq
      have h2 := h.putS (d := d) (x := .c (.bool want)) hv
      refine does_ok hV hrf h2 hd hs ho ?_
      simp [Region.wanted, hg, hyb _ hv]
    · have hv : a.tmps.getD d undef = .bool (!want) := h.tmp d _ hq
      have h2 := h.putS (d := d) (x := .c (.bool (!want))) hv
      refine ⟨_, w, G, skip ?_, h2.putO hd (x := .und) rfl⟩
      simp [Region.wanted, hg, hyb _ hv]
    · have hv : a.tmps.getD d undef = undef := h.tmp d _ hq
      refine ⟨_, w, G, skip ?_, h.putO hd (x := .und) rfl⟩
      have : yielded ops a.tmps g = none := by
        unfold yielded
        rw [hgd, Option.bind_some]
        cases hx : a.tmps[d]? with
        | none => rfl
        | some v =>
          rw [Array.getD_eq_getD_getElem?, hx] at hv
          replace hv : v = undef := hv
          rw [hv]; rfl
      simp [Region.wanted, hg, this]
theorem chain_ok (hV : ProgOk P V) (hrf : CallsOk P V rf) (hn : nt ≤ C.nt) : ∀ (l : List Nat) {s s' : St} {G : Gh} {a : Act} {w : World}, Inv C G s a w → Chain V rf nt ops draw lone_ l s s' →
    ∃ a' w' G', Steps P (lone (b.at a (.inRegion ops l :: k)) cs w) (lone (b.at a' k) cs w') ∧ Inv C G' s' a' w'
  | [], s, s', G, a, w, h, hs => by
    obtain rfl : s = s' := hs
    exact ⟨a, w, G, .one step_region_end, h⟩
  | i :: l, s, s', G, a, w, h, hs => by
    obtain ⟨s1, h1, h2⟩ := hs
    obtain ⟨a1, w1, G1, k1, k2⟩ := step_ok (b := b) (k := k) (cs := cs) hV hrf hn h h1 (rest := l)
    obtain ⟨a2, w2, G2, k3, k4⟩ := chain_ok hV hrf hn l k2 h2
    exact ⟨a2, w2, G2, k1.trans k3, k4⟩
end

end Go.Proofs.Ytigkodlbjimikaa.Vc
