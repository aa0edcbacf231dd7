/- The run: what the reading runs, the machine runs; every call does what it is read to do. -/
import Derived.Test.YtigkodlbjimikaaVcZha
namespace Go.Proofs.Ytigkodlbjimikaa.Vc
open Go Go.RowKit
set_option linter.unusedVariables false
set_option linter.unusedSimpArgs false

/-- The call comes to its end, and leaves what is told. -/
def Ends (P : Program) (C : Ctx) (g : Sig) (fn : Func) (args : List Value) (r : g.ans) (b : Frame) (cs : List Frame) (m : Machine) : Prop :=
  ∃ a' w' todo, Steps P m (lone { b.at a' todo with mode := .returning } cs w') ∧ a'.defers = [] ∧ ∃ vs I' f1 f2, (results fn a'.tmps).run P w' = .ok (resVal vs) w' ∧ Left C w' g r args vs I' f1 f2 ∧ Frame_ C w'
theorem Ends.of {P : Program} {C : Ctx} {g : Sig} {fn : Func} {args : List Value} {r : g.ans} {b : Frame} {cs : List Frame} {m m' : Machine} (hs : Steps P m m') (h : Ends P C g fn args r b cs m') : Ends P C g fn args r b cs m := by
  obtain ⟨a', w', todo, h1, h2⟩ := h
  exact ⟨a', w', todo, hs.trans h1, h2⟩
/-- What is known of a call from its start on. -/
structure Start (C : Ctx) (g : Sig) (fn : Func) (args : List Value) : Prop where
  nt : fn.ntmps ≤ C.nt
  n : args.length = g.pars.length
  own : ∀ j e t, g.pars[j]? = some (.own e t true) → args[j]? = some (C.arg j)
  box : ∀ j tid sh out, g.pars[j]? = some (.box tid sh out) → ∃ k, args[j]? = some (.pointer (some ⟨k, 0, none⟩)) ∧ C.home j = some k
  home : ∀ b k, C.home b = some k → b ∈ boxPars g.pars 0
def LoopOk (P : Program) (V : Prog) (i : Nat) (rl : LoopF V i) : Prop :=
  ∀ fn, get V.E.funcs (V.sig i).f = some fn → ∀ C args, Start C (V.sig i) fn args → ∀ c K s r, rl c K s = some r → ∀ G a w, Inv C G s a w → ∀ b cs, Ends P C (V.sig i) fn args r b cs (lone (b.at a (.code c :: .inLoop c :: K)) cs w)
theorem exec_ok {P : Program} {V : Prog} {i : Nat} {fn : Func} {rl : LoopF V i} {rf : CallF V} (hV : ProgOk P V) (hrf : CallsOk P V rf) (hrl : LoopOk P V i rl) (hfn : get V.E.funcs (V.sig i).f = some fn) {C : Ctx} {args : List Value} (hC : Start C (V.sig i) fn args) :
    ∀ (n : Nat) (todo : List Item) (s : St) (r : (V.sig i).ans), exec V i fn rl rf n todo s = some r → ∀ {G : Gh} {a : Act} {w : World}, Inv C G s a w → ∀ b cs, Ends P C (V.sig i) fn args r b cs (lone (b.at a todo) cs w) := by
  have done : ∀ {s : St} {r : (V.sig i).ans}, leave V.E (V.sig i) fn s = some r → ∀ {G : Gh} {a : Act} {w : World}, Inv C G s a w → ∀ b cs todo m, Steps P m (lone { b.at a todo with mode := .returning } cs w) → Ends P C (V.sig i) fn args r b cs m := by
    intro s r hl G a w h b cs todo m hm
    obtain ⟨vs, I', f1, f2, h1, h2⟩ := leave_ok hV.env h hl hC.n hC.own hC.box
    exact ⟨a, w, todo, hm, h.defers, vs, I', f1, f2, h1, h2, h.frame⟩
  have loop : ∀ {c : Code} {K : List Item} {s : St} {r : (V.sig i).ans}, (match anew (boxPars (V.sig i).pars 0) (V.liveAt (V.sig i).f c) s with | some s' => rl c K s' | none => none) = some r → ∀ {G : Gh} {a : Act} {w : World}, Inv C G s a w → ∀ b cs, Ends P C (V.sig i) fn args r b cs (lone (b.at a (.code c :: .inLoop c :: K)) cs w) := by
    intro c K s r hx G a w h b cs
    split at hx
    · rename_i s' hs
      obtain ⟨G', h'⟩ := anew_ok h hs hC.home
      exact hrl fn hfn C args hC c K s' r hx G' a w h' b cs
    · cases hx
  intro n
  induction n with
  | zero => intro todo s r hx; cases hx
  | succ n ih =>
    intro todo s r hx G a w h b cs
    cases todo with
    | nil => exact done hx h b cs [] _ (.one step_end)
    | cons it K =>
      cases it with
      | code c =>
        cases c with
        | skip => exact .of (.one step_skip) (ih K s r hx h b cs)
        | seq x y => exact .of (.one step_seq) (ih _ s r hx h b cs)
        | block id c => exact .of (.one step_block) (ih _ s r hx h b cs)
        | ret => exact done hx h b cs (.code .ret :: K) _ (.one step_ret)
        | loop c => exact .of (.one step_loop) (loop hx h b cs)
        | exit id =>
          replace hx : (match exitTo id K with | some K' => exec V i fn rl rf n K' s | none => none) = some r := hx
          split at hx
          · rename_i K' hK
            exact .of (.one (step_exit hK)) (ih K' s r hx h b cs)
          · cases hx
        | cond c x y =>
          replace hx : (match cell? (s.opnd V.E 0 c) with
            | some (.bool q) => bif q then exec V i fn rl rf n (.code x :: K) s else exec V i fn rl rf n (.code y :: K) s
            | _ => none) = some r := hx
          split at hx
          · rename_i q hq
            have hv : a.eval c = .bool q := cell_ok h hq
            refine .of (.one (step_cond hv)) ?_
            cases q with
            | true => exact ih _ s r hx h b cs
            | false => exact ih _ s r hx h b cs
          · cases hx
        | region id ops draw =>
          replace hx : (bif !draw || drawOk V.E ops (masks ops.toList []) then runOps V rf fn.ntmps ops draw (loneOf V.E ops (masks ops.toList [])) (List.range ops.size) s (fun s' => exec V i fn rl rf n K s') else none) = some r := hx
          cases hd : (!draw || drawOk V.E ops (masks ops.toList [])) with
          | false => rw [hd] at hx; cases hx
          | true =>
            rw [hd] at hx
            obtain ⟨s1, hch, hx2⟩ := runOps_chain _ _ hx
            cases draw with
            | false =>
              obtain ⟨a1, w1, G1, k1, k2⟩ := chain_ok (b := b) (k := K) (cs := cs) hV hrf hC.nt _ h hch
              exact .of (.head step_region k1) (ih K s1 r hx2 k2 b cs)
            | true =>
              have hw : Inv C G s a { w with drawn := w.drawn + 1 } := h.drawn
              have hch2 := drawn_chain hV hrf hC.nt hw (by simpa using hd) hch (w.tape w.drawn (.order b.fn id))
              obtain ⟨a1, w1, G1, k1, k2⟩ := chain_ok (b := b) (k := K) (cs := cs) hV hrf hC.nt _ hw hch2
              exact .of (.head step_region_draw k1) (ih K s1 r hx2 k2 b cs)
        | _ => cases hx
      | inBlock id => exact .of (.one step_inBlock) (ih K s r hx h b cs)
      | inLoop c => exact .of (.one step_inLoop) (loop hx h b cs)
      | _ => cases hx
theorem boxPars_home {C : Ctx} {l : List Par} (h : ∀ b, C.home b ≠ none → b ∈ boxPars l 0) : ∀ b k, C.home b = some k → b ∈ boxPars l 0 := fun b k hb => h b (by rw [hb]; exact fun e => by cases e)
theorem parsRep_length {I : Nat → Prop} {w : World} : ∀ {l : List Par} {x : (parsTy l).den} {vs : List Value} {fp : List Nat}, ParsRep I w l x vs fp → vs.length = l.length
  | [], _, _, _, h => by rw [h.1]; rfl
  | .val _ :: l, _, _, _, h => by obtain ⟨v, vl, rfl, _, h⟩ := h; simp [parsRep_length h]
  | .own _ _ _ :: l, _, _, _, h => by obtain ⟨v, vl, f, fl, rfl, _, _, h⟩ := h; simp [parsRep_length h]
  | .box _ _ _ :: l, _, _, _, h => by obtain ⟨k, vl, f, fl, arr, rfl, _, _, _, h⟩ := h; simp [parsRep_length h]
  | .agg _ :: l, _, _, _, h => by obtain ⟨vl, f, fl, arr, rfl, _, _, h⟩ := h; simp [parsRep_length h]
  | .fn _ _ :: l, _, _, _, h => by obtain ⟨vl, rfl, _, h⟩ := h; simp [parsRep_length h]
/-- A call does what its body is read to do. -/
theorem call_spec {P : Program} {V : Prog} (hV : ProgOk P V) {i : Nat} {fn : Func} {c : Code} {rl : LoopF V i} {rf : CallF V} (hrf : CallsOk P V rf) (hrl : LoopOk P V i rl) (hfn : get V.E.funcs (V.sig i).f = some fn) (hc : fn.body = some c) {n : Nat} {x : (V.sig i).arg} {r : (V.sig i).ans}
    (hx : exec V i fn rl rf n [.code c] (enter ⟨[], [], []⟩ (V.sig i).pars 0 x) = some r) : CallSpec P (V.sig i) x r := by
  intro I w args F hp hF hIF hI
  have hok := hV.sig i
  simp only [sigOk, Bool.and_eq_true] at hok
  obtain ⟨⟨hl, hps⟩, _⟩ := hok
  have hlen := parsRep_length hp
  let a0 : Act := { tmps := args.toArray ++ Array.replicate (fn.ntmps - args.toArray.size) undef, defers := [] }
  let C0 : Ctx := { w0 := w, lent := (· ∈ F), nt := a0.tmps.size, home := fun _ => none, arg := fun j => args.getD j undef, I0 := I }
  let G0 : Gh := { I := I, fp := fun _ => [], root := fun _ => undef, blk := fun _ => 0, pb := fun _ => False }
  have h0 : Inv C0 G0 ⟨[], [], []⟩ a0 w := by
    refine { box := fun b x hb => (by cases hb), reg := fun r g hg => (by cases hg), pb := fun b hb => hb.elim, bb := fun b b' x x' hb => (by cases hb), rr := fun r r' g g' hg => (by cases hg), rb := fun r g b x hg => (by cases hg), ib := fun b x hb => (by cases hb), ir := fun r g k hg => (by cases hg), ob := fun b x hb => (by cases hb), or := fun r g k hg => (by cases hg), ilt := hI, frame := ⟨rfl, rfl, rfl, Nat.le_refl _, fun _ _ _ => rfl⟩, home := fun b k hb => (by cases hb), orig := fun r g j hg => (by cases hg), i0 := fun k hk => hk, i1 := fun k hk => .inl hk, defers := rfl, size := rfl, tmp := fun t v hv => (by cases hv) }
  have htm : ∀ j v, args[j]? = some v → a0.tmps.getD (0 + j) undef = v := by
    intro j v hj
    rw [Nat.zero_add]
    show (args.toArray ++ Array.replicate (fn.ntmps - args.toArray.size) undef).getD j undef = v
    have hj' := (List.getElem?_eq_some_iff.1 hj).1
    rw [Array.getD_eq_getD_getElem?, Array.getElem?_append_left (by simpa using hj'), List.getElem?_toArray, hj]; rfl
  obtain ⟨C, G, h1, k1, k2, k3, k4, k5, k6, _, k7, _⟩ := enter_ok (w := w) (a := a0) (V.sig i).pars 0 x args F (C := C0) (G := G0) (s := ⟨[], [], []⟩) (I := I) (fun _ hk => hk) h0 hp hF
    (fun k hk => ⟨⟨(hIF k hk).1, fun b x hb => (by cases hb), fun r g hg => (by cases hg)⟩, .inr hk⟩) (by have := Nat.le_of_ble_eq_true hl; omega)
    (fun p hp' => by
      have h2 := List.all_eq_true.1 hps p hp'
      cases p with
      | box tid sh out => exact Nat.le_of_ble_eq_true h2
      | agg sh => exact Nat.le_of_ble_eq_true h2
      | _ => trivial)
    htm (fun j e t bk hj => by
      have hj' := (List.getElem?_eq_some_iff.1 hj).1
      refine ⟨args[j]'(by omega), List.getElem?_eq_getElem (by omega), ?_⟩
      show args.getD (0 + j) undef = _
      rw [Nat.zero_add, List.getD_eq_getElem?_getD, List.getElem?_eq_getElem (by omega)]; rfl)
    (fun r hr => by cases hr) (fun b hb => by cases hb) (fun b _ => rfl)
  have hargC : ∀ j, C.arg j = args.getD j undef := fun j => by rw [k4]
  have hS : Start C (V.sig i) fn args := by
    refine ⟨?_, hlen, fun j e t hj => ?_, fun j tid sh out hj => ?_, boxPars_home fun b hb => ?_⟩
    · rw [k3]
      show fn.ntmps ≤ (args.toArray ++ Array.replicate (fn.ntmps - args.toArray.size) undef).size
      simp only [Array.size_append, Array.size_replicate]; omega
    · have hj' := (List.getElem?_eq_some_iff.1 hj).1
      rw [hargC, List.getD_eq_getElem?_getD, List.getElem?_eq_getElem (by omega)]; rfl
    · have := k7 j tid sh out hj; rwa [Nat.zero_add] at this
    · exact (k6 b hb).resolve_left fun hb => hb rfl
  obtain ⟨hPf, _⟩ := hV.env.funcs _ _ hfn
  intro cs
  let b : Frame := { (default : Frame) with fn := (V.sig i).f, kind := .normal }
  have henter : Frame.enter P (V.sig i).f args.toArray .normal = b.at a0 [.code c] := by
    simp only [Frame.enter, Frame.at, hPf, b, a0, Option.map_some, Option.getD_some, Option.bind_some, hc]
  obtain ⟨a', w', todo, hst, hdef, vs, I', f1, f2, hres, hleft, hfr⟩ := exec_ok hV hrf hrl hfn hS n [.code c] _ r hx h1 b cs
  refine ⟨.returned (resVal vs), w', { b.at a' todo with mode := .returning }, ⟨vs, I', f1, f2, rfl, C, k1, fun k => by rw [k2], k5, hleft, hfr⟩, ?_, rfl, rfl, hdef, rfl, fn, hPf, hres⟩
  rw [henter]; exact hst
/-- All rounds. -/
theorem runs_ok {P : Program} {V : Prog} (hV : ProgOk P V) : ∀ k, (∀ i, LoopOk P V i ((runs V k).1 i)) ∧ CallsOk P V (runs V k).2
  | 0 => ⟨fun i fn _ C args _ c K s r hx => (by cases hx), fun ci x r hx => (by cases hx)⟩
  | k + 1 => by
    obtain ⟨h1, h2⟩ := runs_ok hV k
    refine ⟨fun i fn hfn C args hS c K s r hx G a w h b cs => ?_, fun ci x r hx => ?_⟩
    · replace hx : (match get V.E.funcs (V.sig i).f with
        | some fn => exec V i fn ((runs V k).1 i) (runs V k).2 fuel (.code c :: .inLoop c :: K) s
        | none => none) = some r := hx
      rw [hfn] at hx
      exact exec_ok hV h2 (h1 i) hfn hS _ _ _ _ hx h b cs
    · replace hx : (match get V.E.funcs (V.sig ci).f with
        | some fn => (match fn.body with
          | some c => exec V ci fn ((runs V k).1 ci) (runs V k).2 fuel [.code c] (enter ⟨[], [], []⟩ (V.sig ci).pars 0 x)
          | none => none)
        | none => none) = some r := hx
      split at hx
      · rename_i fn hfn
        split at hx
        · rename_i c hc
          exact ⟨call_spec hV h2 (h1 ci) hfn hc hx, fn, c, hfn, hc⟩
        · cases hx
      · cases hx
/-- What a function is read to answer, it answers. -/
theorem runF_ok {P : Program} {V : Prog} (hV : ProgOk P V) {k i : Nat} {x : (V.sig i).arg} {r : (V.sig i).ans} (h : runF V k i x = some r) : CallSpec P (V.sig i) x r := ((runs_ok hV k).2 i x r h).1

end Go.Proofs.Ytigkodlbjimikaa.Vc
