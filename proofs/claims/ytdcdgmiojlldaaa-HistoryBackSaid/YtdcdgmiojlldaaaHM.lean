/- HistoryBack: the walk. -/
import Derived.Test.YtdcdgmiojlldaaaHL
namespace Go.Proofs.Ytdcdgmiojlldaaa.Hi
open Go Big Go.RowKit Go.IntWalk Go.Maps Go.WideShapes
set_option linter.unusedVariables false
set_option linter.unusedSimpArgs false
section
variable {α : Type} {Q : α → Prop} {n m base mb b g N i b1 b2 : Nat} {w w' w0 w1 ws : World} {A B C A2 : Option Addr} {l c m1 d1 m2 d2 d k c2 : Nat} {bs cs fr to : List Int} {S T : Nat → Prop} {qs F : List KV} {X : List (List OpD)} {ops : List OpD}
def Ok (ops : List OpD) : Prop := ∀ o ∈ ops, o.key.length ≤ 300 ∧ o.val.length ≤ 5000
theorem Big_l0 (hx : Ev opEl w B l d ops) : ∀ (q i m : Nat), i + q = l → q < m → (∀ (t : Nat) (o : OpD), t < i → ops[t]? = some o → o.key.length ≤ 300 ∧ o.val.length ≤ 5000) →
    Rt (butterylaw5_Big.l0 n m B l d (i : Int) w) fun y => (y = ⟨.exit 0, [.slice B l d], w⟩ ∧ Ok ops) ∨ y = ⟨.ret, [.bool true], w⟩ := by
  have hxl := hx.len
  have hcap := hx.cap
  have hmx := hx.max
  have hml : maxLen < 2 ^ 63 := by decide
  intro q
  induction q with
  | zero =>
    intro i m hi hm hp
    obtain ⟨m, rfl⟩ : ∃ m', m = m' + 1 := ⟨m - 1, by omega⟩
    rw [butterylaw5_Big.l0_succ]
    refine Rt.cDF (by omega) (Rt.some' (.inl ⟨rfl, fun o ho => ?_⟩))
    obtain ⟨t, ht⟩ := List.getElem?_of_mem ho
    exact hp t o (by have := (List.getElem?_eq_some_iff.1 ht).1; omega) ht
  | succ q ih =>
    intro i m hi hm hp
    obtain ⟨m, rfl⟩ : ∃ m', m = m' + 1 := ⟨m - 1, by omega⟩
    rw [butterylaw5_Big.l0_succ]
    refine Rt.cDT (by omega) (Rt.ixOp hx.sl (Kp.rfl' w) (by omega) (by omega) fun o a B1 m1 d1 C1 k1 e1 ex hb1 hc1 g0 g1 g2 => ?_)
    rw [Int.toNat_natCast] at ex
    have hbl := hb1.len
    have hcl := hc1.len
    (repeat (first | (with_reducible (first | refine Rt.fin ?_ | refine Rt.tL ?_ | refine Rt.tI ?_ | refine Rt.tB ?_ | refine Rt.tS ?_ | refine Rt.tP ?_ | refine Rt.tD ?_ | refine Rt.tM ?_ | refine Rt.tC ?_ | refine Rt.tN ?_ | refine Rt.tA ?_ | refine Rt.tG ?_ | refine Rt.tF ?_ | refine Rt.os ?_ | refine Rt.clS ?_ | refine Rt.jmN ?_ | refine Rt.jbN ?_ | refine Rt.jbE ?_)) | ((with_reducible (first | apply Rt.ld0 | apply Rt.ld1 | apply Rt.ld2 | apply Rt.ld3 | apply Rt.ld4 | apply Rt.ld5)); first | assumption | exact Lc.kp (by assumption) (by assumption)) | ((with_reducible apply Rt.ol); first | assumption | exact cell_kp (by assumption) (by assumption)) | ((with_reducible apply Rt.ckR); focus ((repeat (first | (with_reducible (first | refine Rt.fin ?_ | refine Rt.tL ?_ | refine Rt.tI ?_ | refine Rt.tB ?_ | refine Rt.tS ?_ | refine Rt.tP ?_ | refine Rt.tD ?_ | refine Rt.tM ?_ | refine Rt.tC ?_ | refine Rt.tN ?_ | refine Rt.tA ?_ | refine Rt.tG ?_ | refine Rt.tF ?_ | refine Rt.os ?_ | refine Rt.clS ?_ | refine Rt.jmN ?_ | refine Rt.jbN ?_ | refine Rt.jbE ?_)) | ((with_reducible (first | apply Rt.ld0 | apply Rt.ld1 | apply Rt.ld2 | apply Rt.ld3 | apply Rt.ld4 | apply Rt.ld5)); first | assumption | exact Lc.kp (by assumption) (by assumption)) | ((with_reducible apply Rt.ol); first | assumption | exact cell_kp (by assumption) (by assumption)))); exact Rt.some' rfl))))
    refine Rt.cD (fun _ => Rt.some' (.inr rfl)) fun h1 => ?_
    clear g0 g1 g2
    refine Rt.ixOp hx.sl (Kp.rfl' w) (by omega) (by omega) fun o2 a B2 m2 d2 C2 k2 e2 ex2 hb2 hc2 g0 g1 g2 => ?_
    rw [Int.toNat_natCast] at ex2
    obtain rfl : o = o2 := Option.some.inj (ex.symm.trans ex2)
    have hcl2 := hc2.len
    (repeat (first | (with_reducible (first | refine Rt.fin ?_ | refine Rt.tL ?_ | refine Rt.tI ?_ | refine Rt.tB ?_ | refine Rt.tS ?_ | refine Rt.tP ?_ | refine Rt.tD ?_ | refine Rt.tM ?_ | refine Rt.tC ?_ | refine Rt.tN ?_ | refine Rt.tA ?_ | refine Rt.tG ?_ | refine Rt.tF ?_ | refine Rt.os ?_ | refine Rt.clS ?_ | refine Rt.jmN ?_ | refine Rt.jbN ?_ | refine Rt.jbE ?_)) | ((with_reducible (first | apply Rt.ld0 | apply Rt.ld1 | apply Rt.ld2 | apply Rt.ld3 | apply Rt.ld4 | apply Rt.ld5)); first | assumption | exact Lc.kp (by assumption) (by assumption)) | ((with_reducible apply Rt.ol); first | assumption | exact cell_kp (by assumption) (by assumption)) | ((with_reducible apply Rt.ckR); focus ((repeat (first | (with_reducible (first | refine Rt.fin ?_ | refine Rt.tL ?_ | refine Rt.tI ?_ | refine Rt.tB ?_ | refine Rt.tS ?_ | refine Rt.tP ?_ | refine Rt.tD ?_ | refine Rt.tM ?_ | refine Rt.tC ?_ | refine Rt.tN ?_ | refine Rt.tA ?_ | refine Rt.tG ?_ | refine Rt.tF ?_ | refine Rt.os ?_ | refine Rt.clS ?_ | refine Rt.jmN ?_ | refine Rt.jbN ?_ | refine Rt.jbE ?_)) | ((with_reducible (first | apply Rt.ld0 | apply Rt.ld1 | apply Rt.ld2 | apply Rt.ld3 | apply Rt.ld4 | apply Rt.ld5)); first | assumption | exact Lc.kp (by assumption) (by assumption)) | ((with_reducible apply Rt.ol); first | assumption | exact cell_kp (by assumption) (by assumption)))); exact Rt.some' rfl))))
    refine Rt.cD (fun _ => Rt.some' (.inr rfl)) fun h2 => ?_
    rw [i64_in _ (by omega), show ((i : Int) + 1) = ((i + 1 : Nat) : Int) by omega]
    refine ih (i + 1) m (by omega) (by omega) fun t z ht hz => ?_
    by_cases e : t = i
    · subst e
      rw [ex] at hz
      obtain rfl := Option.some.inj hz
      omega
    · exact hp t z (by omega) hz
theorem Big_spec (hx : Ev opEl w B l d ops) (hn : 2 ^ 63 < n) : Rt (butterylaw5_Big n [.slice B l d] w) fun y => ∃ b, y = ([.bool b], w) ∧ (b = false → Ok ops) := by
  have hcap := hx.cap
  have hmx := hx.max
  have hml : maxLen < 2 ^ 63 := by decide
  rw [butterylaw5_Big_eq]
  refine Rt.fin (Rt.jb (Rt.mono (Big_l0 (n := n) hx l 0 n (by omega) (by omega) fun t o ht => by omega) ?_))
  rintro _ (⟨rfl, h⟩ | rfl)
  · refine .inl ⟨.inr rfl, ?_⟩
    dsimp only
    (repeat (first | (with_reducible (first | refine Rt.fin ?_ | refine Rt.tL ?_ | refine Rt.tI ?_ | refine Rt.tB ?_ | refine Rt.tS ?_ | refine Rt.tP ?_ | refine Rt.tD ?_ | refine Rt.tM ?_ | refine Rt.tC ?_ | refine Rt.tN ?_ | refine Rt.tA ?_ | refine Rt.tG ?_ | refine Rt.tF ?_ | refine Rt.os ?_ | refine Rt.clS ?_ | refine Rt.jmN ?_ | refine Rt.jbN ?_ | refine Rt.jbE ?_)) | ((with_reducible (first | apply Rt.ld0 | apply Rt.ld1 | apply Rt.ld2 | apply Rt.ld3 | apply Rt.ld4 | apply Rt.ld5)); first | assumption | exact Lc.kp (by assumption) (by assumption)) | ((with_reducible apply Rt.ol); first | assumption | exact cell_kp (by assumption) (by assumption)) | ((with_reducible apply Rt.ckR); focus ((repeat (first | (with_reducible (first | refine Rt.fin ?_ | refine Rt.tL ?_ | refine Rt.tI ?_ | refine Rt.tB ?_ | refine Rt.tS ?_ | refine Rt.tP ?_ | refine Rt.tD ?_ | refine Rt.tM ?_ | refine Rt.tC ?_ | refine Rt.tN ?_ | refine Rt.tA ?_ | refine Rt.tG ?_ | refine Rt.tF ?_ | refine Rt.os ?_ | refine Rt.clS ?_ | refine Rt.jmN ?_ | refine Rt.jbN ?_ | refine Rt.jbE ?_)) | ((with_reducible (first | apply Rt.ld0 | apply Rt.ld1 | apply Rt.ld2 | apply Rt.ld3 | apply Rt.ld4 | apply Rt.ld5)); first | assumption | exact Lc.kp (by assumption) (by assumption)) | ((with_reducible apply Rt.ol); first | assumption | exact cell_kp (by assumption) (by assumption)))); exact Rt.some' rfl))))
    exact Rt.some' ⟨rfl, _, rfl, fun _ => h⟩
  · exact .inr ⟨rfl, rfl, true, rfl, fun h => (by cases h)⟩
theorem Back_l0 (hx : Ev opsEl w0 A l c X) (hl : l ≤ 15) (hn : 2 ^ 63 < n) {fA tA : Option Addr} {fl fc tl tc : Nat} : ∀ (q i m : Nat) (w : World), i + q = l → q < m → Kp w0 w → w0.heap.size ≤ base → base ≤ w.heap.size → Hm w base mb (X.take i) → (∀ ops ∈ X.take i, ops.length ≤ 20 ∧ Ok ops) →
    Rt (butterylaw22_HistoryBack.l0 n m A l c fA fl fc tA tl tc (some ⟨mb, 0, none⟩) (i : Int) w) fun y => (∃ w', y = ⟨.exit 0, [.slice fA fl fc, .slice tA tl tc, pt mb], w'⟩ ∧ Kp w0 w' ∧ Hm w' base mb X ∧ ∀ ops ∈ X, ops.length ≤ 20 ∧ Ok ops) ∨ ∃ w', y = ⟨.ret, [.bool true], w'⟩ ∧ Kp w0 w' := by
  have hxl := hx.len
  intro q
  induction q with
  | zero =>
    intro i m w hi hm hk hb1 hb2 hH hs
    obtain ⟨m, rfl⟩ : ∃ m', m = m' + 1 := ⟨m - 1, by omega⟩
    rw [butterylaw22_HistoryBack.l0_succ]
    rw [List.take_of_length_le (by omega)] at hH hs
    exact Rt.cDF (by omega) (Rt.some' (.inl ⟨w, rfl, hk, hH, hs⟩))
  | succ q ih =>
    intro i m w hi hm hk hb1 hb2 hH hs
    obtain ⟨m, rfl⟩ : ∃ m', m = m' + 1 := ⟨m - 1, by omega⟩
    rw [butterylaw22_HistoryBack.l0_succ]
    have one : ∀ {w1 : World} {f : Addr → Option Res} {Q : Res → Prop}, Kp w0 w1 → (∀ a ops B k d, X[i]? = some ops → Ev opEl w1 B k d ops → w1.cell? a = some (.slice B k d) → Rt (f a) Q) → Rt (ixA A l (i : Int) 1 f) Q := fun {w1 f Q} hk1 hf => by
      refine Rt.ixe (E := opsEl) (hx.kp hk1).sl rfl (by omega) (by omega) fun ops a us ex _ e3 e4 => ?_
      obtain ⟨B, k, d, rfl, hops⟩ := e3
      have c0 := e4 0 _ rfl
      rw [Addr.add_zero'] at c0
      rw [Int.toNat_natCast] at ex
      exact hf a ops B k d ex hops c0
    refine Rt.cDT (by omega) (one hk fun a ops B k d ex hops c0 => Rt.ol c0 (Rt.tL ?_))
    obtain ⟨_, e, b, rfl, hbo⟩ := Big_spec (n := n) hops hn
    refine Rt.cl e (Rt.tC (Rt.tB (Rt.tN ?_)))
    refine Rt.cB (fun _ => Rt.some' (.inr ⟨w, rfl, hk⟩)) fun hbf => ?_
    have hok := hbo hbf
    refine one hk fun a2 ops2 B2 k2 d2 ex2 hops2 c2 => Rt.ol c2 (Rt.tL ?_)
    obtain rfl : ops = ops2 := Option.some.inj (ex.symm.trans ex2)
    have hol2 := hops2.len
    refine Rt.cD (fun _ => Rt.some' (.inr ⟨w, rfl, hk⟩)) fun h20 => ?_
    refine one hk fun a3 ops3 B3 k3 d3 ex3 hops3 c3 => Rt.ol c3 (Rt.tL ?_)
    obtain rfl : ops = ops3 := Option.some.inj (ex.symm.trans ex3)
    have hol3 := hops3.len
    obtain ⟨_, e, w1, rfl, hH1, g1⟩ := Apply_spec (n := n) hH hops3 (by omega) (by rw [List.length_take]; omega) (fun o ho => by have := hok o ho; omega) hb2 (by omega)
    refine Rt.cl e (Rt.tN ?_)
    rw [i64_in _ (by omega), show ((i : Int) + 1) = ((i + 1 : Nat) : Int) by omega]
    have htk : X.take (i + 1) = X.take i ++ [ops] := by rw [List.take_add_one, ex]; rfl
    have hz := g1.size
    refine ih (i + 1) m w1 (by omega) (by omega) (hk.tx g1 fun j hj => Nat.le_trans hb1 hj) hb1 (by omega) (by rw [htk]; exact hH1) fun ops' ho => ?_
    rw [htk] at ho
    rcases List.mem_append.1 ho with ho | ho
    · exact hs ops' ho
    · obtain rfl := List.mem_singleton.1 ho
      exact ⟨by omega, hok⟩
end
end Go.Proofs.Ytdcdgmiojlldaaa.Hi
