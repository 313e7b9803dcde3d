/- History: the state; Get. -/
import Derived.Test.YtdcdgmiojlldaaaHC
namespace Go.Proofs.Ytdcdgmiojlldaaa.Hi
open Go Big Go.RowKit Go.IntWalk Go.Maps Go.WideShapes
set_option linter.unusedVariables false
set_option linter.unusedSimpArgs false
def opsF (f : List Int → Option (List Int)) (ops : List OpD) : List Int → Option (List Int) := ops.foldl putF f
def stF (X : List (List OpD)) : List Int → Option (List Int) := X.foldl opsF fun _ => none
/-- Few and short. -/
def Fit (X : List (List OpD)) : Prop := X.length ≤ 500 ∧ ∀ ops ∈ X, ops.length ≤ 1000 ∧ ∀ o ∈ ops, o.key.length ≤ 2 ^ 20 ∧ o.val.length ≤ 2 ^ 20
section
variable {α : Type} {Q : α → Prop} {n m base mb b N : Nat} {w w' w0 w1 ws : World} {A B C : Option Addr} {l c m1 d1 m2 d2 d k : Nat} {bs cs : List Int} {ops xs : List OpD} {S T : Nat → Prop} {X : List (List OpD)} {f : List Int → Option (List Int)} {D : DataW Value}
theorem state_l1 {y z : Int} (hx : Ev opEl ws B k d ops) (hb : ws.heap.size ≤ b) (hlen : ∀ o ∈ ops, o.key.length ≤ 2 ^ 20 ∧ o.val.length ≤ 2 ^ 20) : ∀ (q i m N : Nat) (w : World) (f : List Int → Option (List Int)), i + q = k → q < m → N + q ≤ 2 ^ 20 → Kp ws w → Mk ws w b N f →
    Rt (history_Map_state.l1 n m (some b) A l c y z B k d (k : Int) (i : Int) w) fun r => ∃ w', r = ⟨.exit 2, [.map (some b), .slice A l c, .int .i64 y, .int .i64 z], w'⟩ ∧ Kp ws w' ∧ Mk ws w' b (N + q) (opsF f (ops.drop i)) := by
  have hxl := hx.len
  have hcap := hx.cap
  have hmx := hx.max
  have hml : maxLen < 2 ^ 63 := by decide
  intro q
  induction q with
  | zero =>
    intro i m N w f hi hm hN hk hM
    obtain ⟨m, rfl⟩ : ∃ m', m = m' + 1 := ⟨m - 1, by omega⟩
    rw [history_Map_state.l1_succ, List.drop_eq_nil_iff.2 (show ops.length ≤ i by omega)]
    exact Rt.cDF (by omega) (Rt.some' ⟨w, rfl, hk, hM⟩)
  | succ q ih =>
    intro i m N w f hi hm hN hk hM
    obtain ⟨m, rfl⟩ : ∃ m', m = m' + 1 := ⟨m - 1, by omega⟩
    rw [history_Map_state.l1_succ]
    refine Rt.cDT (by omega) (Rt.ixOp hx.sl hk (by omega) (by omega) fun o a B1 m1 d1 C1 k1 e1 ex hb1 hc1 g0 g1 g2 => ?_)
    rw [Int.toNat_natCast] at ex
    have hol := hlen o (List.mem_of_getElem? ex)
    have hbl := hb1.len
    (repeat (first | (with_reducible (first | refine Rt.fin ?_ | refine Rt.tL ?_ | refine Rt.tI ?_ | refine Rt.tB ?_ | refine Rt.tS ?_ | refine Rt.tP ?_ | refine Rt.tD ?_ | refine Rt.tM ?_ | refine Rt.tC ?_ | refine Rt.tN ?_ | refine Rt.tA ?_ | refine Rt.tG ?_ | refine Rt.tF ?_ | refine Rt.os ?_ | refine Rt.clS ?_ | refine Rt.jmN ?_ | refine Rt.jbN ?_ | refine Rt.jbE ?_)) | ((with_reducible (first | apply Rt.ld0 | apply Rt.ld1 | apply Rt.ld2 | apply Rt.ld3 | apply Rt.ld4 | apply Rt.ld5)); first | assumption | exact Lc.kp (by assumption) (by assumption)) | ((with_reducible apply Rt.ol); first | assumption | exact cell_kp (by assumption) (by assumption)) | ((with_reducible apply Rt.ckR); focus ((repeat (first | (with_reducible (first | refine Rt.fin ?_ | refine Rt.tL ?_ | refine Rt.tI ?_ | refine Rt.tB ?_ | refine Rt.tS ?_ | refine Rt.tP ?_ | refine Rt.tD ?_ | refine Rt.tM ?_ | refine Rt.tC ?_ | refine Rt.tN ?_ | refine Rt.tA ?_ | refine Rt.tG ?_ | refine Rt.tF ?_ | refine Rt.os ?_ | refine Rt.clS ?_ | refine Rt.jmN ?_ | refine Rt.jbN ?_ | refine Rt.jbE ?_)) | ((with_reducible (first | apply Rt.ld0 | apply Rt.ld1 | apply Rt.ld2 | apply Rt.ld3 | apply Rt.ld4 | apply Rt.ld5)); first | assumption | exact Lc.kp (by assumption) (by assumption)) | ((with_reducible apply Rt.ol); first | assumption | exact cell_kp (by assumption) (by assumption)))); exact Rt.some' rfl))))
    refine Rt.al3 fun w1 l1 k1' s1 => ?_
    clear g0 g1 g2
    have hk1 := hk.tr k1'
    (repeat (first | (with_reducible (first | refine Rt.fin ?_ | refine Rt.tL ?_ | refine Rt.tI ?_ | refine Rt.tB ?_ | refine Rt.tS ?_ | refine Rt.tP ?_ | refine Rt.tD ?_ | refine Rt.tM ?_ | refine Rt.tC ?_ | refine Rt.tN ?_ | refine Rt.tA ?_ | refine Rt.tG ?_ | refine Rt.tF ?_ | refine Rt.os ?_ | refine Rt.clS ?_ | refine Rt.jmN ?_ | refine Rt.jbN ?_ | refine Rt.jbE ?_)) | ((with_reducible (first | apply Rt.ld0 | apply Rt.ld1 | apply Rt.ld2 | apply Rt.ld3 | apply Rt.ld4 | apply Rt.ld5)); first | assumption | exact Lc.kp (by assumption) (by assumption)) | ((with_reducible apply Rt.ol); first | assumption | exact cell_kp (by assumption) (by assumption)) | ((with_reducible apply Rt.ckR); focus ((repeat (first | (with_reducible (first | refine Rt.fin ?_ | refine Rt.tL ?_ | refine Rt.tI ?_ | refine Rt.tB ?_ | refine Rt.tS ?_ | refine Rt.tP ?_ | refine Rt.tD ?_ | refine Rt.tM ?_ | refine Rt.tC ?_ | refine Rt.tN ?_ | refine Rt.tA ?_ | refine Rt.tG ?_ | refine Rt.tF ?_ | refine Rt.os ?_ | refine Rt.clS ?_ | refine Rt.jmN ?_ | refine Rt.jbN ?_ | refine Rt.jbE ?_)) | ((with_reducible (first | apply Rt.ld0 | apply Rt.ld1 | apply Rt.ld2 | apply Rt.ld3 | apply Rt.ld4 | apply Rt.ld5)); first | assumption | exact Lc.kp (by assumption) (by assumption)) | ((with_reducible apply Rt.ol); first | assumption | exact cell_kp (by assumption) (by assumption)))); exact Rt.some' rfl))))
    obtain ⟨_, e, w2, rfl, hM2, hk2⟩ := put_spec (n := n) (hM.kp k1') hk1 hb1 hc1 (by omega) (by omega) hb
    refine Rt.cl e (Rt.tN ?_)
    rw [i64_in _ (by omega), show ((i : Int) + 1) = ((i + 1 : Nat) : Int) by omega]
    refine Rt.mono (ih (i + 1) m (N + 1) w2 (putF f o) (by omega) (by omega) (by omega) hk2 hM2) ?_
    rintro _ ⟨w3, rfl, hk3, hM3⟩
    refine ⟨w3, rfl, hk3, ?_⟩
    have hdrop : ops.drop i = o :: ops.drop (i + 1) := by
      obtain ⟨hlt, hget⟩ := List.getElem?_eq_some_iff.1 ex
      rw [List.drop_eq_getElem_cons hlt, hget]
    rw [hdrop, show N + (q + 1) = N + 1 + q by omega]
    exact hM3
theorem state_l0 (hn : 2 ^ 60 < n) (hx : Ev opsEl ws A l c X) (hF : Fit X) (hb : ws.heap.size ≤ b) : ∀ (q i m N : Nat) (w : World) (f : List Int → Option (List Int)), i + q = l → q < m → N ≤ i * 1000 → Kp ws w → Mk ws w b N f →
    Rt (history_Map_state.l0 n m (some b) A l c (l : Int) (i : Int) w) fun r => ∃ w', r = ⟨.exit 0, [.map (some b)], w'⟩ ∧ Kp ws w' ∧ Mk ws w' b (l * 1000) ((X.drop i).foldl opsF f) := by
  have hxl := hx.len
  have hFl := hF.1
  intro q
  induction q with
  | zero =>
    intro i m N w f hi hm hN hk hM
    obtain ⟨m, rfl⟩ : ∃ m', m = m' + 1 := ⟨m - 1, by omega⟩
    rw [history_Map_state.l0_succ, List.drop_eq_nil_iff.2 (show X.length ≤ i by omega)]
    obtain ⟨n0, D, q1, q2, q3⟩ := hM
    obtain rfl : i = l := by omega
    exact Rt.cDF (by omega) (Rt.some' ⟨w, rfl, hk, n0, D, q1, by omega, q3⟩)
  | succ q ih =>
    intro i m N w f hi hm hN hk hM
    obtain ⟨m, rfl⟩ : ∃ m', m = m' + 1 := ⟨m - 1, by omega⟩
    rw [history_Map_state.l0_succ]
    refine Rt.cDT (by omega) (Rt.ixe (E := opsEl) hx.sl rfl (by omega) (by omega) fun ops a us ex _ e3 e4 => ?_)
    obtain ⟨B, k, d, rfl, hops⟩ := e3
    have c0 := e4 0 _ rfl
    rw [Addr.add_zero'] at c0
    rw [Int.toNat_natCast] at ex
    obtain ⟨ho1, ho2⟩ := hF.2 ops (List.mem_of_getElem? ex)
    have hol := hops.len
    refine Rt.ol (cell_kp c0 hk) (Rt.tL ?_)
    refine Rt.jb (Rt.mono (state_l1 (n := n) (A := A) (l := l) (c := c) (y := (l : Int)) (z := (i : Int)) hops hb ho2 k 0 n N w f (by omega) (by omega) (by omega) hk hM) ?_)
    rintro _ ⟨w1, rfl, hk1, hM1⟩
    refine .inl ⟨.inr rfl, ?_⟩
    dsimp only
    (repeat (first | (with_reducible (first | refine Rt.fin ?_ | refine Rt.tL ?_ | refine Rt.tI ?_ | refine Rt.tB ?_ | refine Rt.tS ?_ | refine Rt.tP ?_ | refine Rt.tD ?_ | refine Rt.tM ?_ | refine Rt.tC ?_ | refine Rt.tN ?_ | refine Rt.tA ?_ | refine Rt.tG ?_ | refine Rt.tF ?_ | refine Rt.os ?_ | refine Rt.clS ?_ | refine Rt.jmN ?_ | refine Rt.jbN ?_ | refine Rt.jbE ?_)) | ((with_reducible (first | apply Rt.ld0 | apply Rt.ld1 | apply Rt.ld2 | apply Rt.ld3 | apply Rt.ld4 | apply Rt.ld5)); first | assumption | exact Lc.kp (by assumption) (by assumption)) | ((with_reducible apply Rt.ol); first | assumption | exact cell_kp (by assumption) (by assumption)) | ((with_reducible apply Rt.ckR); focus ((repeat (first | (with_reducible (first | refine Rt.fin ?_ | refine Rt.tL ?_ | refine Rt.tI ?_ | refine Rt.tB ?_ | refine Rt.tS ?_ | refine Rt.tP ?_ | refine Rt.tD ?_ | refine Rt.tM ?_ | refine Rt.tC ?_ | refine Rt.tN ?_ | refine Rt.tA ?_ | refine Rt.tG ?_ | refine Rt.tF ?_ | refine Rt.os ?_ | refine Rt.clS ?_ | refine Rt.jmN ?_ | refine Rt.jbN ?_ | refine Rt.jbE ?_)) | ((with_reducible (first | apply Rt.ld0 | apply Rt.ld1 | apply Rt.ld2 | apply Rt.ld3 | apply Rt.ld4 | apply Rt.ld5)); first | assumption | exact Lc.kp (by assumption) (by assumption)) | ((with_reducible apply Rt.ol); first | assumption | exact cell_kp (by assumption) (by assumption)))); exact Rt.some' rfl))))
    rw [i64_in _ (by omega), show ((i : Int) + 1) = ((i + 1 : Nat) : Int) by omega]
    refine Rt.mono (ih (i + 1) m (N + k) w1 _ (by omega) (by omega) (by omega) hk1 hM1) ?_
    rintro _ ⟨w2, rfl, hk2, hM2⟩
    refine ⟨w2, rfl, hk2, ?_⟩
    have hdrop : X.drop i = ops :: X.drop (i + 1) := by
      obtain ⟨hlt, hget⟩ := List.getElem?_eq_some_iff.1 ex
      rw [List.drop_eq_getElem_cons hlt, hget]
    rw [hdrop]
    exact hM2
theorem state_spec (hn : 2 ^ 60 < n) (h : Hm w base mb X) (hF : Fit X) : Rt (history_Map_state n [pt mb, .int .i64 (-1)] w) fun y => ∃ w', y = ([.map (some w.heap.size)], w') ∧ Kp w w' ∧ Mk w w' w.heap.size (2 ^ 19) (stF X) := by
  obtain ⟨A, c, h⟩ := h
  have hev := h.row.ownE.ev
  rw [history_Map_state_eq]
  have k1 : Kp w ((w.alloc (.map #[] 0)).drew) := ((Kp.rfl' w).al (.map #[] 0)).dr
  have hM : Mk w ((w.alloc (.map #[] 0)).drew) w.heap.size 0 fun _ => none := (Mk.new (ws := w) (w := w)).kp (Kp.rfl' _).dr
  generalize (w.alloc (.map #[] 0)).drew = w1 at k1 hM ⊢
  have l1 := h.lc.kp k1
  have hFl := hF.1
  have efirst : history_Map_first n [pt mb, .int .i64 (-1)] w1 = some ([.int .i64 (X.length : Int)], w1) := by
    have : Rt (history_Map_first n [pt mb, .int .i64 (-1)] w1) fun y => y = ([.int .i64 (X.length : Int)], w1) := by
      rw [history_Map_first_eq]
      refine Rt.fin (Rt.cDT (by decide) ?_)
      (repeat (first | (with_reducible (first | refine Rt.fin ?_ | refine Rt.tL ?_ | refine Rt.tI ?_ | refine Rt.tB ?_ | refine Rt.tS ?_ | refine Rt.tP ?_ | refine Rt.tD ?_ | refine Rt.tM ?_ | refine Rt.tC ?_ | refine Rt.tN ?_ | refine Rt.tA ?_ | refine Rt.tG ?_ | refine Rt.tF ?_ | refine Rt.os ?_ | refine Rt.clS ?_ | refine Rt.jmN ?_ | refine Rt.jbN ?_ | refine Rt.jbE ?_)) | ((with_reducible (first | apply Rt.ld0 | apply Rt.ld1 | apply Rt.ld2 | apply Rt.ld3 | apply Rt.ld4 | apply Rt.ld5)); first | assumption | exact Lc.kp (by assumption) (by assumption)) | ((with_reducible apply Rt.ol); first | assumption | exact cell_kp (by assumption) (by assumption)) | ((with_reducible apply Rt.ckR); focus ((repeat (first | (with_reducible (first | refine Rt.fin ?_ | refine Rt.tL ?_ | refine Rt.tI ?_ | refine Rt.tB ?_ | refine Rt.tS ?_ | refine Rt.tP ?_ | refine Rt.tD ?_ | refine Rt.tM ?_ | refine Rt.tC ?_ | refine Rt.tN ?_ | refine Rt.tA ?_ | refine Rt.tG ?_ | refine Rt.tF ?_ | refine Rt.os ?_ | refine Rt.clS ?_ | refine Rt.jmN ?_ | refine Rt.jbN ?_ | refine Rt.jbE ?_)) | ((with_reducible (first | apply Rt.ld0 | apply Rt.ld1 | apply Rt.ld2 | apply Rt.ld3 | apply Rt.ld4 | apply Rt.ld5)); first | assumption | exact Lc.kp (by assumption) (by assumption)) | ((with_reducible apply Rt.ol); first | assumption | exact cell_kp (by assumption) (by assumption)))); exact Rt.some' rfl))))
      exact Rt.some' ⟨rfl, rfl⟩
    obtain ⟨_, e, rfl⟩ := this
    exact e
  refine Rt.fin ?_
  (repeat (first | (with_reducible (first | refine Rt.fin ?_ | refine Rt.tL ?_ | refine Rt.tI ?_ | refine Rt.tB ?_ | refine Rt.tS ?_ | refine Rt.tP ?_ | refine Rt.tD ?_ | refine Rt.tM ?_ | refine Rt.tC ?_ | refine Rt.tN ?_ | refine Rt.tA ?_ | refine Rt.tG ?_ | refine Rt.tF ?_ | refine Rt.os ?_ | refine Rt.clS ?_ | refine Rt.jmN ?_ | refine Rt.jbN ?_ | refine Rt.jbE ?_)) | ((with_reducible (first | apply Rt.ld0 | apply Rt.ld1 | apply Rt.ld2 | apply Rt.ld3 | apply Rt.ld4 | apply Rt.ld5)); first | assumption | exact Lc.kp (by assumption) (by assumption)) | ((with_reducible apply Rt.ol); first | assumption | exact cell_kp (by assumption) (by assumption)) | ((with_reducible apply Rt.ckR); focus ((repeat (first | (with_reducible (first | refine Rt.fin ?_ | refine Rt.tL ?_ | refine Rt.tI ?_ | refine Rt.tB ?_ | refine Rt.tS ?_ | refine Rt.tP ?_ | refine Rt.tD ?_ | refine Rt.tM ?_ | refine Rt.tC ?_ | refine Rt.tN ?_ | refine Rt.tA ?_ | refine Rt.tG ?_ | refine Rt.tF ?_ | refine Rt.os ?_ | refine Rt.clS ?_ | refine Rt.jmN ?_ | refine Rt.jbN ?_ | refine Rt.jbE ?_)) | ((with_reducible (first | apply Rt.ld0 | apply Rt.ld1 | apply Rt.ld2 | apply Rt.ld3 | apply Rt.ld4 | apply Rt.ld5)); first | assumption | exact Lc.kp (by assumption) (by assumption)) | ((with_reducible apply Rt.ol); first | assumption | exact cell_kp (by assumption) (by assumption)))); exact Rt.some' rfl))))
  refine Rt.cl efirst ?_
  (repeat (first | (with_reducible (first | refine Rt.fin ?_ | refine Rt.tL ?_ | refine Rt.tI ?_ | refine Rt.tB ?_ | refine Rt.tS ?_ | refine Rt.tP ?_ | refine Rt.tD ?_ | refine Rt.tM ?_ | refine Rt.tC ?_ | refine Rt.tN ?_ | refine Rt.tA ?_ | refine Rt.tG ?_ | refine Rt.tF ?_ | refine Rt.os ?_ | refine Rt.clS ?_ | refine Rt.jmN ?_ | refine Rt.jbN ?_ | refine Rt.jbE ?_)) | ((with_reducible (first | apply Rt.ld0 | apply Rt.ld1 | apply Rt.ld2 | apply Rt.ld3 | apply Rt.ld4 | apply Rt.ld5)); first | assumption | exact Lc.kp (by assumption) (by assumption)) | ((with_reducible apply Rt.ol); first | assumption | exact cell_kp (by assumption) (by assumption)) | ((with_reducible apply Rt.ckR); focus ((repeat (first | (with_reducible (first | refine Rt.fin ?_ | refine Rt.tL ?_ | refine Rt.tI ?_ | refine Rt.tB ?_ | refine Rt.tS ?_ | refine Rt.tP ?_ | refine Rt.tD ?_ | refine Rt.tM ?_ | refine Rt.tC ?_ | refine Rt.tN ?_ | refine Rt.tA ?_ | refine Rt.tG ?_ | refine Rt.tF ?_ | refine Rt.os ?_ | refine Rt.clS ?_ | refine Rt.jmN ?_ | refine Rt.jbN ?_ | refine Rt.jbE ?_)) | ((with_reducible (first | apply Rt.ld0 | apply Rt.ld1 | apply Rt.ld2 | apply Rt.ld3 | apply Rt.ld4 | apply Rt.ld5)); first | assumption | exact Lc.kp (by assumption) (by assumption)) | ((with_reducible apply Rt.ol); first | assumption | exact cell_kp (by assumption) (by assumption)))); exact Rt.some' rfl))))
  refine Rt.cutE hev rfl (by omega) (by omega) (by omega) fun B1 e1 => ?_
  rw [Int.toNat_natCast, show Int.toNat 0 = 0 from rfl, List.drop_zero, Nat.sub_zero, Nat.sub_zero, List.take_length] at e1
  rw [Int.toNat_natCast, show Int.toNat 0 = 0 from rfl, Nat.sub_zero, Nat.sub_zero]
  refine Rt.jb (Rt.mono (state_l0 (n := n) hn e1 hF (Nat.le_refl _) X.length 0 n 0 w1 _ (by omega) (by omega) (by omega) k1 hM) ?_)
  rintro _ ⟨w2, rfl, hk2, n0, D, q1, q2, q3⟩
  refine .inl ⟨.inr rfl, ?_⟩
  dsimp only
  (repeat (first | (with_reducible (first | refine Rt.fin ?_ | refine Rt.tL ?_ | refine Rt.tI ?_ | refine Rt.tB ?_ | refine Rt.tS ?_ | refine Rt.tP ?_ | refine Rt.tD ?_ | refine Rt.tM ?_ | refine Rt.tC ?_ | refine Rt.tN ?_ | refine Rt.tA ?_ | refine Rt.tG ?_ | refine Rt.tF ?_ | refine Rt.os ?_ | refine Rt.clS ?_ | refine Rt.jmN ?_ | refine Rt.jbN ?_ | refine Rt.jbE ?_)) | ((with_reducible (first | apply Rt.ld0 | apply Rt.ld1 | apply Rt.ld2 | apply Rt.ld3 | apply Rt.ld4 | apply Rt.ld5)); first | assumption | exact Lc.kp (by assumption) (by assumption)) | ((with_reducible apply Rt.ol); first | assumption | exact cell_kp (by assumption) (by assumption)) | ((with_reducible apply Rt.ckR); focus ((repeat (first | (with_reducible (first | refine Rt.fin ?_ | refine Rt.tL ?_ | refine Rt.tI ?_ | refine Rt.tB ?_ | refine Rt.tS ?_ | refine Rt.tP ?_ | refine Rt.tD ?_ | refine Rt.tM ?_ | refine Rt.tC ?_ | refine Rt.tN ?_ | refine Rt.tA ?_ | refine Rt.tG ?_ | refine Rt.tF ?_ | refine Rt.os ?_ | refine Rt.clS ?_ | refine Rt.jmN ?_ | refine Rt.jbN ?_ | refine Rt.jbE ?_)) | ((with_reducible (first | apply Rt.ld0 | apply Rt.ld1 | apply Rt.ld2 | apply Rt.ld3 | apply Rt.ld4 | apply Rt.ld5)); first | assumption | exact Lc.kp (by assumption) (by assumption)) | ((with_reducible apply Rt.ol); first | assumption | exact cell_kp (by assumption) (by assumption)))); exact Rt.some' rfl))))
  exact Rt.some' ⟨rfl, w2, rfl, hk2, n0, D, q1, by omega, q3⟩
theorem Rt.lu2 {a b : Value} {f : List Value → Option α} (h : Rt (f [a, b]) Q) : Rt (luV (.tuple #[a, b]) f) Q := h
set_option maxRecDepth 20000 in
/-- Get of a key that is there. -/
theorem Get_spec (hn : 2 ^ 60 < n) (h : Hm w base mb X) (hF : Fit X) (hk : Bv .u8 w A l c bs) (hl : l ≤ 2 ^ 20) {v : List Int} (hv : stF X bs = some v) (hvl : v.length ≤ 2 ^ 20) : Rt (history_Map_Get n [pt mb, .slice A l c, .int .i64 (-1)] w) fun y => ∃ B m d w', y = ([.slice B m d, .bool true], w') ∧ Own .u8 5 w' w.heap.size (.slice B m d) v ∧ (∀ x ∈ v, (Lit.int .u8 x).wf = true) ∧ Kp w w' := by
  have hmax : (2 : Nat) ^ 20 < maxLen := by decide
  have hkl := hk.len
  rw [history_Map_Get_eq]
  have kd : Kp w w.drew := (Kp.rfl' w).dr
  obtain ⟨_, e, w1, rfl, k1, hM⟩ := state_spec (n := n) hn (h.kp kd) hF
  refine Rt.fin (Rt.cl e ?_)
  (repeat (first | (with_reducible (first | refine Rt.fin ?_ | refine Rt.tL ?_ | refine Rt.tI ?_ | refine Rt.tB ?_ | refine Rt.tS ?_ | refine Rt.tP ?_ | refine Rt.tD ?_ | refine Rt.tM ?_ | refine Rt.tC ?_ | refine Rt.tN ?_ | refine Rt.tA ?_ | refine Rt.tG ?_ | refine Rt.tF ?_ | refine Rt.os ?_ | refine Rt.clS ?_ | refine Rt.jmN ?_ | refine Rt.jbN ?_ | refine Rt.jbE ?_)) | ((with_reducible (first | apply Rt.ld0 | apply Rt.ld1 | apply Rt.ld2 | apply Rt.ld3 | apply Rt.ld4 | apply Rt.ld5)); first | assumption | exact Lc.kp (by assumption) (by assumption)) | ((with_reducible apply Rt.ol); first | assumption | exact cell_kp (by assumption) (by assumption)) | ((with_reducible apply Rt.ckR); focus ((repeat (first | (with_reducible (first | refine Rt.fin ?_ | refine Rt.tL ?_ | refine Rt.tI ?_ | refine Rt.tB ?_ | refine Rt.tS ?_ | refine Rt.tP ?_ | refine Rt.tD ?_ | refine Rt.tM ?_ | refine Rt.tC ?_ | refine Rt.tN ?_ | refine Rt.tA ?_ | refine Rt.tG ?_ | refine Rt.tF ?_ | refine Rt.os ?_ | refine Rt.clS ?_ | refine Rt.jmN ?_ | refine Rt.jbN ?_ | refine Rt.jbE ?_)) | ((with_reducible (first | apply Rt.ld0 | apply Rt.ld1 | apply Rt.ld2 | apply Rt.ld3 | apply Rt.ld4 | apply Rt.ld5)); first | assumption | exact Lc.kp (by assumption) (by assumption)) | ((with_reducible apply Rt.ol); first | assumption | exact cell_kp (by assumption) (by assumption)))); exact Rt.some' rfl))))
  have hkd := hk.kp kd
  refine Rt.str (hkd.kp k1) (Rt.ckR (Rt.str hkd (Rt.some' rfl)) ?_)
  obtain ⟨n0, D, hD, _, hf⟩ := hM
  obtain ⟨B1, m1, d1, q1, q2⟩ := (hf bs hk.rng).2 v hv
  obtain ⟨u, ps, hrun, hu⟩ := hD.look_ok (string_keyed k9) k45 (z23 w1) (zd := .held (.slice none 0 0)) (zp := []) rfl (keyS (a := bs) (by omega))
  rw [q1] at hu
  rw [has_true_of_atKey (fun z => q1 z)] at hrun
  have hu : some (DataW.held u, ([] : List MemPlace)) = some (.held (.slice B1 m1 d1), ps) := hu
  obtain rfl : u = .slice B1 m1 d1 := by
    have := (Prod.mk.inj (Option.some.inj hu)).1
    injection this
  rw [rn_run hrun]
  refine Rt.lu2 (Rt.tC (Rt.tL (Rt.tC (Rt.tB (Rt.tN ?_)))))
  have hb1 := q2.kp k1
  have hbl := q2.len
  refine Rt.cO (Clone_spec (n := n) hb1 (by omega)) fun C2 d2 w2 o2 k2 => ?_
  exact Rt.some' ⟨rfl, C2, _, d2, w2, rfl, o2.mono k1.size, q2.rng, (kd.tr k1).tr k2⟩
end
end Go.Proofs.Ytdcdgmiojlldaaa.Hi
