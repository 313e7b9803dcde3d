/- History: Within, Scan. -/
import Derived.Test.YtdcdgmiojlldaaaHH
namespace Go.Proofs.Ytdcdgmiojlldaaa.Hi
open Go Big Go.RowKit Go.IntWalk Go.Maps Go.WideShapes
set_option linter.unusedVariables false
set_option linter.unusedSimpArgs false
/-- Is it out of the bounds? -/
noncomputable def pd (fr to : List Int) (q : KV) : Bool := decide (cmpB q.1 fr < 0) || (decide (0 < to.length) && decide (0 ≤ cmpB q.1 to))
structure Cx (w : World) (b1 b2 : Nat) (fr to : List Int) : Prop where
  f : ∃ A l c, Lc w b1 [.slice A l c] ∧ Bv .u8 w A l c fr
  t : ∃ A l c, Lc w b2 [.slice A l c] ∧ Bv .u8 w A l c to
section
variable {α : Type} {Q : α → Prop} {n m base mb b g N i b1 b2 : Nat} {w w' w0 w1 ws : World} {A B C : Option Addr} {l c m1 d1 m2 d2 d k : Nat} {bs cs fr to : List Int} {S T : Nat → Prop} {xs ys : List PV} {vs : List Value} {gv : PV → KV}
theorem Cx.kp (h : Cx w b1 b2 fr to) (k : Kp w w') : Cx w' b1 b2 fr to := by
  obtain ⟨⟨A, l, c, h1, h2⟩, ⟨B, m, d, h3, h4⟩⟩ := h
  exact ⟨⟨A, l, c, h1.kp k, h2.kp k⟩, ⟨B, m, d, h3.kp k, h4.kp k⟩⟩
theorem Within1_spec (h : Cx w b1 b2 fr to) {q : KV} (hk : Bv .u8 w A l c q.1) {v : Value} {vA : Option Addr} {vl vc : Nat} : Rt (history_Within_1 n [.agg #[.slice A l c, .slice vA vl vc], .pointer (some ⟨b1, 0, none⟩), .pointer (some ⟨b2, 0, none⟩)] w) (RB (pd fr to q = true) w) := by
  rw [history_Within_1_eq]
  refine Rt.fin (Rt.al fun w1 l1 k1 s1 => ?_)
  obtain ⟨⟨FA, fl, fc, f1, f2⟩, ⟨TA, tl, tc, t1, t2⟩⟩ := h.kp k1
  have hk1 := hk.kp k1
  have htl := t2.len
  (repeat (first | (with_reducible (first | refine Rt.fin ?_ | refine Rt.tL ?_ | refine Rt.tI ?_ | refine Rt.tB ?_ | refine Rt.tS ?_ | refine Rt.tP ?_ | refine Rt.tD ?_ | refine Rt.tM ?_ | refine Rt.tC ?_ | refine Rt.tN ?_ | refine Rt.tA ?_ | refine Rt.tG ?_ | refine Rt.tF ?_ | refine Rt.os ?_ | refine Rt.clS ?_ | refine Rt.jmN ?_ | refine Rt.jbN ?_ | refine Rt.jbE ?_)) | ((with_reducible (first | apply Rt.ld0 | apply Rt.ld1 | apply Rt.ld2 | apply Rt.ld3 | apply Rt.ld4 | apply Rt.ld5)); first | assumption | exact Lc.kp (by assumption) (by assumption)) | ((with_reducible apply Rt.ol); first | assumption | exact cell_kp (by assumption) (by assumption)) | ((with_reducible apply Rt.ckR); focus ((repeat (first | (with_reducible (first | refine Rt.fin ?_ | refine Rt.tL ?_ | refine Rt.tI ?_ | refine Rt.tB ?_ | refine Rt.tS ?_ | refine Rt.tP ?_ | refine Rt.tD ?_ | refine Rt.tM ?_ | refine Rt.tC ?_ | refine Rt.tN ?_ | refine Rt.tA ?_ | refine Rt.tG ?_ | refine Rt.tF ?_ | refine Rt.os ?_ | refine Rt.clS ?_ | refine Rt.jmN ?_ | refine Rt.jbN ?_ | refine Rt.jbE ?_)) | ((with_reducible (first | apply Rt.ld0 | apply Rt.ld1 | apply Rt.ld2 | apply Rt.ld3 | apply Rt.ld4 | apply Rt.ld5)); first | assumption | exact Lc.kp (by assumption) (by assumption)) | ((with_reducible apply Rt.ol); first | assumption | exact cell_kp (by assumption) (by assumption)))); exact Rt.some' rfl))))
  refine Rt.cl (Compare_spec (n := n) hk1 f2) ?_
  (repeat (first | (with_reducible (first | refine Rt.fin ?_ | refine Rt.tL ?_ | refine Rt.tI ?_ | refine Rt.tB ?_ | refine Rt.tS ?_ | refine Rt.tP ?_ | refine Rt.tD ?_ | refine Rt.tM ?_ | refine Rt.tC ?_ | refine Rt.tN ?_ | refine Rt.tA ?_ | refine Rt.tG ?_ | refine Rt.tF ?_ | refine Rt.os ?_ | refine Rt.clS ?_ | refine Rt.jmN ?_ | refine Rt.jbN ?_ | refine Rt.jbE ?_)) | ((with_reducible (first | apply Rt.ld0 | apply Rt.ld1 | apply Rt.ld2 | apply Rt.ld3 | apply Rt.ld4 | apply Rt.ld5)); first | assumption | exact Lc.kp (by assumption) (by assumption)) | ((with_reducible apply Rt.ol); first | assumption | exact cell_kp (by assumption) (by assumption)) | ((with_reducible apply Rt.ckR); focus ((repeat (first | (with_reducible (first | refine Rt.fin ?_ | refine Rt.tL ?_ | refine Rt.tI ?_ | refine Rt.tB ?_ | refine Rt.tS ?_ | refine Rt.tP ?_ | refine Rt.tD ?_ | refine Rt.tM ?_ | refine Rt.tC ?_ | refine Rt.tN ?_ | refine Rt.tA ?_ | refine Rt.tG ?_ | refine Rt.tF ?_ | refine Rt.os ?_ | refine Rt.clS ?_ | refine Rt.jmN ?_ | refine Rt.jbN ?_ | refine Rt.jbE ?_)) | ((with_reducible (first | apply Rt.ld0 | apply Rt.ld1 | apply Rt.ld2 | apply Rt.ld3 | apply Rt.ld4 | apply Rt.ld5)); first | assumption | exact Lc.kp (by assumption) (by assumption)) | ((with_reducible apply Rt.ol); first | assumption | exact cell_kp (by assumption) (by assumption)))); exact Rt.some' rfl))))
  refine Rt.cD (fun hlt => Rt.endB (by unfold pd; simp [hlt]) k1) fun hge => ?_
  (repeat (first | (with_reducible (first | refine Rt.fin ?_ | refine Rt.tL ?_ | refine Rt.tI ?_ | refine Rt.tB ?_ | refine Rt.tS ?_ | refine Rt.tP ?_ | refine Rt.tD ?_ | refine Rt.tM ?_ | refine Rt.tC ?_ | refine Rt.tN ?_ | refine Rt.tA ?_ | refine Rt.tG ?_ | refine Rt.tF ?_ | refine Rt.os ?_ | refine Rt.clS ?_ | refine Rt.jmN ?_ | refine Rt.jbN ?_ | refine Rt.jbE ?_)) | ((with_reducible (first | apply Rt.ld0 | apply Rt.ld1 | apply Rt.ld2 | apply Rt.ld3 | apply Rt.ld4 | apply Rt.ld5)); first | assumption | exact Lc.kp (by assumption) (by assumption)) | ((with_reducible apply Rt.ol); first | assumption | exact cell_kp (by assumption) (by assumption)) | ((with_reducible apply Rt.ckR); focus ((repeat (first | (with_reducible (first | refine Rt.fin ?_ | refine Rt.tL ?_ | refine Rt.tI ?_ | refine Rt.tB ?_ | refine Rt.tS ?_ | refine Rt.tP ?_ | refine Rt.tD ?_ | refine Rt.tM ?_ | refine Rt.tC ?_ | refine Rt.tN ?_ | refine Rt.tA ?_ | refine Rt.tG ?_ | refine Rt.tF ?_ | refine Rt.os ?_ | refine Rt.clS ?_ | refine Rt.jmN ?_ | refine Rt.jbN ?_ | refine Rt.jbE ?_)) | ((with_reducible (first | apply Rt.ld0 | apply Rt.ld1 | apply Rt.ld2 | apply Rt.ld3 | apply Rt.ld4 | apply Rt.ld5)); first | assumption | exact Lc.kp (by assumption) (by assumption)) | ((with_reducible apply Rt.ol); first | assumption | exact cell_kp (by assumption) (by assumption)))); exact Rt.some' rfl))))
  refine Rt.cD (fun hpos => ?_) fun hz => Rt.endB (by unfold pd; simp [hge]; omega) k1
  (repeat (first | (with_reducible (first | refine Rt.fin ?_ | refine Rt.tL ?_ | refine Rt.tI ?_ | refine Rt.tB ?_ | refine Rt.tS ?_ | refine Rt.tP ?_ | refine Rt.tD ?_ | refine Rt.tM ?_ | refine Rt.tC ?_ | refine Rt.tN ?_ | refine Rt.tA ?_ | refine Rt.tG ?_ | refine Rt.tF ?_ | refine Rt.os ?_ | refine Rt.clS ?_ | refine Rt.jmN ?_ | refine Rt.jbN ?_ | refine Rt.jbE ?_)) | ((with_reducible (first | apply Rt.ld0 | apply Rt.ld1 | apply Rt.ld2 | apply Rt.ld3 | apply Rt.ld4 | apply Rt.ld5)); first | assumption | exact Lc.kp (by assumption) (by assumption)) | ((with_reducible apply Rt.ol); first | assumption | exact cell_kp (by assumption) (by assumption)) | ((with_reducible apply Rt.ckR); focus ((repeat (first | (with_reducible (first | refine Rt.fin ?_ | refine Rt.tL ?_ | refine Rt.tI ?_ | refine Rt.tB ?_ | refine Rt.tS ?_ | refine Rt.tP ?_ | refine Rt.tD ?_ | refine Rt.tM ?_ | refine Rt.tC ?_ | refine Rt.tN ?_ | refine Rt.tA ?_ | refine Rt.tG ?_ | refine Rt.tF ?_ | refine Rt.os ?_ | refine Rt.clS ?_ | refine Rt.jmN ?_ | refine Rt.jbN ?_ | refine Rt.jbE ?_)) | ((with_reducible (first | apply Rt.ld0 | apply Rt.ld1 | apply Rt.ld2 | apply Rt.ld3 | apply Rt.ld4 | apply Rt.ld5)); first | assumption | exact Lc.kp (by assumption) (by assumption)) | ((with_reducible apply Rt.ol); first | assumption | exact cell_kp (by assumption) (by assumption)))); exact Rt.some' rfl))))
  refine Rt.cl (Compare_spec (n := n) hk1 t2) ?_
  (repeat (first | (with_reducible (first | refine Rt.fin ?_ | refine Rt.tL ?_ | refine Rt.tI ?_ | refine Rt.tB ?_ | refine Rt.tS ?_ | refine Rt.tP ?_ | refine Rt.tD ?_ | refine Rt.tM ?_ | refine Rt.tC ?_ | refine Rt.tN ?_ | refine Rt.tA ?_ | refine Rt.tG ?_ | refine Rt.tF ?_ | refine Rt.os ?_ | refine Rt.clS ?_ | refine Rt.jmN ?_ | refine Rt.jbN ?_ | refine Rt.jbE ?_)) | ((with_reducible (first | apply Rt.ld0 | apply Rt.ld1 | apply Rt.ld2 | apply Rt.ld3 | apply Rt.ld4 | apply Rt.ld5)); first | assumption | exact Lc.kp (by assumption) (by assumption)) | ((with_reducible apply Rt.ol); first | assumption | exact cell_kp (by assumption) (by assumption)) | ((with_reducible apply Rt.ckR); focus ((repeat (first | (with_reducible (first | refine Rt.fin ?_ | refine Rt.tL ?_ | refine Rt.tI ?_ | refine Rt.tB ?_ | refine Rt.tS ?_ | refine Rt.tP ?_ | refine Rt.tD ?_ | refine Rt.tM ?_ | refine Rt.tC ?_ | refine Rt.tN ?_ | refine Rt.tA ?_ | refine Rt.tG ?_ | refine Rt.tF ?_ | refine Rt.os ?_ | refine Rt.clS ?_ | refine Rt.jmN ?_ | refine Rt.jbN ?_ | refine Rt.jbE ?_)) | ((with_reducible (first | apply Rt.ld0 | apply Rt.ld1 | apply Rt.ld2 | apply Rt.ld3 | apply Rt.ld4 | apply Rt.ld5)); first | assumption | exact Lc.kp (by assumption) (by assumption)) | ((with_reducible apply Rt.ol); first | assumption | exact cell_kp (by assumption) (by assumption)))); exact Rt.some' rfl))))
  have hpos' : 0 < to.length := by omega
  exact Rt.endB (by unfold pd; simp [hge, hpos']) k1
theorem Idx_l0 (hc : Cx w0 b1 b2 fr to) (hg : ∀ x ∈ xs, Bv .u8 w0 x.kA x.kl x.kc (gv x).1) (hl : l ≤ 2 ^ 20) : ∀ (q i m : Nat) (w : World), i + q = l → q < m → Kp w0 w → Row2 w base A l c xs → (∀ (t : Nat) (x : PV), t < i → xs[t]? = some x → pd fr to (gv x) = false) →
    Rt (api_Pair_28.l0 n m A l c (.func 19) #[] #[.pointer (some ⟨b1, 0, none⟩), .pointer (some ⟨b2, 0, none⟩)] (l : Int) (i : Int) w) fun y => ∃ w', Kp w w' ∧ ((y = ⟨.exit 0, [], w'⟩ ∧ ∀ (t : Nat) (x : PV), xs[t]? = some x → pd fr to (gv x) = false) ∨ ∃ i' : Nat, i' < l ∧ y = ⟨.ret, [.int .i64 (i' : Int)], w'⟩ ∧ (∃ x, xs[i']? = some x ∧ pd fr to (gv x) = true) ∧ ∀ (t : Nat) (x : PV), t < i' → xs[t]? = some x → pd fr to (gv x) = false) := by
  intro q
  induction q with
  | zero =>
    intro i m w hi hm hk hr hp
    obtain ⟨m, rfl⟩ : ∃ m', m = m' + 1 := ⟨m - 1, by omega⟩
    rw [api_Pair_28.l0_succ]
    have hlen := hr.len
    refine Rt.cDF (by omega) (Rt.some' ⟨w, Kp.rfl' w, .inl ⟨rfl, fun t x hx => hp t x ?_ hx⟩⟩)
    have := (List.getElem?_eq_some_iff.1 hx).1
    omega
  | succ q ih =>
    intro i m w hi hm hk hr hp
    obtain ⟨m, rfl⟩ : ∃ m', m = m' + 1 := ⟨m - 1, by omega⟩
    rw [api_Pair_28.l0_succ]
    refine Rt.cDT (by omega) (Rt.ldP hr (by omega) fun x hx => ?_)
    rw [Int.toNat_natCast] at hx
    refine Rt.tG (Rt.ol (v := history_Within_1 n) rfl ?_)
    obtain ⟨_, e, b, w1, rfl, hb, k1⟩ := Within1_spec (n := n) (q := gv x) (v := x.v) (vA := x.vA) (vl := x.vl) (vc := x.vc) (hc.kp hk) ((hg x (List.mem_of_getElem? hx)).kp hk)
    refine Rt.cl e (Rt.tC (Rt.tB (Rt.tN ?_)))
    refine Rt.cB (fun hbt => Rt.some' ⟨w1, k1, .inr ⟨i, by omega, rfl, ⟨x, hx, hb.1 hbt⟩, hp⟩⟩) fun hbf => ?_
    have hpf : pd fr to (gv x) = false := by
      cases e2 : pd fr to (gv x) with
      | false => rfl
      | true => rw [hb.2 e2] at hbf; cases hbf
    rw [i64_in _ (by omega), show ((i : Int) + 1) = ((i + 1 : Nat) : Int) by omega]
    refine Rt.mono (ih (i + 1) m w1 (by omega) (by omega) (hk.tr k1) (hr.kp k1) fun t z ht hz => ?_) ?_
    · by_cases e2 : t = i
      · subst e2
        rw [hx] at hz
        obtain rfl := Option.some.inj hz
        exact hpf
      · exact hp t z (by omega) hz
    · rintro y ⟨w2, k2, h2⟩
      exact ⟨w2, k1.tr k2, h2⟩
/-- What stays. -/
noncomputable def stay (fr to : List Int) (gv : PV → KV) (xs : List PV) : List PV := xs.filter fun x => !pd fr to (gv x)
theorem stay_len : (stay fr to gv xs).length ≤ xs.length := List.length_filter_le ..
theorem stay_take {j : Nat} {x : PV} (hx : xs[j]? = some x) : stay fr to gv (xs.take (j + 1)) = stay fr to gv (xs.take j) ++ (if pd fr to (gv x) = true then [] else [x]) := by
  unfold stay
  rw [List.take_add_one, hx, List.filter_append]
  congr 1
  show List.filter _ [x] = _
  cases h : pd fr to (gv x) <;> simp [h]
theorem Del_l0 (hc : Cx w0 b1 b2 fr to) (hg : ∀ x ∈ xs, Bv .u8 w0 x.kA x.kl x.kc (gv x).1) (hl : l ≤ 2 ^ 20) (hbase : w0.heap.size ≤ base) (hxl : xs.length = l) : ∀ (q i j m : Nat) (w : World) (ys : List PV), j + q = l → q < m → i ≤ j → Kp w0 w → Row2 w base A l c ys → ys.take i = stay fr to gv (xs.take j) → ys.drop j = xs.drop j →
    Rt (api_Pair.l0 n m A l c (.func 19) #[] #[.pointer (some ⟨b1, 0, none⟩), .pointer (some ⟨b2, 0, none⟩)] (i : Int) (j : Int) w) fun y => ∃ w' i' ys', y = ⟨.exit 0, [.slice A l c, .int .i64 ((i' : Nat) : Int)], w'⟩ ∧ i' ≤ l ∧ Kp w0 w' ∧ Row2 w' base A l c ys' ∧ ys'.take i' = stay fr to gv xs ∧ Gx (On (.slice A l c)) w w' := by
  intro q
  induction q with
  | zero =>
    intro i j m w ys hj hm hij hk hr ht hd
    obtain ⟨m, rfl⟩ : ∃ m', m = m' + 1 := ⟨m - 1, by omega⟩
    rw [api_Pair.l0_succ]
    rw [List.take_of_length_le (show xs.length ≤ j by omega)] at ht
    exact Rt.cDF (by omega) (Rt.some' ⟨w, i, ys, rfl, by omega, hk, hr, ht, Gx.rfl' _ _⟩)
  | succ q ih =>
    intro i j m w ys hj hm hij hk hr ht hd
    obtain ⟨m, rfl⟩ : ∃ m', m = m' + 1 := ⟨m - 1, by omega⟩
    rw [api_Pair.l0_succ]
    have hyl := hr.len
    have hrlt := hr.to.lt
    refine Rt.cDT (by omega) (Rt.jb (Rt.mono (Q' := fun y => ∃ w2 i2 ys2, y = ⟨.norm, [.slice A l c, .func (.func 19) #[] #[.pointer (some ⟨b1, 0, none⟩), .pointer (some ⟨b2, 0, none⟩)], .int .i64 ((i2 : Nat) : Int), .int .i64 (j : Int)], w2⟩ ∧ i2 ≤ j + 1 ∧ Kp w0 w2 ∧ Row2 w2 base A l c ys2 ∧ ys2.take i2 = stay fr to gv (xs.take (j + 1)) ∧ ys2.drop (j + 1) = xs.drop (j + 1) ∧ Gx (On (.slice A l c)) w w2) ?_ ?_))
    · refine Rt.ldP hr (by omega) fun x hx => ?_
      rw [Int.toNat_natCast] at hx
      have hxs : xs[j]? = some x := by
        have := congrArg (fun z => z[0]?) hd
        simpa [hx] using this.symm
      refine Rt.al fun w1 l1 k1 s1 => Rt.st0 l1 fun w2 l2 g2 => Rt.st1 l2 fun w3 l3 g3 => ?_
      have g13 := g2.tr g3
      have k03 : Kp w w3 := k1.tx g13 fun j' hj' => by have hj' : j' = w.heap.size := hj'; omega
      have hk3 := hk.tr k03
      (repeat (first | (with_reducible (first | refine Rt.fin ?_ | refine Rt.tL ?_ | refine Rt.tI ?_ | refine Rt.tB ?_ | refine Rt.tS ?_ | refine Rt.tP ?_ | refine Rt.tD ?_ | refine Rt.tM ?_ | refine Rt.tC ?_ | refine Rt.tN ?_ | refine Rt.tA ?_ | refine Rt.tG ?_ | refine Rt.tF ?_ | refine Rt.os ?_ | refine Rt.clS ?_ | refine Rt.jmN ?_ | refine Rt.jbN ?_ | refine Rt.jbE ?_)) | ((with_reducible (first | apply Rt.ld0 | apply Rt.ld1 | apply Rt.ld2 | apply Rt.ld3 | apply Rt.ld4 | apply Rt.ld5)); first | assumption | exact Lc.kp (by assumption) (by assumption)) | ((with_reducible apply Rt.ol); first | assumption | exact cell_kp (by assumption) (by assumption)) | ((with_reducible apply Rt.ckR); focus ((repeat (first | (with_reducible (first | refine Rt.fin ?_ | refine Rt.tL ?_ | refine Rt.tI ?_ | refine Rt.tB ?_ | refine Rt.tS ?_ | refine Rt.tP ?_ | refine Rt.tD ?_ | refine Rt.tM ?_ | refine Rt.tC ?_ | refine Rt.tN ?_ | refine Rt.tA ?_ | refine Rt.tG ?_ | refine Rt.tF ?_ | refine Rt.os ?_ | refine Rt.clS ?_ | refine Rt.jmN ?_ | refine Rt.jbN ?_ | refine Rt.jbE ?_)) | ((with_reducible (first | apply Rt.ld0 | apply Rt.ld1 | apply Rt.ld2 | apply Rt.ld3 | apply Rt.ld4 | apply Rt.ld5)); first | assumption | exact Lc.kp (by assumption) (by assumption)) | ((with_reducible apply Rt.ol); first | assumption | exact cell_kp (by assumption) (by assumption)))); exact Rt.some' rfl))))
      refine Rt.ol (v := history_Within_1 n) rfl ?_
      obtain ⟨_, e, b, w4, rfl, hb, k4⟩ := Within1_spec (n := n) (q := gv x) (v := x.v) (vA := x.vA) (vl := x.vl) (vc := x.vc) (hc.kp hk3) ((hg x (List.mem_of_getElem? hxs)).kp hk3)
      refine Rt.cl e (Rt.tC (Rt.tB (Rt.tN ?_)))
      have l4 := l3.kp k4
      have k04 := k03.tr k4
      have hk4 := hk3.tr k4
      have hr4 := hr.kp k04
      cases hpx : pd fr to (gv x) with
      | true =>
        have hbt : b = true := hb.2 hpx
        refine Rt.cF (by rw [hbt]; rfl) (Rt.some' ⟨w4, i, ys, rfl, by omega, hk4, hr4, ?_, ?_, k04.gx⟩)
        · rw [stay_take hxs, if_pos hpx, List.append_nil]; exact ht
        · have := congrArg (List.drop 1) hd
          simpa [List.drop_drop, Nat.add_comm] using this
      | false =>
        have hbf : b = false := by
          cases e2 : b with
          | false => rfl
          | true => rw [hb.1 e2] at hpx; cases hpx
        refine Rt.cT (by rw [hbf]; rfl) ?_
        (repeat (first | (with_reducible (first | refine Rt.fin ?_ | refine Rt.tL ?_ | refine Rt.tI ?_ | refine Rt.tB ?_ | refine Rt.tS ?_ | refine Rt.tP ?_ | refine Rt.tD ?_ | refine Rt.tM ?_ | refine Rt.tC ?_ | refine Rt.tN ?_ | refine Rt.tA ?_ | refine Rt.tG ?_ | refine Rt.tF ?_ | refine Rt.os ?_ | refine Rt.clS ?_ | refine Rt.jmN ?_ | refine Rt.jbN ?_ | refine Rt.jbE ?_)) | ((with_reducible (first | apply Rt.ld0 | apply Rt.ld1 | apply Rt.ld2 | apply Rt.ld3 | apply Rt.ld4 | apply Rt.ld5)); first | assumption | exact Lc.kp (by assumption) (by assumption)) | ((with_reducible apply Rt.ol); first | assumption | exact cell_kp (by assumption) (by assumption)) | ((with_reducible apply Rt.ckR); focus ((repeat (first | (with_reducible (first | refine Rt.fin ?_ | refine Rt.tL ?_ | refine Rt.tI ?_ | refine Rt.tB ?_ | refine Rt.tS ?_ | refine Rt.tP ?_ | refine Rt.tD ?_ | refine Rt.tM ?_ | refine Rt.tC ?_ | refine Rt.tN ?_ | refine Rt.tA ?_ | refine Rt.tG ?_ | refine Rt.tF ?_ | refine Rt.os ?_ | refine Rt.clS ?_ | refine Rt.jmN ?_ | refine Rt.jbN ?_ | refine Rt.jbE ?_)) | ((with_reducible (first | apply Rt.ld0 | apply Rt.ld1 | apply Rt.ld2 | apply Rt.ld3 | apply Rt.ld4 | apply Rt.ld5)); first | assumption | exact Lc.kp (by assumption) (by assumption)) | ((with_reducible apply Rt.ol); first | assumption | exact cell_kp (by assumption) (by assumption)))); exact Rt.some' rfl))))
        refine Rt.stP hr4 (i := (i : Int)) (by omega) x fun w5 r5 g5 => ?_
        rw [Int.toNat_natCast] at r5
        rw [i64_in _ (by omega), show ((i : Int) + 1) = ((i + 1 : Nat) : Int) by omega]
        refine Rt.some' ⟨w5, i + 1, ys.set i x, rfl, by omega, hk4.tx g5 fun j' hj' => by have := (hrlt j' hj').1; omega, r5, ?_, ?_, k04.gx.tr g5⟩
        · rw [stay_take hxs, if_neg (by rw [hpx]; simp), ← ht]
          refine List.ext_getElem? fun t => ?_
          rw [List.getElem?_take]
          by_cases e1 : t < i
          · rw [if_pos (by omega), List.getElem?_set_ne (by omega), List.getElem?_append_left (by rw [List.length_take]; omega), List.getElem?_take, if_pos e1]
          · by_cases e2 : t = i
            · subst e2
              rw [if_pos (by omega), List.getElem?_set_self (by omega), List.getElem?_append_right (by rw [List.length_take]; omega), List.length_take, show t - min t ys.length = 0 by omega]; rfl
            · rw [if_neg (by omega), List.getElem?_eq_none (by rw [List.length_append, List.length_take, List.length_singleton]; omega)]
        · rw [List.drop_set_of_lt (by omega)]
          have := congrArg (List.drop 1) hd
          simpa [List.drop_drop, Nat.add_comm] using this
    · rintro _ ⟨w2, i2, ys2, rfl, hi2, hk2, hr2, ht2, hd2, g2⟩
      refine .inl ⟨.inl rfl, ?_⟩
      dsimp only
      (repeat (first | (with_reducible (first | refine Rt.fin ?_ | refine Rt.tL ?_ | refine Rt.tI ?_ | refine Rt.tB ?_ | refine Rt.tS ?_ | refine Rt.tP ?_ | refine Rt.tD ?_ | refine Rt.tM ?_ | refine Rt.tC ?_ | refine Rt.tN ?_ | refine Rt.tA ?_ | refine Rt.tG ?_ | refine Rt.tF ?_ | refine Rt.os ?_ | refine Rt.clS ?_ | refine Rt.jmN ?_ | refine Rt.jbN ?_ | refine Rt.jbE ?_)) | ((with_reducible (first | apply Rt.ld0 | apply Rt.ld1 | apply Rt.ld2 | apply Rt.ld3 | apply Rt.ld4 | apply Rt.ld5)); first | assumption | exact Lc.kp (by assumption) (by assumption)) | ((with_reducible apply Rt.ol); first | assumption | exact cell_kp (by assumption) (by assumption)) | ((with_reducible apply Rt.ckR); focus ((repeat (first | (with_reducible (first | refine Rt.fin ?_ | refine Rt.tL ?_ | refine Rt.tI ?_ | refine Rt.tB ?_ | refine Rt.tS ?_ | refine Rt.tP ?_ | refine Rt.tD ?_ | refine Rt.tM ?_ | refine Rt.tC ?_ | refine Rt.tN ?_ | refine Rt.tA ?_ | refine Rt.tG ?_ | refine Rt.tF ?_ | refine Rt.os ?_ | refine Rt.clS ?_ | refine Rt.jmN ?_ | refine Rt.jbN ?_ | refine Rt.jbE ?_)) | ((with_reducible (first | apply Rt.ld0 | apply Rt.ld1 | apply Rt.ld2 | apply Rt.ld3 | apply Rt.ld4 | apply Rt.ld5)); first | assumption | exact Lc.kp (by assumption) (by assumption)) | ((with_reducible apply Rt.ol); first | assumption | exact cell_kp (by assumption) (by assumption)))); exact Rt.some' rfl))))
      rw [i64_in _ (by omega), show ((j : Int) + 1) = ((j + 1 : Nat) : Int) by omega]
      refine Rt.mono (ih i2 (j + 1) m w2 ys2 (by omega) (by omega) hi2 hk2 hr2 ht2 hd2) ?_
      rintro _ ⟨w3, i3, ys3, rfl, h1, h2, h3, h4, h5⟩
      exact ⟨w3, i3, ys3, rfl, h1, h2, h3, h4, g2.tr h5⟩
end
end Go.Proofs.Ytdcdgmiojlldaaa.Hi
