/- The sort's functions: reversal, the nearly sorted, the choice of a pivot. -/
import Derived.Test.YtdcdgmiojlldaaaH2
namespace Go.Proofs.Ytdcdgmiojlldaaa.Hi
open Go Big Go.RowKit Go.IntWalk
set_option linter.unusedVariables false
set_option linter.unusedSimpArgs false
section
variable {α : Type} {Q : α → Prop} {n m base : Nat} {w w' w0 w1 : World} {A B C D : Option Addr} {l c m1 d1 m2 d2 : Nat} {xs : List PV} {i j p q r s a b : Int} {bs cs : List Int} {T : List PV} {kb : PV → List Int}
theorem Rev_l0 (hl : l ≤ 2 ^ 20) : ∀ (q m : Nat) (i j : Int) (w : World), Iv T kb w0 w base A l c → 0 ≤ i → i ≤ 2 ^ 21 → j < l → -2 ^ 21 ≤ j → j - i < q → q < m → Rt (api_Pair_39.l0 n m A l c i j w) fun y => ∃ w', y = ⟨.exit 0, [], w'⟩ ∧ Iv T kb w0 w' base A l c := by
  intro q
  induction q with
  | zero =>
    intro m i j w h h1 h2 h3 h4 h5 hm
    obtain ⟨m, rfl⟩ : ∃ m', m = m' + 1 := ⟨m - 1, by omega⟩
    rw [api_Pair_39.l0_succ]
    exact Rt.cDF (by omega) (Rt.some' ⟨_, rfl, h⟩)
  | succ q ih =>
    intro m i j w h h1 h2 h3 h4 h5 hm
    obtain ⟨m, rfl⟩ : ∃ m', m = m' + 1 := ⟨m - 1, by omega⟩
    rw [api_Pair_39.l0_succ]
    refine Rt.cD (fun hij => ?_) fun _ => Rt.some' ⟨_, rfl, h⟩
    refine Rt.swpR h (by omega) (by omega) (by omega) (by omega) fun w1 h1 => ?_
    rw [i64_in (i + 1) (by omega), i64_in (j - 1) (by omega)]
    exact ih m (i + 1) (j - 1) w1 h1 (by omega) (by omega) (by omega) (by omega) (by omega) (by omega)
theorem Rev_spec (hl : l ≤ 2 ^ 20) (hn : 2 ^ 60 < n) (h : Iv T kb w0 w base A l c) (ha : 0 ≤ a) (hab : a ≤ b) (hb : b ≤ l) : Rt (api_Pair_39 n [.slice A l c, .int .i64 a, .int .i64 b, cmpV] w) fun y => ∃ w', y = ([], w') ∧ Iv T kb w0 w' base A l c := by
  rw [api_Pair_39_eq, i64_in (b - 1) (by omega)]
  refine Rt.fin (Rt.jb (Rt.mono (Rev_l0 (n := n) hl (2 ^ 21) n a (b - 1) w h (by omega) (by omega) (by omega) (by omega) (by omega) (by omega)) ?_))
  rintro _ ⟨w1, rfl, h1⟩
  exact .inl ⟨.inr rfl, Rt.tN (Rt.some' ⟨rfl, w1, rfl, h1⟩)⟩
theorem Par_l1 (hl : l ≤ 2 ^ 20) {a b jj : Int} (hb : b ≤ l) : ∀ (q m : Nat) (i : Int) (w : World), Iv T kb w0 w base A l c → 1 ≤ i → i ≤ b → b - i < q → q < m → Rt (api_Pair_40.l1 n m A l c a b (.func 23) #[] #[] i jj w) fun y => ∃ w' i', y = ⟨.exit 2, [.slice A l c, .int .i64 a, .int .i64 b, cmpV, .int .i64 i', .int .i64 jj], w'⟩ ∧ i ≤ i' ∧ i' ≤ b ∧ Iv T kb w0 w' base A l c := by
  intro q
  induction q with
  | zero => intro m i w h h1 h2 h3; omega
  | succ q ih =>
    intro m i w h h1 h2 h3 hm
    obtain ⟨m, rfl⟩ : ∃ m', m = m' + 1 := ⟨m - 1, by omega⟩
    rw [api_Pair_40.l1_succ]
    refine Rt.cD (fun hi => ?_) fun _ => Rt.some' ⟨_, _, rfl, Int.le_refl _, h2, h.dr⟩
    rw [i64_in (i - 1) (by omega)]
    refine Rt.cmpR h (by omega) (by omega) rfl fun k w1 h1 => ?_
    refine Rt.cB (fun _ => ?_) fun _ => Rt.some' ⟨_, _, rfl, Int.le_refl _, h2, h1⟩
    rw [i64_in (i + 1) (by omega)]
    refine Rt.mono (ih m (i + 1) w1 h1 (by omega) (by omega) (by omega) (by omega)) ?_
    rintro _ ⟨w2, i2, rfl, e1, e2, h2⟩
    exact ⟨w2, i2, rfl, by omega, e2, h2⟩
theorem Par_l2 (hl : l ≤ 2 ^ 20) {a b i jj : Int} : ∀ (q m : Nat) (j : Int) (w : World), Iv T kb w0 w base A l c → 0 ≤ j → j < l → j < q → q < m → Rt (api_Pair_40.l2 n m A l c a b (.func 23) #[] #[] i jj j w) fun y => ∃ w', y = ⟨.exit 4, [.slice A l c, .int .i64 a, .int .i64 b, cmpV, .int .i64 i, .int .i64 jj], w'⟩ ∧ Iv T kb w0 w' base A l c := by
  intro q
  induction q with
  | zero => intro m j w h h1 h2 h3; omega
  | succ q ih =>
    intro m j w h h1 h2 h3 hm
    obtain ⟨m, rfl⟩ : ∃ m', m = m' + 1 := ⟨m - 1, by omega⟩
    rw [api_Pair_40.l2_succ]
    refine Rt.cD (fun hi => ?_) fun _ => Rt.some' ⟨_, rfl, h⟩
    rw [i64_in (j - 1) (by omega)]
    refine Rt.cmpR h (by omega) (by omega) rfl fun k w1 h1 => ?_
    refine Rt.cB (fun _ => Rt.some' ⟨_, rfl, h1⟩) fun _ => ?_
    refine Rt.swpR h1 (by omega) (by omega) (by omega) (by omega) fun w2 h2 => ?_
    exact ih m (j - 1) w2 h2 (by omega) (by omega) (by omega) (by omega)
theorem Par_l3 (hl : l ≤ 2 ^ 20) {a b i jj : Int} (hb : b ≤ l) : ∀ (q m : Nat) (j : Int) (w : World), Iv T kb w0 w base A l c → 1 ≤ j → j ≤ 2 ^ 21 → b - j < q → q < m → Rt (api_Pair_40.l3 n m A l c a b (.func 23) #[] #[] i jj j w) fun y => ∃ w', y = ⟨.exit 6, [.slice A l c, .int .i64 a, .int .i64 b, cmpV, .int .i64 i, .int .i64 jj], w'⟩ ∧ Iv T kb w0 w' base A l c := by
  intro q
  induction q with
  | zero =>
    intro m j w h h1 h2 h3 hm
    obtain ⟨m, rfl⟩ : ∃ m', m = m' + 1 := ⟨m - 1, by omega⟩
    rw [api_Pair_40.l3_succ]
    exact Rt.cDF (by omega) (Rt.some' ⟨_, rfl, h⟩)
  | succ q ih =>
    intro m j w h h1 h2 h3 hm
    obtain ⟨m, rfl⟩ : ∃ m', m = m' + 1 := ⟨m - 1, by omega⟩
    rw [api_Pair_40.l3_succ]
    refine Rt.cD (fun hi => ?_) fun _ => Rt.some' ⟨_, rfl, h⟩
    rw [i64_in (j - 1) (by omega)]
    refine Rt.cmpR h (by omega) (by omega) rfl fun k w1 h1 => ?_
    refine Rt.cB (fun _ => Rt.some' ⟨_, rfl, h1⟩) fun _ => ?_
    refine Rt.swpR h1 (by omega) (by omega) (by omega) (by omega) fun w2 h2 => ?_
    rw [i64_in (j + 1) (by omega)]
    exact ih m (j + 1) w2 h2 (by omega) (by omega) (by omega) (by omega)
theorem Par_l0 (hl : l ≤ 2 ^ 20) (hn : 2 ^ 60 < n) {a b : Int} (ha : 0 ≤ a) (hb : b ≤ l) : ∀ (q m : Nat) (i j : Int) (w : World), Iv T kb w0 w base A l c → a < i → i ≤ b → 0 ≤ j → j ≤ 5 → 5 - j < q → q < m → Rt (api_Pair_40.l0 n m A l c a b (.func 23) #[] #[] i j w) fun y => ∃ w', (y = ⟨.exit 0, [], w'⟩ ∨ ∃ bb, y = ⟨.ret, [.bool bb], w'⟩) ∧ Iv T kb w0 w' base A l c := by
  intro q
  induction q with
  | zero => intro m i j w h h1 h2 h3 h4 h5; omega
  | succ q ih =>
    intro m i j w h h1 h2 h3 h4 h5 hm
    obtain ⟨m, rfl⟩ : ∃ m', m = m' + 1 := ⟨m - 1, by omega⟩
    rw [api_Pair_40.l0_succ]
    refine Rt.cD (fun hj => ?_) fun _ => Rt.some' ⟨_, .inl rfl, h⟩
    refine Rt.jb (Rt.mono (Q' := fun y => ∃ w1, Iv T kb w0 w1 base A l c ∧ ((∃ i1, y = ⟨.norm, [.slice A l c, .int .i64 a, .int .i64 b, cmpV, .int .i64 i1, .int .i64 j], w1⟩ ∧ a < i1 ∧ i1 ≤ b) ∨ ∃ bb, y = ⟨.ret, [.bool bb], w1⟩)) ?_ ?_)
    · refine Rt.jb (Rt.mono (Par_l1 (n := n) (a := a) (jj := j) hl hb (2 ^ 21) n i w h (by omega) (by omega) (by omega) (by omega)) ?_)
      rintro _ ⟨w1, i1, rfl, c1, c2, h1⟩
      refine .inl ⟨.inr rfl, ?_⟩
      dsimp only
      (repeat (first | (with_reducible (first | refine Rt.fin ?_ | refine Rt.tL ?_ | refine Rt.tI ?_ | refine Rt.tB ?_ | refine Rt.tS ?_ | refine Rt.tP ?_ | refine Rt.tD ?_ | refine Rt.tM ?_ | refine Rt.tC ?_ | refine Rt.tN ?_ | refine Rt.tA ?_ | refine Rt.tG ?_ | refine Rt.tF ?_ | refine Rt.os ?_ | refine Rt.clS ?_ | refine Rt.jmN ?_ | refine Rt.jbN ?_ | refine Rt.jbE ?_)) | ((with_reducible (first | apply Rt.ld0 | apply Rt.ld1 | apply Rt.ld2 | apply Rt.ld3 | apply Rt.ld4 | apply Rt.ld5)); first | assumption | exact Lc.kp (by assumption) (by assumption)) | ((with_reducible apply Rt.ol); first | assumption | exact cell_kp (by assumption) (by assumption)) | ((with_reducible apply Rt.ckR); focus ((repeat (first | (with_reducible (first | refine Rt.fin ?_ | refine Rt.tL ?_ | refine Rt.tI ?_ | refine Rt.tB ?_ | refine Rt.tS ?_ | refine Rt.tP ?_ | refine Rt.tD ?_ | refine Rt.tM ?_ | refine Rt.tC ?_ | refine Rt.tN ?_ | refine Rt.tA ?_ | refine Rt.tG ?_ | refine Rt.tF ?_ | refine Rt.os ?_ | refine Rt.clS ?_ | refine Rt.jmN ?_ | refine Rt.jbN ?_ | refine Rt.jbE ?_)) | ((with_reducible (first | apply Rt.ld0 | apply Rt.ld1 | apply Rt.ld2 | apply Rt.ld3 | apply Rt.ld4 | apply Rt.ld5)); first | assumption | exact Lc.kp (by assumption) (by assumption)) | ((with_reducible apply Rt.ol); first | assumption | exact cell_kp (by assumption) (by assumption)))); exact Rt.some' rfl))))
      refine Rt.cQ (fun _ => Rt.some' ⟨w1, h1, .inr ⟨_, rfl⟩⟩) fun hne => ?_
      rw [i64_in (b - a) (by omega)]
      refine Rt.cD (fun _ => Rt.some' ⟨w1, h1, .inr ⟨_, rfl⟩⟩) fun _ => ?_
      rw [i64_in (i1 - 1) (by omega)]
      refine Rt.swpR h1 (by omega) (by omega) (by omega) (by omega) fun w2 h2 => ?_
      refine Rt.jm (Rt.mono (Q' := fun y => ∃ w3, y = ⟨.norm, [.slice A l c, .int .i64 a, .int .i64 b, cmpV, .int .i64 i1, .int .i64 j], w3⟩ ∧ Iv T kb w0 w3 base A l c) ?_ ?_)
      · rw [i64_in (i1 - a) (by omega)]
        refine Rt.cD (fun _ => ?_) fun _ => Rt.some' ⟨_, rfl, h2⟩
        refine Rt.jb (Rt.mono (Par_l2 (n := n) (a := a) (b := b) (i := i1) (jj := j) hl (2 ^ 21) n (i1 - 1) w2 h2 (by omega) (by omega) (by omega) (by omega)) ?_)
        rintro _ ⟨w3, rfl, h3⟩
        refine .inl ⟨.inr rfl, ?_⟩
        dsimp only
        (repeat (first | (with_reducible (first | refine Rt.fin ?_ | refine Rt.tL ?_ | refine Rt.tI ?_ | refine Rt.tB ?_ | refine Rt.tS ?_ | refine Rt.tP ?_ | refine Rt.tD ?_ | refine Rt.tM ?_ | refine Rt.tC ?_ | refine Rt.tN ?_ | refine Rt.tA ?_ | refine Rt.tG ?_ | refine Rt.tF ?_ | refine Rt.os ?_ | refine Rt.clS ?_ | refine Rt.jmN ?_ | refine Rt.jbN ?_ | refine Rt.jbE ?_)) | ((with_reducible (first | apply Rt.ld0 | apply Rt.ld1 | apply Rt.ld2 | apply Rt.ld3 | apply Rt.ld4 | apply Rt.ld5)); first | assumption | exact Lc.kp (by assumption) (by assumption)) | ((with_reducible apply Rt.ol); first | assumption | exact cell_kp (by assumption) (by assumption)) | ((with_reducible apply Rt.ckR); focus ((repeat (first | (with_reducible (first | refine Rt.fin ?_ | refine Rt.tL ?_ | refine Rt.tI ?_ | refine Rt.tB ?_ | refine Rt.tS ?_ | refine Rt.tP ?_ | refine Rt.tD ?_ | refine Rt.tM ?_ | refine Rt.tC ?_ | refine Rt.tN ?_ | refine Rt.tA ?_ | refine Rt.tG ?_ | refine Rt.tF ?_ | refine Rt.os ?_ | refine Rt.clS ?_ | refine Rt.jmN ?_ | refine Rt.jbN ?_ | refine Rt.jbE ?_)) | ((with_reducible (first | apply Rt.ld0 | apply Rt.ld1 | apply Rt.ld2 | apply Rt.ld3 | apply Rt.ld4 | apply Rt.ld5)); first | assumption | exact Lc.kp (by assumption) (by assumption)) | ((with_reducible apply Rt.ol); first | assumption | exact cell_kp (by assumption) (by assumption)))); exact Rt.some' rfl))))
        exact Rt.some' ⟨_, rfl, h3⟩
      rintro _ ⟨w3, rfl, h3⟩
      refine ⟨rfl, ?_⟩
      dsimp only
      (repeat (first | (with_reducible (first | refine Rt.fin ?_ | refine Rt.tL ?_ | refine Rt.tI ?_ | refine Rt.tB ?_ | refine Rt.tS ?_ | refine Rt.tP ?_ | refine Rt.tD ?_ | refine Rt.tM ?_ | refine Rt.tC ?_ | refine Rt.tN ?_ | refine Rt.tA ?_ | refine Rt.tG ?_ | refine Rt.tF ?_ | refine Rt.os ?_ | refine Rt.clS ?_ | refine Rt.jmN ?_ | refine Rt.jbN ?_ | refine Rt.jbE ?_)) | ((with_reducible (first | apply Rt.ld0 | apply Rt.ld1 | apply Rt.ld2 | apply Rt.ld3 | apply Rt.ld4 | apply Rt.ld5)); first | assumption | exact Lc.kp (by assumption) (by assumption)) | ((with_reducible apply Rt.ol); first | assumption | exact cell_kp (by assumption) (by assumption)) | ((with_reducible apply Rt.ckR); focus ((repeat (first | (with_reducible (first | refine Rt.fin ?_ | refine Rt.tL ?_ | refine Rt.tI ?_ | refine Rt.tB ?_ | refine Rt.tS ?_ | refine Rt.tP ?_ | refine Rt.tD ?_ | refine Rt.tM ?_ | refine Rt.tC ?_ | refine Rt.tN ?_ | refine Rt.tA ?_ | refine Rt.tG ?_ | refine Rt.tF ?_ | refine Rt.os ?_ | refine Rt.clS ?_ | refine Rt.jmN ?_ | refine Rt.jbN ?_ | refine Rt.jbE ?_)) | ((with_reducible (first | apply Rt.ld0 | apply Rt.ld1 | apply Rt.ld2 | apply Rt.ld3 | apply Rt.ld4 | apply Rt.ld5)); first | assumption | exact Lc.kp (by assumption) (by assumption)) | ((with_reducible apply Rt.ol); first | assumption | exact cell_kp (by assumption) (by assumption)))); exact Rt.some' rfl))))
      rw [i64_in (b - i1) (by omega)]
      refine Rt.cD (fun _ => ?_) fun _ => Rt.some' ⟨_, h3, .inl ⟨i1, rfl, by omega, by omega⟩⟩
      rw [i64_in (i1 + 1) (by omega)]
      refine Rt.jb (Rt.mono (Par_l3 (n := n) (a := a) (b := b) (i := i1) (jj := j) hl hb (2 ^ 21) n (i1 + 1) w3 h3 (by omega) (by omega) (by omega) (by omega)) ?_)
      rintro _ ⟨w4, rfl, h4⟩
      refine .inl ⟨.inr rfl, ?_⟩
      dsimp only
      (repeat (first | (with_reducible (first | refine Rt.fin ?_ | refine Rt.tL ?_ | refine Rt.tI ?_ | refine Rt.tB ?_ | refine Rt.tS ?_ | refine Rt.tP ?_ | refine Rt.tD ?_ | refine Rt.tM ?_ | refine Rt.tC ?_ | refine Rt.tN ?_ | refine Rt.tA ?_ | refine Rt.tG ?_ | refine Rt.tF ?_ | refine Rt.os ?_ | refine Rt.clS ?_ | refine Rt.jmN ?_ | refine Rt.jbN ?_ | refine Rt.jbE ?_)) | ((with_reducible (first | apply Rt.ld0 | apply Rt.ld1 | apply Rt.ld2 | apply Rt.ld3 | apply Rt.ld4 | apply Rt.ld5)); first | assumption | exact Lc.kp (by assumption) (by assumption)) | ((with_reducible apply Rt.ol); first | assumption | exact cell_kp (by assumption) (by assumption)) | ((with_reducible apply Rt.ckR); focus ((repeat (first | (with_reducible (first | refine Rt.fin ?_ | refine Rt.tL ?_ | refine Rt.tI ?_ | refine Rt.tB ?_ | refine Rt.tS ?_ | refine Rt.tP ?_ | refine Rt.tD ?_ | refine Rt.tM ?_ | refine Rt.tC ?_ | refine Rt.tN ?_ | refine Rt.tA ?_ | refine Rt.tG ?_ | refine Rt.tF ?_ | refine Rt.os ?_ | refine Rt.clS ?_ | refine Rt.jmN ?_ | refine Rt.jbN ?_ | refine Rt.jbE ?_)) | ((with_reducible (first | apply Rt.ld0 | apply Rt.ld1 | apply Rt.ld2 | apply Rt.ld3 | apply Rt.ld4 | apply Rt.ld5)); first | assumption | exact Lc.kp (by assumption) (by assumption)) | ((with_reducible apply Rt.ol); first | assumption | exact cell_kp (by assumption) (by assumption)))); exact Rt.some' rfl))))
      exact Rt.some' ⟨_, h4, .inl ⟨i1, rfl, by omega, by omega⟩⟩
    rintro _ ⟨w1, h1, ⟨i1, rfl, c1, c2⟩ | ⟨bb, rfl⟩⟩
    · refine .inl ⟨.inl rfl, ?_⟩
      dsimp only
      (repeat (first | (with_reducible (first | refine Rt.fin ?_ | refine Rt.tL ?_ | refine Rt.tI ?_ | refine Rt.tB ?_ | refine Rt.tS ?_ | refine Rt.tP ?_ | refine Rt.tD ?_ | refine Rt.tM ?_ | refine Rt.tC ?_ | refine Rt.tN ?_ | refine Rt.tA ?_ | refine Rt.tG ?_ | refine Rt.tF ?_ | refine Rt.os ?_ | refine Rt.clS ?_ | refine Rt.jmN ?_ | refine Rt.jbN ?_ | refine Rt.jbE ?_)) | ((with_reducible (first | apply Rt.ld0 | apply Rt.ld1 | apply Rt.ld2 | apply Rt.ld3 | apply Rt.ld4 | apply Rt.ld5)); first | assumption | exact Lc.kp (by assumption) (by assumption)) | ((with_reducible apply Rt.ol); first | assumption | exact cell_kp (by assumption) (by assumption)) | ((with_reducible apply Rt.ckR); focus ((repeat (first | (with_reducible (first | refine Rt.fin ?_ | refine Rt.tL ?_ | refine Rt.tI ?_ | refine Rt.tB ?_ | refine Rt.tS ?_ | refine Rt.tP ?_ | refine Rt.tD ?_ | refine Rt.tM ?_ | refine Rt.tC ?_ | refine Rt.tN ?_ | refine Rt.tA ?_ | refine Rt.tG ?_ | refine Rt.tF ?_ | refine Rt.os ?_ | refine Rt.clS ?_ | refine Rt.jmN ?_ | refine Rt.jbN ?_ | refine Rt.jbE ?_)) | ((with_reducible (first | apply Rt.ld0 | apply Rt.ld1 | apply Rt.ld2 | apply Rt.ld3 | apply Rt.ld4 | apply Rt.ld5)); first | assumption | exact Lc.kp (by assumption) (by assumption)) | ((with_reducible apply Rt.ol); first | assumption | exact cell_kp (by assumption) (by assumption)))); exact Rt.some' rfl))))
      rw [i64_in (j + 1) (by omega)]
      exact ih m i1 (j + 1) w1 h1 c1 c2 (by omega) (by omega) (by omega) (by omega)
    · exact .inr ⟨rfl, w1, .inr ⟨bb, rfl⟩, h1⟩
theorem Par_spec (hl : l ≤ 2 ^ 20) (hn : 2 ^ 60 < n) (h : Iv T kb w0 w base A l c) (ha : 0 ≤ a) (hab : a < b) (hb : b ≤ l) : Rt (api_Pair_40 n [.slice A l c, .int .i64 a, .int .i64 b, cmpV] w) fun y => ∃ w' bb, y = ([.bool bb], w') ∧ Iv T kb w0 w' base A l c := by
  rw [api_Pair_40_eq, i64_in (a + 1) (by omega)]
  refine Rt.fin (Rt.jb (Rt.mono (Par_l0 (n := n) hl hn ha hb 6 n (a + 1) 0 w h (by omega) (by omega) (by omega) (by omega) (by omega) (by omega)) ?_))
  rintro _ ⟨w1, rfl | ⟨bb, rfl⟩, h1⟩
  · exact .inl ⟨.inr rfl, Rt.tN (Rt.some' ⟨rfl, w1, _, rfl, h1⟩)⟩
  · exact .inr ⟨rfl, rfl, w1, _, rfl, h1⟩
/-! ### The pivot -/
variable {sb : Nat} {lo hi : Int}
/-- The count of exchanges lies in a new block. -/
structure Sw (w0 w : World) (A : Option Addr) (l c sb : Nat) : Prop where
  lc : ∃ z, Lc w sb [.int .i64 z]
  new : w0.heap.size ≤ sb
  off : ¬ On (.slice A l c) sb
theorem Sw.kp (h : Sw w0 w A l c sb) (k : Kp w w') : Sw w0 w' A l c sb := ⟨h.lc.imp fun z hz => hz.kp k, h.new, h.off⟩
theorem Ord_spec (h : Iv T kb w0 w base A l c) (hs : Sw w0 w A l c sb) (h1 : lo ≤ a ∧ a < hi) (h2 : lo ≤ b ∧ b < hi) (h0 : 0 ≤ lo) (hh : hi ≤ l) : Rt (api_Pair_50 n [.slice A l c, .int .i64 a, .int .i64 b, .pointer (some ⟨sb, 0, none⟩), cmpV] w) fun y => ∃ w' x z, y = ([.int .i64 x, .int .i64 z], w') ∧ (lo ≤ x ∧ x < hi) ∧ (lo ≤ z ∧ z < hi) ∧ Iv T kb w0 w' base A l c ∧ Sw w0 w' A l c sb := by
  rw [api_Pair_50_eq]
  refine Rt.fin (Rt.cmpK h (by omega) (by omega) rfl fun k w1 h1' k1 => ?_)
  have hs1 := hs.kp k1
  obtain ⟨z, hz⟩ := hs1.lc
  refine Rt.cD (fun _ => ?_) fun _ => Rt.some' ⟨rfl, w1, a, b, rfl, h1, h2, h1', hs1⟩
  (repeat (first | (with_reducible (first | refine Rt.fin ?_ | refine Rt.tL ?_ | refine Rt.tI ?_ | refine Rt.tB ?_ | refine Rt.tS ?_ | refine Rt.tP ?_ | refine Rt.tD ?_ | refine Rt.tM ?_ | refine Rt.tC ?_ | refine Rt.tN ?_ | refine Rt.tA ?_ | refine Rt.tG ?_ | refine Rt.tF ?_ | refine Rt.os ?_ | refine Rt.clS ?_ | refine Rt.jmN ?_ | refine Rt.jbN ?_ | refine Rt.jbE ?_)) | ((with_reducible (first | apply Rt.ld0 | apply Rt.ld1 | apply Rt.ld2 | apply Rt.ld3 | apply Rt.ld4 | apply Rt.ld5)); first | assumption | exact Lc.kp (by assumption) (by assumption)) | ((with_reducible apply Rt.ol); first | assumption | exact cell_kp (by assumption) (by assumption)) | ((with_reducible apply Rt.ckR); focus ((repeat (first | (with_reducible (first | refine Rt.fin ?_ | refine Rt.tL ?_ | refine Rt.tI ?_ | refine Rt.tB ?_ | refine Rt.tS ?_ | refine Rt.tP ?_ | refine Rt.tD ?_ | refine Rt.tM ?_ | refine Rt.tC ?_ | refine Rt.tN ?_ | refine Rt.tA ?_ | refine Rt.tG ?_ | refine Rt.tF ?_ | refine Rt.os ?_ | refine Rt.clS ?_ | refine Rt.jmN ?_ | refine Rt.jbN ?_ | refine Rt.jbE ?_)) | ((with_reducible (first | apply Rt.ld0 | apply Rt.ld1 | apply Rt.ld2 | apply Rt.ld3 | apply Rt.ld4 | apply Rt.ld5)); first | assumption | exact Lc.kp (by assumption) (by assumption)) | ((with_reducible apply Rt.ol); first | assumption | exact cell_kp (by assumption) (by assumption)))); exact Rt.some' rfl))))
  refine Rt.st0 hz fun w2 l2 g2 => ?_
  exact Rt.some' ⟨rfl, w2, b, a, rfl, h2, h1, h1'.gxN g2 fun j hj => by subst hj; exact ⟨hs.new, hs.off⟩, ⟨_, l2⟩, hs.new, hs.off⟩
theorem Med_spec (h : Iv T kb w0 w base A l c) (hs : Sw w0 w A l c sb) {cc : Int} (h1 : lo ≤ a ∧ a < hi) (h2 : lo ≤ b ∧ b < hi) (h3 : lo ≤ cc ∧ cc < hi) (h0 : 0 ≤ lo) (hh : hi ≤ l) : Rt (api_Pair_49 n [.slice A l c, .int .i64 a, .int .i64 b, .int .i64 cc, .pointer (some ⟨sb, 0, none⟩), cmpV] w) fun y => ∃ w' x, y = ([.int .i64 x], w') ∧ (lo ≤ x ∧ x < hi) ∧ Iv T kb w0 w' base A l c ∧ Sw w0 w' A l c sb := by
  rw [api_Pair_49_eq]
  obtain ⟨_, e, w1, x1, z1, rfl, a1, b1, i1, s1⟩ := Ord_spec (n := n) h hs h1 h2 h0 hh
  refine Rt.fin (Rt.cl e ?_)
  (repeat (first | (with_reducible (first | refine Rt.fin ?_ | refine Rt.tL ?_ | refine Rt.tI ?_ | refine Rt.tB ?_ | refine Rt.tS ?_ | refine Rt.tP ?_ | refine Rt.tD ?_ | refine Rt.tM ?_ | refine Rt.tC ?_ | refine Rt.tN ?_ | refine Rt.tA ?_ | refine Rt.tG ?_ | refine Rt.tF ?_ | refine Rt.os ?_ | refine Rt.clS ?_ | refine Rt.jmN ?_ | refine Rt.jbN ?_ | refine Rt.jbE ?_)) | ((with_reducible (first | apply Rt.ld0 | apply Rt.ld1 | apply Rt.ld2 | apply Rt.ld3 | apply Rt.ld4 | apply Rt.ld5)); first | assumption | exact Lc.kp (by assumption) (by assumption)) | ((with_reducible apply Rt.ol); first | assumption | exact cell_kp (by assumption) (by assumption)) | ((with_reducible apply Rt.ckR); focus ((repeat (first | (with_reducible (first | refine Rt.fin ?_ | refine Rt.tL ?_ | refine Rt.tI ?_ | refine Rt.tB ?_ | refine Rt.tS ?_ | refine Rt.tP ?_ | refine Rt.tD ?_ | refine Rt.tM ?_ | refine Rt.tC ?_ | refine Rt.tN ?_ | refine Rt.tA ?_ | refine Rt.tG ?_ | refine Rt.tF ?_ | refine Rt.os ?_ | refine Rt.clS ?_ | refine Rt.jmN ?_ | refine Rt.jbN ?_ | refine Rt.jbE ?_)) | ((with_reducible (first | apply Rt.ld0 | apply Rt.ld1 | apply Rt.ld2 | apply Rt.ld3 | apply Rt.ld4 | apply Rt.ld5)); first | assumption | exact Lc.kp (by assumption) (by assumption)) | ((with_reducible apply Rt.ol); first | assumption | exact cell_kp (by assumption) (by assumption)))); exact Rt.some' rfl))))
  obtain ⟨_, e, w2, x2, z2, rfl, a2, b2, i2, s2⟩ := Ord_spec (n := n) i1 s1 b1 h3 h0 hh
  refine Rt.cl e ?_
  (repeat (first | (with_reducible (first | refine Rt.fin ?_ | refine Rt.tL ?_ | refine Rt.tI ?_ | refine Rt.tB ?_ | refine Rt.tS ?_ | refine Rt.tP ?_ | refine Rt.tD ?_ | refine Rt.tM ?_ | refine Rt.tC ?_ | refine Rt.tN ?_ | refine Rt.tA ?_ | refine Rt.tG ?_ | refine Rt.tF ?_ | refine Rt.os ?_ | refine Rt.clS ?_ | refine Rt.jmN ?_ | refine Rt.jbN ?_ | refine Rt.jbE ?_)) | ((with_reducible (first | apply Rt.ld0 | apply Rt.ld1 | apply Rt.ld2 | apply Rt.ld3 | apply Rt.ld4 | apply Rt.ld5)); first | assumption | exact Lc.kp (by assumption) (by assumption)) | ((with_reducible apply Rt.ol); first | assumption | exact cell_kp (by assumption) (by assumption)) | ((with_reducible apply Rt.ckR); focus ((repeat (first | (with_reducible (first | refine Rt.fin ?_ | refine Rt.tL ?_ | refine Rt.tI ?_ | refine Rt.tB ?_ | refine Rt.tS ?_ | refine Rt.tP ?_ | refine Rt.tD ?_ | refine Rt.tM ?_ | refine Rt.tC ?_ | refine Rt.tN ?_ | refine Rt.tA ?_ | refine Rt.tG ?_ | refine Rt.tF ?_ | refine Rt.os ?_ | refine Rt.clS ?_ | refine Rt.jmN ?_ | refine Rt.jbN ?_ | refine Rt.jbE ?_)) | ((with_reducible (first | apply Rt.ld0 | apply Rt.ld1 | apply Rt.ld2 | apply Rt.ld3 | apply Rt.ld4 | apply Rt.ld5)); first | assumption | exact Lc.kp (by assumption) (by assumption)) | ((with_reducible apply Rt.ol); first | assumption | exact cell_kp (by assumption) (by assumption)))); exact Rt.some' rfl))))
  obtain ⟨_, e, w3, x3, z3, rfl, a3, b3, i3, s3⟩ := Ord_spec (n := n) i2 s2 a1 a2 h0 hh
  refine Rt.cl e ?_
  (repeat (first | (with_reducible (first | refine Rt.fin ?_ | refine Rt.tL ?_ | refine Rt.tI ?_ | refine Rt.tB ?_ | refine Rt.tS ?_ | refine Rt.tP ?_ | refine Rt.tD ?_ | refine Rt.tM ?_ | refine Rt.tC ?_ | refine Rt.tN ?_ | refine Rt.tA ?_ | refine Rt.tG ?_ | refine Rt.tF ?_ | refine Rt.os ?_ | refine Rt.clS ?_ | refine Rt.jmN ?_ | refine Rt.jbN ?_ | refine Rt.jbE ?_)) | ((with_reducible (first | apply Rt.ld0 | apply Rt.ld1 | apply Rt.ld2 | apply Rt.ld3 | apply Rt.ld4 | apply Rt.ld5)); first | assumption | exact Lc.kp (by assumption) (by assumption)) | ((with_reducible apply Rt.ol); first | assumption | exact cell_kp (by assumption) (by assumption)) | ((with_reducible apply Rt.ckR); focus ((repeat (first | (with_reducible (first | refine Rt.fin ?_ | refine Rt.tL ?_ | refine Rt.tI ?_ | refine Rt.tB ?_ | refine Rt.tS ?_ | refine Rt.tP ?_ | refine Rt.tD ?_ | refine Rt.tM ?_ | refine Rt.tC ?_ | refine Rt.tN ?_ | refine Rt.tA ?_ | refine Rt.tG ?_ | refine Rt.tF ?_ | refine Rt.os ?_ | refine Rt.clS ?_ | refine Rt.jmN ?_ | refine Rt.jbN ?_ | refine Rt.jbE ?_)) | ((with_reducible (first | apply Rt.ld0 | apply Rt.ld1 | apply Rt.ld2 | apply Rt.ld3 | apply Rt.ld4 | apply Rt.ld5)); first | assumption | exact Lc.kp (by assumption) (by assumption)) | ((with_reducible apply Rt.ol); first | assumption | exact cell_kp (by assumption) (by assumption)))); exact Rt.some' rfl))))
  exact Rt.some' ⟨rfl, w3, z3, rfl, b3, i3, s3⟩
theorem Adj_spec (hl : l ≤ 2 ^ 20) (h : Iv T kb w0 w base A l c) (hs : Sw w0 w A l c sb) (h1 : lo ≤ a - 1) (h2 : a + 1 < hi) (h0 : 0 ≤ lo) (hh : hi ≤ l) : Rt (api_Pair_48 n [.slice A l c, .int .i64 a, .pointer (some ⟨sb, 0, none⟩), cmpV] w) fun y => ∃ w' x, y = ([.int .i64 x], w') ∧ (lo ≤ x ∧ x < hi) ∧ Iv T kb w0 w' base A l c ∧ Sw w0 w' A l c sb := by
  rw [api_Pair_48_eq, i64_in (a - 1) (by omega), i64_in (a + 1) (by omega)]
  obtain ⟨_, e, w1, x1, rfl, a1, i1, s1⟩ := Med_spec (n := n) (lo := lo) (hi := hi) (a := a - 1) (b := a) (cc := a + 1) h hs (by omega) (by omega) (by omega) h0 hh
  refine Rt.fin (Rt.cl e ?_)
  (repeat (first | (with_reducible (first | refine Rt.fin ?_ | refine Rt.tL ?_ | refine Rt.tI ?_ | refine Rt.tB ?_ | refine Rt.tS ?_ | refine Rt.tP ?_ | refine Rt.tD ?_ | refine Rt.tM ?_ | refine Rt.tC ?_ | refine Rt.tN ?_ | refine Rt.tA ?_ | refine Rt.tG ?_ | refine Rt.tF ?_ | refine Rt.os ?_ | refine Rt.clS ?_ | refine Rt.jmN ?_ | refine Rt.jbN ?_ | refine Rt.jbE ?_)) | ((with_reducible (first | apply Rt.ld0 | apply Rt.ld1 | apply Rt.ld2 | apply Rt.ld3 | apply Rt.ld4 | apply Rt.ld5)); first | assumption | exact Lc.kp (by assumption) (by assumption)) | ((with_reducible apply Rt.ol); first | assumption | exact cell_kp (by assumption) (by assumption)) | ((with_reducible apply Rt.ckR); focus ((repeat (first | (with_reducible (first | refine Rt.fin ?_ | refine Rt.tL ?_ | refine Rt.tI ?_ | refine Rt.tB ?_ | refine Rt.tS ?_ | refine Rt.tP ?_ | refine Rt.tD ?_ | refine Rt.tM ?_ | refine Rt.tC ?_ | refine Rt.tN ?_ | refine Rt.tA ?_ | refine Rt.tG ?_ | refine Rt.tF ?_ | refine Rt.os ?_ | refine Rt.clS ?_ | refine Rt.jmN ?_ | refine Rt.jbN ?_ | refine Rt.jbE ?_)) | ((with_reducible (first | apply Rt.ld0 | apply Rt.ld1 | apply Rt.ld2 | apply Rt.ld3 | apply Rt.ld4 | apply Rt.ld5)); first | assumption | exact Lc.kp (by assumption) (by assumption)) | ((with_reducible apply Rt.ol); first | assumption | exact cell_kp (by assumption) (by assumption)))); exact Rt.some' rfl))))
  exact Rt.some' ⟨rfl, w1, x1, rfl, a1, i1, s1⟩
theorem Piv_spec (hl : l ≤ 2 ^ 20) (hlt : ∀ j, On (.slice A l c) j → j < w.heap.size) (h : Iv T kb w0 w base A l c) (ha : 0 ≤ a) (hab : a < b) (hb : b ≤ l) : Rt (api_Pair_38 n [.slice A l c, .int .i64 a, .int .i64 b, cmpV] w) fun y => ∃ w' x z, y = ([.int .i64 x, .int .i64 z], w') ∧ (a ≤ x ∧ x < b) ∧ Iv T kb w0 w' base A l c := by
  rw [api_Pair_38_eq, i64_in (b - a) (by omega)]
  have hd : Int.tdiv (b - a) 4 = (b - a) / 4 := Int.tdiv_eq_ediv_of_nonneg (by omega)
  rw [hd, i64_in ((b - a) / 4) (by omega), i64_in ((b - a) / 4 * 1) (by omega), i64_in ((b - a) / 4 * 2) (by omega), i64_in ((b - a) / 4 * 3) (by omega), i64_in (a + (b - a) / 4 * 1) (by omega), i64_in (a + (b - a) / 4 * 2) (by omega), i64_in (a + (b - a) / 4 * 3) (by omega)]
  refine Rt.fin (Rt.al fun w1 l1 k1 s1 => ?_)
  have h1 := h.kp k1
  have hs1 : Sw w0 w1 A l c w.heap.size := ⟨⟨_, l1⟩, h.gx.size, fun e => by have := hlt _ e; omega⟩
  generalize w.heap.size = sb at *
  refine Rt.jm (Rt.mono (Q' := fun y => ∃ w2 x, y = ⟨.norm, [.pointer (some ⟨sb, 0, none⟩), .int .i64 x], w2⟩ ∧ (a ≤ x ∧ x < b) ∧ Iv T kb w0 w2 base A l c ∧ Sw w0 w2 A l c sb) ?_ ?_)
  · refine Rt.cD (fun h8 => ?_) fun _ => Rt.some' ⟨_, _, rfl, by omega, h1, hs1⟩
    refine Rt.jm (Rt.mono (Q' := fun y => ∃ w2 x x2 x3, y = ⟨.norm, [.slice A l c, cmpV, .pointer (some ⟨sb, 0, none⟩), .int .i64 x, .int .i64 x2, .int .i64 x3], w2⟩ ∧ (a ≤ x ∧ x < b) ∧ (a ≤ x2 ∧ x2 < b) ∧ (a ≤ x3 ∧ x3 < b) ∧ Iv T kb w0 w2 base A l c ∧ Sw w0 w2 A l c sb) ?_ ?_)
    · refine Rt.cD (fun h50 => ?_) fun _ => Rt.some' ⟨_, _, _, _, rfl, by omega, by omega, by omega, h1, hs1⟩
      obtain ⟨_, e, w2, x1, rfl, a1, i1, s1⟩ := Adj_spec (n := n) (lo := a) (hi := b) (a := a + (b - a) / 4 * 1) hl h1 hs1 (by omega) (by omega) ha hb
      refine Rt.cl e ?_
      (repeat (first | (with_reducible (first | refine Rt.fin ?_ | refine Rt.tL ?_ | refine Rt.tI ?_ | refine Rt.tB ?_ | refine Rt.tS ?_ | refine Rt.tP ?_ | refine Rt.tD ?_ | refine Rt.tM ?_ | refine Rt.tC ?_ | refine Rt.tN ?_ | refine Rt.tA ?_ | refine Rt.tG ?_ | refine Rt.tF ?_ | refine Rt.os ?_ | refine Rt.clS ?_ | refine Rt.jmN ?_ | refine Rt.jbN ?_ | refine Rt.jbE ?_)) | ((with_reducible (first | apply Rt.ld0 | apply Rt.ld1 | apply Rt.ld2 | apply Rt.ld3 | apply Rt.ld4 | apply Rt.ld5)); first | assumption | exact Lc.kp (by assumption) (by assumption)) | ((with_reducible apply Rt.ol); first | assumption | exact cell_kp (by assumption) (by assumption)) | ((with_reducible apply Rt.ckR); focus ((repeat (first | (with_reducible (first | refine Rt.fin ?_ | refine Rt.tL ?_ | refine Rt.tI ?_ | refine Rt.tB ?_ | refine Rt.tS ?_ | refine Rt.tP ?_ | refine Rt.tD ?_ | refine Rt.tM ?_ | refine Rt.tC ?_ | refine Rt.tN ?_ | refine Rt.tA ?_ | refine Rt.tG ?_ | refine Rt.tF ?_ | refine Rt.os ?_ | refine Rt.clS ?_ | refine Rt.jmN ?_ | refine Rt.jbN ?_ | refine Rt.jbE ?_)) | ((with_reducible (first | apply Rt.ld0 | apply Rt.ld1 | apply Rt.ld2 | apply Rt.ld3 | apply Rt.ld4 | apply Rt.ld5)); first | assumption | exact Lc.kp (by assumption) (by assumption)) | ((with_reducible apply Rt.ol); first | assumption | exact cell_kp (by assumption) (by assumption)))); exact Rt.some' rfl))))
      obtain ⟨_, e, w3, x2, rfl, a2, i2, s2⟩ := Adj_spec (n := n) (lo := a) (hi := b) (a := a + (b - a) / 4 * 2) hl i1 s1 (by omega) (by omega) ha hb
      refine Rt.cl e ?_
      (repeat (first | (with_reducible (first | refine Rt.fin ?_ | refine Rt.tL ?_ | refine Rt.tI ?_ | refine Rt.tB ?_ | refine Rt.tS ?_ | refine Rt.tP ?_ | refine Rt.tD ?_ | refine Rt.tM ?_ | refine Rt.tC ?_ | refine Rt.tN ?_ | refine Rt.tA ?_ | refine Rt.tG ?_ | refine Rt.tF ?_ | refine Rt.os ?_ | refine Rt.clS ?_ | refine Rt.jmN ?_ | refine Rt.jbN ?_ | refine Rt.jbE ?_)) | ((with_reducible (first | apply Rt.ld0 | apply Rt.ld1 | apply Rt.ld2 | apply Rt.ld3 | apply Rt.ld4 | apply Rt.ld5)); first | assumption | exact Lc.kp (by assumption) (by assumption)) | ((with_reducible apply Rt.ol); first | assumption | exact cell_kp (by assumption) (by assumption)) | ((with_reducible apply Rt.ckR); focus ((repeat (first | (with_reducible (first | refine Rt.fin ?_ | refine Rt.tL ?_ | refine Rt.tI ?_ | refine Rt.tB ?_ | refine Rt.tS ?_ | refine Rt.tP ?_ | refine Rt.tD ?_ | refine Rt.tM ?_ | refine Rt.tC ?_ | refine Rt.tN ?_ | refine Rt.tA ?_ | refine Rt.tG ?_ | refine Rt.tF ?_ | refine Rt.os ?_ | refine Rt.clS ?_ | refine Rt.jmN ?_ | refine Rt.jbN ?_ | refine Rt.jbE ?_)) | ((with_reducible (first | apply Rt.ld0 | apply Rt.ld1 | apply Rt.ld2 | apply Rt.ld3 | apply Rt.ld4 | apply Rt.ld5)); first | assumption | exact Lc.kp (by assumption) (by assumption)) | ((with_reducible apply Rt.ol); first | assumption | exact cell_kp (by assumption) (by assumption)))); exact Rt.some' rfl))))
      obtain ⟨_, e, w4, x3, rfl, a3, i3, s3⟩ := Adj_spec (n := n) (lo := a) (hi := b) (a := a + (b - a) / 4 * 3) hl i2 s2 (by omega) (by omega) ha hb
      refine Rt.cl e ?_
      (repeat (first | (with_reducible (first | refine Rt.fin ?_ | refine Rt.tL ?_ | refine Rt.tI ?_ | refine Rt.tB ?_ | refine Rt.tS ?_ | refine Rt.tP ?_ | refine Rt.tD ?_ | refine Rt.tM ?_ | refine Rt.tC ?_ | refine Rt.tN ?_ | refine Rt.tA ?_ | refine Rt.tG ?_ | refine Rt.tF ?_ | refine Rt.os ?_ | refine Rt.clS ?_ | refine Rt.jmN ?_ | refine Rt.jbN ?_ | refine Rt.jbE ?_)) | ((with_reducible (first | apply Rt.ld0 | apply Rt.ld1 | apply Rt.ld2 | apply Rt.ld3 | apply Rt.ld4 | apply Rt.ld5)); first | assumption | exact Lc.kp (by assumption) (by assumption)) | ((with_reducible apply Rt.ol); first | assumption | exact cell_kp (by assumption) (by assumption)) | ((with_reducible apply Rt.ckR); focus ((repeat (first | (with_reducible (first | refine Rt.fin ?_ | refine Rt.tL ?_ | refine Rt.tI ?_ | refine Rt.tB ?_ | refine Rt.tS ?_ | refine Rt.tP ?_ | refine Rt.tD ?_ | refine Rt.tM ?_ | refine Rt.tC ?_ | refine Rt.tN ?_ | refine Rt.tA ?_ | refine Rt.tG ?_ | refine Rt.tF ?_ | refine Rt.os ?_ | refine Rt.clS ?_ | refine Rt.jmN ?_ | refine Rt.jbN ?_ | refine Rt.jbE ?_)) | ((with_reducible (first | apply Rt.ld0 | apply Rt.ld1 | apply Rt.ld2 | apply Rt.ld3 | apply Rt.ld4 | apply Rt.ld5)); first | assumption | exact Lc.kp (by assumption) (by assumption)) | ((with_reducible apply Rt.ol); first | assumption | exact cell_kp (by assumption) (by assumption)))); exact Rt.some' rfl))))
      exact Rt.some' ⟨_, _, _, _, rfl, a1, a2, a3, i3, s3⟩
    rintro _ ⟨w2, x, x2, x3, rfl, b1, b2, b3, h2, hs2⟩
    refine ⟨rfl, ?_⟩
    dsimp only
    (repeat (first | (with_reducible (first | refine Rt.fin ?_ | refine Rt.tL ?_ | refine Rt.tI ?_ | refine Rt.tB ?_ | refine Rt.tS ?_ | refine Rt.tP ?_ | refine Rt.tD ?_ | refine Rt.tM ?_ | refine Rt.tC ?_ | refine Rt.tN ?_ | refine Rt.tA ?_ | refine Rt.tG ?_ | refine Rt.tF ?_ | refine Rt.os ?_ | refine Rt.clS ?_ | refine Rt.jmN ?_ | refine Rt.jbN ?_ | refine Rt.jbE ?_)) | ((with_reducible (first | apply Rt.ld0 | apply Rt.ld1 | apply Rt.ld2 | apply Rt.ld3 | apply Rt.ld4 | apply Rt.ld5)); first | assumption | exact Lc.kp (by assumption) (by assumption)) | ((with_reducible apply Rt.ol); first | assumption | exact cell_kp (by assumption) (by assumption)) | ((with_reducible apply Rt.ckR); focus ((repeat (first | (with_reducible (first | refine Rt.fin ?_ | refine Rt.tL ?_ | refine Rt.tI ?_ | refine Rt.tB ?_ | refine Rt.tS ?_ | refine Rt.tP ?_ | refine Rt.tD ?_ | refine Rt.tM ?_ | refine Rt.tC ?_ | refine Rt.tN ?_ | refine Rt.tA ?_ | refine Rt.tG ?_ | refine Rt.tF ?_ | refine Rt.os ?_ | refine Rt.clS ?_ | refine Rt.jmN ?_ | refine Rt.jbN ?_ | refine Rt.jbE ?_)) | ((with_reducible (first | apply Rt.ld0 | apply Rt.ld1 | apply Rt.ld2 | apply Rt.ld3 | apply Rt.ld4 | apply Rt.ld5)); first | assumption | exact Lc.kp (by assumption) (by assumption)) | ((with_reducible apply Rt.ol); first | assumption | exact cell_kp (by assumption) (by assumption)))); exact Rt.some' rfl))))
    obtain ⟨_, e, w3, x4, rfl, a4, i4, s4⟩ := Med_spec (n := n) (lo := a) (hi := b) (a := x) (b := x2) (cc := x3) h2 hs2 b1 b2 b3 ha hb
    refine Rt.cl e ?_
    (repeat (first | (with_reducible (first | refine Rt.fin ?_ | refine Rt.tL ?_ | refine Rt.tI ?_ | refine Rt.tB ?_ | refine Rt.tS ?_ | refine Rt.tP ?_ | refine Rt.tD ?_ | refine Rt.tM ?_ | refine Rt.tC ?_ | refine Rt.tN ?_ | refine Rt.tA ?_ | refine Rt.tG ?_ | refine Rt.tF ?_ | refine Rt.os ?_ | refine Rt.clS ?_ | refine Rt.jmN ?_ | refine Rt.jbN ?_ | refine Rt.jbE ?_)) | ((with_reducible (first | apply Rt.ld0 | apply Rt.ld1 | apply Rt.ld2 | apply Rt.ld3 | apply Rt.ld4 | apply Rt.ld5)); first | assumption | exact Lc.kp (by assumption) (by assumption)) | ((with_reducible apply Rt.ol); first | assumption | exact cell_kp (by assumption) (by assumption)) | ((with_reducible apply Rt.ckR); focus ((repeat (first | (with_reducible (first | refine Rt.fin ?_ | refine Rt.tL ?_ | refine Rt.tI ?_ | refine Rt.tB ?_ | refine Rt.tS ?_ | refine Rt.tP ?_ | refine Rt.tD ?_ | refine Rt.tM ?_ | refine Rt.tC ?_ | refine Rt.tN ?_ | refine Rt.tA ?_ | refine Rt.tG ?_ | refine Rt.tF ?_ | refine Rt.os ?_ | refine Rt.clS ?_ | refine Rt.jmN ?_ | refine Rt.jbN ?_ | refine Rt.jbE ?_)) | ((with_reducible (first | apply Rt.ld0 | apply Rt.ld1 | apply Rt.ld2 | apply Rt.ld3 | apply Rt.ld4 | apply Rt.ld5)); first | assumption | exact Lc.kp (by assumption) (by assumption)) | ((with_reducible apply Rt.ol); first | assumption | exact cell_kp (by assumption) (by assumption)))); exact Rt.some' rfl))))
    exact Rt.some' ⟨_, _, rfl, a4, i4, s4⟩
  rintro _ ⟨w2, x, rfl, b1, h2, hs2⟩
  refine ⟨rfl, ?_⟩
  obtain ⟨z, hz⟩ := hs2.lc
  dsimp only
  (repeat (first | (with_reducible (first | refine Rt.fin ?_ | refine Rt.tL ?_ | refine Rt.tI ?_ | refine Rt.tB ?_ | refine Rt.tS ?_ | refine Rt.tP ?_ | refine Rt.tD ?_ | refine Rt.tM ?_ | refine Rt.tC ?_ | refine Rt.tN ?_ | refine Rt.tA ?_ | refine Rt.tG ?_ | refine Rt.tF ?_ | refine Rt.os ?_ | refine Rt.clS ?_ | refine Rt.jmN ?_ | refine Rt.jbN ?_ | refine Rt.jbE ?_)) | ((with_reducible (first | apply Rt.ld0 | apply Rt.ld1 | apply Rt.ld2 | apply Rt.ld3 | apply Rt.ld4 | apply Rt.ld5)); first | assumption | exact Lc.kp (by assumption) (by assumption)) | ((with_reducible apply Rt.ol); first | assumption | exact cell_kp (by assumption) (by assumption)) | ((with_reducible apply Rt.ckR); focus ((repeat (first | (with_reducible (first | refine Rt.fin ?_ | refine Rt.tL ?_ | refine Rt.tI ?_ | refine Rt.tB ?_ | refine Rt.tS ?_ | refine Rt.tP ?_ | refine Rt.tD ?_ | refine Rt.tM ?_ | refine Rt.tC ?_ | refine Rt.tN ?_ | refine Rt.tA ?_ | refine Rt.tG ?_ | refine Rt.tF ?_ | refine Rt.os ?_ | refine Rt.clS ?_ | refine Rt.jmN ?_ | refine Rt.jbN ?_ | refine Rt.jbE ?_)) | ((with_reducible (first | apply Rt.ld0 | apply Rt.ld1 | apply Rt.ld2 | apply Rt.ld3 | apply Rt.ld4 | apply Rt.ld5)); first | assumption | exact Lc.kp (by assumption) (by assumption)) | ((with_reducible apply Rt.ol); first | assumption | exact cell_kp (by assumption) (by assumption)))); exact Rt.some' rfl))))
  refine Rt.cQ (fun _ => ?_) fun _ => Rt.cQ (fun _ => ?_) fun _ => ?_
  · exact Rt.some' ⟨rfl, w2, x, _, rfl, b1, h2⟩
  · exact Rt.some' ⟨rfl, w2, x, _, rfl, b1, h2⟩
  · exact Rt.some' ⟨rfl, w2, x, _, rfl, b1, h2⟩
end
end Go.Proofs.Ytdcdgmiojlldaaa.Hi
