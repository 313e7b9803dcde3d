/- The sort's functions: the partitions. Printed by a program of my own (see NOTES). -/
import Derived.Test.YtdcdgmiojlldaaaH4
namespace Go.Proofs.Ytdcdgmiojlldaaa.Hi
open Go Big Go.RowKit Go.IntWalk
set_option linter.unusedVariables false
set_option linter.unusedSimpArgs false
section
variable {α : Type} {Q : α → Prop} {n m base : Nat} {w w' w0 w1 : World} {A B C D : Option Addr} {l c m1 d1 m2 d2 : Nat} {xs : List PV} {i j p q r s a b : Int} {bs cs : List Int} {T : List PV} {kb : PV → List Int}
theorem P_l0 (hl : l ≤ 2 ^ 20) {a j : Int} (ha : 0 ≤ a ∧ a < l) (hj : j < l) : ∀ (q m : Nat) (i : Int) (w : World), Iv T kb w0 w base A l c → 0 ≤ i → i ≤ 2 ^ 21 → j - i < q → q < m → Rt (api_Pair_42.l0 n m A l c a (.func 23) #[] #[] i j w) fun y => ∃ w' i', y = ⟨.exit 0, [.slice A l c, .int .i64 a, cmpV, .int .i64 i', .int .i64 j], w'⟩ ∧ i ≤ i' ∧ (i' = i ∨ i' ≤ j + 1) ∧ Iv T kb w0 w' base A l c := by
  intro q
  induction q with
  | zero =>
    intro m i w h h1 h2 h3 hm
    obtain ⟨m, rfl⟩ : ∃ m', m = m' + 1 := ⟨m - 1, by omega⟩
    rw [api_Pair_42.l0_succ]
    exact Rt.cDF (by omega) (Rt.some' ⟨_, i, rfl, Int.le_refl _, .inl rfl, h.dr⟩)
  | succ q ih =>
    intro m i w h h1 h2 h3 hm
    obtain ⟨m, rfl⟩ : ∃ m', m = m' + 1 := ⟨m - 1, by omega⟩
    rw [api_Pair_42.l0_succ]
    refine Rt.cD (fun hi => ?_) fun _ => Rt.some' ⟨_, i, rfl, Int.le_refl _, .inl rfl, h.dr⟩
    refine Rt.cmpR h (by omega) (by omega) rfl fun k w1 h1' => ?_
    refine Rt.cB (fun _ => ?_) fun _ => Rt.some' ⟨_, i, rfl, Int.le_refl _, .inl rfl, h1'⟩
    rw [i64_in (i + 1) (by omega)]
    refine Rt.mono (ih m (i + 1) w1 h1' (by omega) (by omega) (by omega) (by omega)) ?_
    rintro _ ⟨w2, i2, rfl, e1, e2, h2'⟩
    exact ⟨w2, i2, rfl, by omega, by omega, h2'⟩
theorem P_l1 (hl : l ≤ 2 ^ 20) {a i : Int} (ha : 0 ≤ a ∧ a < l) (hi0 : 0 ≤ i) (hi1 : i ≤ 2 ^ 21) : ∀ (q m : Nat) (j : Int) (w : World), Iv T kb w0 w base A l c → -2 ≤ j → j < l → j - i < q → q < m → Rt (api_Pair_42.l1 n m A l c a (.func 23) #[] #[] i j w) fun y => ∃ w' j', y = ⟨.exit 2, [.slice A l c, .int .i64 a, cmpV, .int .i64 i, .int .i64 j'], w'⟩ ∧ j' ≤ j ∧ (j' = j ∨ i - 1 ≤ j') ∧ Iv T kb w0 w' base A l c := by
  intro q
  induction q with
  | zero =>
    intro m j w h h1 h2 h3 hm
    obtain ⟨m, rfl⟩ : ∃ m', m = m' + 1 := ⟨m - 1, by omega⟩
    rw [api_Pair_42.l1_succ]
    exact Rt.cDF (by omega) (Rt.some' ⟨_, j, rfl, Int.le_refl _, .inl rfl, h.dr⟩)
  | succ q ih =>
    intro m j w h h1 h2 h3 hm
    obtain ⟨m, rfl⟩ : ∃ m', m = m' + 1 := ⟨m - 1, by omega⟩
    rw [api_Pair_42.l1_succ]
    refine Rt.cD (fun hi => ?_) fun _ => Rt.some' ⟨_, j, rfl, Int.le_refl _, .inl rfl, h.dr⟩
    refine Rt.cmpR h (by omega) (by omega) rfl fun k w1 h1' => ?_
    refine Rt.cB (fun _ => ?_) fun _ => Rt.some' ⟨_, j, rfl, Int.le_refl _, .inl rfl, h1'⟩
    rw [i64_in (j - 1) (by omega)]
    refine Rt.mono (ih m (j - 1) w1 h1' (by omega) (by omega) (by omega) (by omega)) ?_
    rintro _ ⟨w2, j2, rfl, e1, e2, h2'⟩
    exact ⟨w2, j2, rfl, by omega, by omega, h2'⟩
theorem P_l3 (hl : l ≤ 2 ^ 20) {a j : Int} (ha : 0 ≤ a ∧ a < l) (hj : j < l) : ∀ (q m : Nat) (i : Int) (w : World), Iv T kb w0 w base A l c → 0 ≤ i → i ≤ 2 ^ 21 → j - i < q → q < m → Rt (api_Pair_42.l3 n m A l c a (.func 23) #[] #[] i j w) fun y => ∃ w' i', y = ⟨.exit 6, [.slice A l c, .int .i64 a, cmpV, .int .i64 i', .int .i64 j], w'⟩ ∧ i ≤ i' ∧ (i' = i ∨ i' ≤ j + 1) ∧ Iv T kb w0 w' base A l c := by
  intro q
  induction q with
  | zero =>
    intro m i w h h1 h2 h3 hm
    obtain ⟨m, rfl⟩ : ∃ m', m = m' + 1 := ⟨m - 1, by omega⟩
    rw [api_Pair_42.l3_succ]
    exact Rt.cDF (by omega) (Rt.some' ⟨_, i, rfl, Int.le_refl _, .inl rfl, h.dr⟩)
  | succ q ih =>
    intro m i w h h1 h2 h3 hm
    obtain ⟨m, rfl⟩ : ∃ m', m = m' + 1 := ⟨m - 1, by omega⟩
    rw [api_Pair_42.l3_succ]
    refine Rt.cD (fun hi => ?_) fun _ => Rt.some' ⟨_, i, rfl, Int.le_refl _, .inl rfl, h.dr⟩
    refine Rt.cmpR h (by omega) (by omega) rfl fun k w1 h1' => ?_
    refine Rt.cB (fun _ => ?_) fun _ => Rt.some' ⟨_, i, rfl, Int.le_refl _, .inl rfl, h1'⟩
    rw [i64_in (i + 1) (by omega)]
    refine Rt.mono (ih m (i + 1) w1 h1' (by omega) (by omega) (by omega) (by omega)) ?_
    rintro _ ⟨w2, i2, rfl, e1, e2, h2'⟩
    exact ⟨w2, i2, rfl, by omega, by omega, h2'⟩
theorem P_l4 (hl : l ≤ 2 ^ 20) {a i : Int} (ha : 0 ≤ a ∧ a < l) (hi0 : 0 ≤ i) (hi1 : i ≤ 2 ^ 21) : ∀ (q m : Nat) (j : Int) (w : World), Iv T kb w0 w base A l c → -2 ≤ j → j < l → j - i < q → q < m → Rt (api_Pair_42.l4 n m A l c a (.func 23) #[] #[] i j w) fun y => ∃ w' j', y = ⟨.exit 8, [.slice A l c, .int .i64 a, cmpV, .int .i64 i, .int .i64 j'], w'⟩ ∧ j' ≤ j ∧ (j' = j ∨ i - 1 ≤ j') ∧ Iv T kb w0 w' base A l c := by
  intro q
  induction q with
  | zero =>
    intro m j w h h1 h2 h3 hm
    obtain ⟨m, rfl⟩ : ∃ m', m = m' + 1 := ⟨m - 1, by omega⟩
    rw [api_Pair_42.l4_succ]
    exact Rt.cDF (by omega) (Rt.some' ⟨_, j, rfl, Int.le_refl _, .inl rfl, h.dr⟩)
  | succ q ih =>
    intro m j w h h1 h2 h3 hm
    obtain ⟨m, rfl⟩ : ∃ m', m = m' + 1 := ⟨m - 1, by omega⟩
    rw [api_Pair_42.l4_succ]
    refine Rt.cD (fun hi => ?_) fun _ => Rt.some' ⟨_, j, rfl, Int.le_refl _, .inl rfl, h.dr⟩
    refine Rt.cmpR h (by omega) (by omega) rfl fun k w1 h1' => ?_
    refine Rt.cB (fun _ => ?_) fun _ => Rt.some' ⟨_, j, rfl, Int.le_refl _, .inl rfl, h1'⟩
    rw [i64_in (j - 1) (by omega)]
    refine Rt.mono (ih m (j - 1) w1 h1' (by omega) (by omega) (by omega) (by omega)) ?_
    rintro _ ⟨w2, j2, rfl, e1, e2, h2'⟩
    exact ⟨w2, j2, rfl, by omega, by omega, h2'⟩
theorem E_l1 (hl : l ≤ 2 ^ 20) {a j : Int} (ha : 0 ≤ a ∧ a < l) (hj : j < l) : ∀ (q m : Nat) (i : Int) (w : World), Iv T kb w0 w base A l c → 0 ≤ i → i ≤ 2 ^ 21 → j - i < q → q < m → Rt (api_Pair_41.l1 n m A l c a (.func 23) #[] #[] i j w) fun y => ∃ w' i', y = ⟨.exit 2, [.slice A l c, .int .i64 a, cmpV, .int .i64 i', .int .i64 j], w'⟩ ∧ i ≤ i' ∧ (i' = i ∨ i' ≤ j + 1) ∧ Iv T kb w0 w' base A l c := by
  intro q
  induction q with
  | zero =>
    intro m i w h h1 h2 h3 hm
    obtain ⟨m, rfl⟩ : ∃ m', m = m' + 1 := ⟨m - 1, by omega⟩
    rw [api_Pair_41.l1_succ]
    exact Rt.cDF (by omega) (Rt.some' ⟨_, i, rfl, Int.le_refl _, .inl rfl, h.dr⟩)
  | succ q ih =>
    intro m i w h h1 h2 h3 hm
    obtain ⟨m, rfl⟩ : ∃ m', m = m' + 1 := ⟨m - 1, by omega⟩
    rw [api_Pair_41.l1_succ]
    refine Rt.cD (fun hi => ?_) fun _ => Rt.some' ⟨_, i, rfl, Int.le_refl _, .inl rfl, h.dr⟩
    refine Rt.cmpR h (by omega) (by omega) rfl fun k w1 h1' => ?_
    refine Rt.cB (fun _ => ?_) fun _ => Rt.some' ⟨_, i, rfl, Int.le_refl _, .inl rfl, h1'⟩
    rw [i64_in (i + 1) (by omega)]
    refine Rt.mono (ih m (i + 1) w1 h1' (by omega) (by omega) (by omega) (by omega)) ?_
    rintro _ ⟨w2, i2, rfl, e1, e2, h2'⟩
    exact ⟨w2, i2, rfl, by omega, by omega, h2'⟩
theorem E_l2 (hl : l ≤ 2 ^ 20) {a i : Int} (ha : 0 ≤ a ∧ a < l) (hi0 : 0 ≤ i) (hi1 : i ≤ 2 ^ 21) : ∀ (q m : Nat) (j : Int) (w : World), Iv T kb w0 w base A l c → -2 ≤ j → j < l → j - i < q → q < m → Rt (api_Pair_41.l2 n m A l c a (.func 23) #[] #[] i j w) fun y => ∃ w' j', y = ⟨.exit 4, [.slice A l c, .int .i64 a, cmpV, .int .i64 i, .int .i64 j'], w'⟩ ∧ j' ≤ j ∧ (j' = j ∨ i - 1 ≤ j') ∧ Iv T kb w0 w' base A l c := by
  intro q
  induction q with
  | zero =>
    intro m j w h h1 h2 h3 hm
    obtain ⟨m, rfl⟩ : ∃ m', m = m' + 1 := ⟨m - 1, by omega⟩
    rw [api_Pair_41.l2_succ]
    exact Rt.cDF (by omega) (Rt.some' ⟨_, j, rfl, Int.le_refl _, .inl rfl, h.dr⟩)
  | succ q ih =>
    intro m j w h h1 h2 h3 hm
    obtain ⟨m, rfl⟩ : ∃ m', m = m' + 1 := ⟨m - 1, by omega⟩
    rw [api_Pair_41.l2_succ]
    refine Rt.cD (fun hi => ?_) fun _ => Rt.some' ⟨_, j, rfl, Int.le_refl _, .inl rfl, h.dr⟩
    refine Rt.cmpR h (by omega) (by omega) rfl fun k w1 h1' => ?_
    refine Rt.cB (fun _ => ?_) fun _ => Rt.some' ⟨_, j, rfl, Int.le_refl _, .inl rfl, h1'⟩
    rw [i64_in (j - 1) (by omega)]
    refine Rt.mono (ih m (j - 1) w1 h1' (by omega) (by omega) (by omega) (by omega)) ?_
    rintro _ ⟨w2, j2, rfl, e1, e2, h2'⟩
    exact ⟨w2, j2, rfl, by omega, by omega, h2'⟩
theorem P_l2 (hl : l ≤ 2 ^ 20) (hn : 2 ^ 60 < n) {a b : Int} (ha : 0 ≤ a ∧ a < l) (hb : b ≤ l) : ∀ (q m : Nat) (i j : Int) (w : World), Iv T kb w0 w base A l c → a < i → i ≤ 2 ^ 20 → a ≤ j → j < b → j - i < q → q < m → Rt (api_Pair_42.l2 n m A l c a (.func 23) #[] #[] i j w) fun y => ∃ w' j', y = ⟨.exit 4, [.slice A l c, .int .i64 a, .int .i64 j'], w'⟩ ∧ a ≤ j' ∧ j' < b ∧ Iv T kb w0 w' base A l c := by
  intro q
  induction q using Nat.strongRecOn with
  | _ q ih =>
    intro m i j w h h1 h2 h3 h4 h5 hm
    obtain ⟨m, rfl⟩ : ∃ m', m = m' + 1 := ⟨m - 1, by omega⟩
    rw [api_Pair_42.l2_succ]
    refine Rt.jb (Rt.mono (P_l3 (n := n) hl ha (by omega) (2 ^ 21) n i w h (by omega) (by omega) (by omega) (by omega)) ?_)
    rintro _ ⟨w1, i1, rfl, c1, c2, h1'⟩
    refine .inl ⟨.inr rfl, ?_⟩
    dsimp only
    (repeat (first | (with_reducible (first | refine Rt.fin ?_ | refine Rt.tL ?_ | refine Rt.tI ?_ | refine Rt.tB ?_ | refine Rt.tS ?_ | refine Rt.tP ?_ | refine Rt.tD ?_ | refine Rt.tM ?_ | refine Rt.tC ?_ | refine Rt.tN ?_ | refine Rt.tA ?_ | refine Rt.tG ?_ | refine Rt.tF ?_ | refine Rt.os ?_ | refine Rt.clS ?_ | refine Rt.jmN ?_ | refine Rt.jbN ?_ | refine Rt.jbE ?_)) | ((with_reducible (first | apply Rt.ld0 | apply Rt.ld1 | apply Rt.ld2 | apply Rt.ld3 | apply Rt.ld4 | apply Rt.ld5)); first | assumption | exact Lc.kp (by assumption) (by assumption)) | ((with_reducible apply Rt.ol); first | assumption | exact cell_kp (by assumption) (by assumption)) | ((with_reducible apply Rt.ckR); focus ((repeat (first | (with_reducible (first | refine Rt.fin ?_ | refine Rt.tL ?_ | refine Rt.tI ?_ | refine Rt.tB ?_ | refine Rt.tS ?_ | refine Rt.tP ?_ | refine Rt.tD ?_ | refine Rt.tM ?_ | refine Rt.tC ?_ | refine Rt.tN ?_ | refine Rt.tA ?_ | refine Rt.tG ?_ | refine Rt.tF ?_ | refine Rt.os ?_ | refine Rt.clS ?_ | refine Rt.jmN ?_ | refine Rt.jbN ?_ | refine Rt.jbE ?_)) | ((with_reducible (first | apply Rt.ld0 | apply Rt.ld1 | apply Rt.ld2 | apply Rt.ld3 | apply Rt.ld4 | apply Rt.ld5)); first | assumption | exact Lc.kp (by assumption) (by assumption)) | ((with_reducible apply Rt.ol); first | assumption | exact cell_kp (by assumption) (by assumption)))); exact Rt.some' rfl))))
    refine Rt.jb (Rt.mono (P_l4 (n := n) (i := i1) hl ha (by omega) (by omega) (2 ^ 21) n j w1 h1' (by omega) (by omega) (by omega) (by omega)) ?_)
    rintro _ ⟨w2, j1, rfl, d1, d2, h2'⟩
    refine .inl ⟨.inr rfl, ?_⟩
    dsimp only
    (repeat (first | (with_reducible (first | refine Rt.fin ?_ | refine Rt.tL ?_ | refine Rt.tI ?_ | refine Rt.tB ?_ | refine Rt.tS ?_ | refine Rt.tP ?_ | refine Rt.tD ?_ | refine Rt.tM ?_ | refine Rt.tC ?_ | refine Rt.tN ?_ | refine Rt.tA ?_ | refine Rt.tG ?_ | refine Rt.tF ?_ | refine Rt.os ?_ | refine Rt.clS ?_ | refine Rt.jmN ?_ | refine Rt.jbN ?_ | refine Rt.jbE ?_)) | ((with_reducible (first | apply Rt.ld0 | apply Rt.ld1 | apply Rt.ld2 | apply Rt.ld3 | apply Rt.ld4 | apply Rt.ld5)); first | assumption | exact Lc.kp (by assumption) (by assumption)) | ((with_reducible apply Rt.ol); first | assumption | exact cell_kp (by assumption) (by assumption)) | ((with_reducible apply Rt.ckR); focus ((repeat (first | (with_reducible (first | refine Rt.fin ?_ | refine Rt.tL ?_ | refine Rt.tI ?_ | refine Rt.tB ?_ | refine Rt.tS ?_ | refine Rt.tP ?_ | refine Rt.tD ?_ | refine Rt.tM ?_ | refine Rt.tC ?_ | refine Rt.tN ?_ | refine Rt.tA ?_ | refine Rt.tG ?_ | refine Rt.tF ?_ | refine Rt.os ?_ | refine Rt.clS ?_ | refine Rt.jmN ?_ | refine Rt.jbN ?_ | refine Rt.jbE ?_)) | ((with_reducible (first | apply Rt.ld0 | apply Rt.ld1 | apply Rt.ld2 | apply Rt.ld3 | apply Rt.ld4 | apply Rt.ld5)); first | assumption | exact Lc.kp (by assumption) (by assumption)) | ((with_reducible apply Rt.ol); first | assumption | exact cell_kp (by assumption) (by assumption)))); exact Rt.some' rfl))))
    refine Rt.cD (fun hij => Rt.some' ⟨_, _, rfl, by omega, by omega, h2'⟩) fun hij => ?_
    refine Rt.swpR h2' (by omega) (by omega) (by omega) (by omega) fun w3 h3' => ?_
    rw [i64_in (i1 + 1) (by omega), i64_in (j1 - 1) (by omega)]
    exact ih (j1 - i1).toNat (by omega) m (i1 + 1) (j1 - 1) w3 h3' (by omega) (by omega) (by omega) (by omega) (by omega) (by omega)
theorem Part_spec (hl : l ≤ 2 ^ 20) (hn : 2 ^ 60 < n) (h : Iv T kb w0 w base A l c) (ha : 0 ≤ a) (hab : a < b) (hb : b ≤ l) (hp : a ≤ p ∧ p < b) : Rt (api_Pair_42 n [.slice A l c, .int .i64 a, .int .i64 b, .int .i64 p, cmpV] w) fun y => ∃ w' x bb, y = ([.int .i64 x, .bool bb], w') ∧ (a ≤ x ∧ x < b) ∧ Iv T kb w0 w' base A l c := by
  rw [api_Pair_42_eq, i64_in (a + 1) (by omega), i64_in (b - 1) (by omega)]
  refine Rt.fin (Rt.swpR h (by omega) (by omega) (by omega) (by omega) fun w1 h1 => ?_)
  refine Rt.jb (Rt.mono (P_l0 (n := n) (j := b - 1) hl (a := a) (by omega) (by omega) (2 ^ 21) n (a + 1) w1 h1 (by omega) (by omega) (by omega) (by omega)) ?_)
  rintro _ ⟨w2, i1, rfl, c1, c2, h2⟩
  refine .inl ⟨.inr rfl, ?_⟩
  dsimp only
  (repeat (first | (with_reducible (first | refine Rt.fin ?_ | refine Rt.tL ?_ | refine Rt.tI ?_ | refine Rt.tB ?_ | refine Rt.tS ?_ | refine Rt.tP ?_ | refine Rt.tD ?_ | refine Rt.tM ?_ | refine Rt.tC ?_ | refine Rt.tN ?_ | refine Rt.tA ?_ | refine Rt.tG ?_ | refine Rt.tF ?_ | refine Rt.os ?_ | refine Rt.clS ?_ | refine Rt.jmN ?_ | refine Rt.jbN ?_ | refine Rt.jbE ?_)) | ((with_reducible (first | apply Rt.ld0 | apply Rt.ld1 | apply Rt.ld2 | apply Rt.ld3 | apply Rt.ld4 | apply Rt.ld5)); first | assumption | exact Lc.kp (by assumption) (by assumption)) | ((with_reducible apply Rt.ol); first | assumption | exact cell_kp (by assumption) (by assumption)) | ((with_reducible apply Rt.ckR); focus ((repeat (first | (with_reducible (first | refine Rt.fin ?_ | refine Rt.tL ?_ | refine Rt.tI ?_ | refine Rt.tB ?_ | refine Rt.tS ?_ | refine Rt.tP ?_ | refine Rt.tD ?_ | refine Rt.tM ?_ | refine Rt.tC ?_ | refine Rt.tN ?_ | refine Rt.tA ?_ | refine Rt.tG ?_ | refine Rt.tF ?_ | refine Rt.os ?_ | refine Rt.clS ?_ | refine Rt.jmN ?_ | refine Rt.jbN ?_ | refine Rt.jbE ?_)) | ((with_reducible (first | apply Rt.ld0 | apply Rt.ld1 | apply Rt.ld2 | apply Rt.ld3 | apply Rt.ld4 | apply Rt.ld5)); first | assumption | exact Lc.kp (by assumption) (by assumption)) | ((with_reducible apply Rt.ol); first | assumption | exact cell_kp (by assumption) (by assumption)))); exact Rt.some' rfl))))
  refine Rt.jb (Rt.mono (P_l1 (n := n) (i := i1) (a := a) hl (by omega) (by omega) (by omega) (2 ^ 21) n (b - 1) w2 h2 (by omega) (by omega) (by omega) (by omega)) ?_)
  rintro _ ⟨w3, j1, rfl, d1, d2, h3⟩
  refine .inl ⟨.inr rfl, ?_⟩
  dsimp only
  (repeat (first | (with_reducible (first | refine Rt.fin ?_ | refine Rt.tL ?_ | refine Rt.tI ?_ | refine Rt.tB ?_ | refine Rt.tS ?_ | refine Rt.tP ?_ | refine Rt.tD ?_ | refine Rt.tM ?_ | refine Rt.tC ?_ | refine Rt.tN ?_ | refine Rt.tA ?_ | refine Rt.tG ?_ | refine Rt.tF ?_ | refine Rt.os ?_ | refine Rt.clS ?_ | refine Rt.jmN ?_ | refine Rt.jbN ?_ | refine Rt.jbE ?_)) | ((with_reducible (first | apply Rt.ld0 | apply Rt.ld1 | apply Rt.ld2 | apply Rt.ld3 | apply Rt.ld4 | apply Rt.ld5)); first | assumption | exact Lc.kp (by assumption) (by assumption)) | ((with_reducible apply Rt.ol); first | assumption | exact cell_kp (by assumption) (by assumption)) | ((with_reducible apply Rt.ckR); focus ((repeat (first | (with_reducible (first | refine Rt.fin ?_ | refine Rt.tL ?_ | refine Rt.tI ?_ | refine Rt.tB ?_ | refine Rt.tS ?_ | refine Rt.tP ?_ | refine Rt.tD ?_ | refine Rt.tM ?_ | refine Rt.tC ?_ | refine Rt.tN ?_ | refine Rt.tA ?_ | refine Rt.tG ?_ | refine Rt.tF ?_ | refine Rt.os ?_ | refine Rt.clS ?_ | refine Rt.jmN ?_ | refine Rt.jbN ?_ | refine Rt.jbE ?_)) | ((with_reducible (first | apply Rt.ld0 | apply Rt.ld1 | apply Rt.ld2 | apply Rt.ld3 | apply Rt.ld4 | apply Rt.ld5)); first | assumption | exact Lc.kp (by assumption) (by assumption)) | ((with_reducible apply Rt.ol); first | assumption | exact cell_kp (by assumption) (by assumption)))); exact Rt.some' rfl))))
  refine Rt.cD (fun hij => ?_) fun hij => ?_
  · refine Rt.swpR h3 (by omega) (by omega) (by omega) (by omega) fun w4 h4 => ?_
    exact Rt.some' ⟨rfl, w4, j1, _, rfl, by omega, h4⟩
  · refine Rt.swpR h3 (by omega) (by omega) (by omega) (by omega) fun w4 h4 => ?_
    rw [i64_in (i1 + 1) (by omega), i64_in (j1 - 1) (by omega)]
    refine Rt.jb (Rt.mono (P_l2 (n := n) (a := a) hl hn (by omega) hb (2 ^ 21) n (i1 + 1) (j1 - 1) w4 h4 (by omega) (by omega) (by omega) (by omega) (by omega) (by omega)) ?_)
    rintro _ ⟨w5, j2, rfl, e1, e2, h5⟩
    refine .inl ⟨.inr rfl, ?_⟩
    dsimp only
    (repeat (first | (with_reducible (first | refine Rt.fin ?_ | refine Rt.tL ?_ | refine Rt.tI ?_ | refine Rt.tB ?_ | refine Rt.tS ?_ | refine Rt.tP ?_ | refine Rt.tD ?_ | refine Rt.tM ?_ | refine Rt.tC ?_ | refine Rt.tN ?_ | refine Rt.tA ?_ | refine Rt.tG ?_ | refine Rt.tF ?_ | refine Rt.os ?_ | refine Rt.clS ?_ | refine Rt.jmN ?_ | refine Rt.jbN ?_ | refine Rt.jbE ?_)) | ((with_reducible (first | apply Rt.ld0 | apply Rt.ld1 | apply Rt.ld2 | apply Rt.ld3 | apply Rt.ld4 | apply Rt.ld5)); first | assumption | exact Lc.kp (by assumption) (by assumption)) | ((with_reducible apply Rt.ol); first | assumption | exact cell_kp (by assumption) (by assumption)) | ((with_reducible apply Rt.ckR); focus ((repeat (first | (with_reducible (first | refine Rt.fin ?_ | refine Rt.tL ?_ | refine Rt.tI ?_ | refine Rt.tB ?_ | refine Rt.tS ?_ | refine Rt.tP ?_ | refine Rt.tD ?_ | refine Rt.tM ?_ | refine Rt.tC ?_ | refine Rt.tN ?_ | refine Rt.tA ?_ | refine Rt.tG ?_ | refine Rt.tF ?_ | refine Rt.os ?_ | refine Rt.clS ?_ | refine Rt.jmN ?_ | refine Rt.jbN ?_ | refine Rt.jbE ?_)) | ((with_reducible (first | apply Rt.ld0 | apply Rt.ld1 | apply Rt.ld2 | apply Rt.ld3 | apply Rt.ld4 | apply Rt.ld5)); first | assumption | exact Lc.kp (by assumption) (by assumption)) | ((with_reducible apply Rt.ol); first | assumption | exact cell_kp (by assumption) (by assumption)))); exact Rt.some' rfl))))
    refine Rt.swpR h5 (by omega) (by omega) (by omega) (by omega) fun w6 h6 => ?_
    exact Rt.some' ⟨rfl, w6, j2, _, rfl, ⟨e1, e2⟩, h6⟩
theorem E_l0 (hl : l ≤ 2 ^ 20) (hn : 2 ^ 60 < n) {a b : Int} (ha : 0 ≤ a ∧ a < l) (hb : b ≤ l) : ∀ (q m : Nat) (i j : Int) (w : World), Iv T kb w0 w base A l c → a < i → i ≤ b → -2 ≤ j → j < b → j - i < q → q < m → Rt (api_Pair_41.l0 n m A l c a (.func 23) #[] #[] i j w) fun y => ∃ w' i', y = ⟨.exit 0, [.int .i64 i'], w'⟩ ∧ a < i' ∧ i' ≤ b ∧ Iv T kb w0 w' base A l c := by
  intro q
  induction q using Nat.strongRecOn with
  | _ q ih =>
    intro m i j w h h1 h2 h3 h4 h5 hm
    obtain ⟨m, rfl⟩ : ∃ m', m = m' + 1 := ⟨m - 1, by omega⟩
    rw [api_Pair_41.l0_succ]
    refine Rt.jb (Rt.mono (E_l1 (n := n) hl ha (by omega) (2 ^ 21) n i w h (by omega) (by omega) (by omega) (by omega)) ?_)
    rintro _ ⟨w1, i1, rfl, c1, c2, h1'⟩
    refine .inl ⟨.inr rfl, ?_⟩
    dsimp only
    (repeat (first | (with_reducible (first | refine Rt.fin ?_ | refine Rt.tL ?_ | refine Rt.tI ?_ | refine Rt.tB ?_ | refine Rt.tS ?_ | refine Rt.tP ?_ | refine Rt.tD ?_ | refine Rt.tM ?_ | refine Rt.tC ?_ | refine Rt.tN ?_ | refine Rt.tA ?_ | refine Rt.tG ?_ | refine Rt.tF ?_ | refine Rt.os ?_ | refine Rt.clS ?_ | refine Rt.jmN ?_ | refine Rt.jbN ?_ | refine Rt.jbE ?_)) | ((with_reducible (first | apply Rt.ld0 | apply Rt.ld1 | apply Rt.ld2 | apply Rt.ld3 | apply Rt.ld4 | apply Rt.ld5)); first | assumption | exact Lc.kp (by assumption) (by assumption)) | ((with_reducible apply Rt.ol); first | assumption | exact cell_kp (by assumption) (by assumption)) | ((with_reducible apply Rt.ckR); focus ((repeat (first | (with_reducible (first | refine Rt.fin ?_ | refine Rt.tL ?_ | refine Rt.tI ?_ | refine Rt.tB ?_ | refine Rt.tS ?_ | refine Rt.tP ?_ | refine Rt.tD ?_ | refine Rt.tM ?_ | refine Rt.tC ?_ | refine Rt.tN ?_ | refine Rt.tA ?_ | refine Rt.tG ?_ | refine Rt.tF ?_ | refine Rt.os ?_ | refine Rt.clS ?_ | refine Rt.jmN ?_ | refine Rt.jbN ?_ | refine Rt.jbE ?_)) | ((with_reducible (first | apply Rt.ld0 | apply Rt.ld1 | apply Rt.ld2 | apply Rt.ld3 | apply Rt.ld4 | apply Rt.ld5)); first | assumption | exact Lc.kp (by assumption) (by assumption)) | ((with_reducible apply Rt.ol); first | assumption | exact cell_kp (by assumption) (by assumption)))); exact Rt.some' rfl))))
    refine Rt.jb (Rt.mono (E_l2 (n := n) (i := i1) hl ha (by omega) (by omega) (2 ^ 21) n j w1 h1' (by omega) (by omega) (by omega) (by omega)) ?_)
    rintro _ ⟨w2, j1, rfl, d1, d2, h2'⟩
    refine .inl ⟨.inr rfl, ?_⟩
    dsimp only
    (repeat (first | (with_reducible (first | refine Rt.fin ?_ | refine Rt.tL ?_ | refine Rt.tI ?_ | refine Rt.tB ?_ | refine Rt.tS ?_ | refine Rt.tP ?_ | refine Rt.tD ?_ | refine Rt.tM ?_ | refine Rt.tC ?_ | refine Rt.tN ?_ | refine Rt.tA ?_ | refine Rt.tG ?_ | refine Rt.tF ?_ | refine Rt.os ?_ | refine Rt.clS ?_ | refine Rt.jmN ?_ | refine Rt.jbN ?_ | refine Rt.jbE ?_)) | ((with_reducible (first | apply Rt.ld0 | apply Rt.ld1 | apply Rt.ld2 | apply Rt.ld3 | apply Rt.ld4 | apply Rt.ld5)); first | assumption | exact Lc.kp (by assumption) (by assumption)) | ((with_reducible apply Rt.ol); first | assumption | exact cell_kp (by assumption) (by assumption)) | ((with_reducible apply Rt.ckR); focus ((repeat (first | (with_reducible (first | refine Rt.fin ?_ | refine Rt.tL ?_ | refine Rt.tI ?_ | refine Rt.tB ?_ | refine Rt.tS ?_ | refine Rt.tP ?_ | refine Rt.tD ?_ | refine Rt.tM ?_ | refine Rt.tC ?_ | refine Rt.tN ?_ | refine Rt.tA ?_ | refine Rt.tG ?_ | refine Rt.tF ?_ | refine Rt.os ?_ | refine Rt.clS ?_ | refine Rt.jmN ?_ | refine Rt.jbN ?_ | refine Rt.jbE ?_)) | ((with_reducible (first | apply Rt.ld0 | apply Rt.ld1 | apply Rt.ld2 | apply Rt.ld3 | apply Rt.ld4 | apply Rt.ld5)); first | assumption | exact Lc.kp (by assumption) (by assumption)) | ((with_reducible apply Rt.ol); first | assumption | exact cell_kp (by assumption) (by assumption)))); exact Rt.some' rfl))))
    refine Rt.cD (fun hij => Rt.some' ⟨_, _, rfl, by omega, by omega, h2'⟩) fun hij => ?_
    refine Rt.swpR h2' (by omega) (by omega) (by omega) (by omega) fun w3 h3' => ?_
    rw [i64_in (i1 + 1) (by omega), i64_in (j1 - 1) (by omega)]
    exact ih (j1 - i1).toNat (by omega) m (i1 + 1) (j1 - 1) w3 h3' (by omega) (by omega) (by omega) (by omega) (by omega) (by omega)
theorem PartE_spec (hl : l ≤ 2 ^ 20) (hn : 2 ^ 60 < n) (h : Iv T kb w0 w base A l c) (ha : 0 ≤ a) (hab : a < b) (hb : b ≤ l) (hp : a ≤ p ∧ p < b) : Rt (api_Pair_41 n [.slice A l c, .int .i64 a, .int .i64 b, .int .i64 p, cmpV] w) fun y => ∃ w' x, y = ([.int .i64 x], w') ∧ (a < x ∧ x ≤ b) ∧ Iv T kb w0 w' base A l c := by
  rw [api_Pair_41_eq, i64_in (a + 1) (by omega), i64_in (b - 1) (by omega)]
  refine Rt.fin (Rt.swpR h (by omega) (by omega) (by omega) (by omega) fun w1 h1 => ?_)
  refine Rt.jb (Rt.mono (E_l0 (n := n) (a := a) hl hn (by omega) hb (2 ^ 21) n (a + 1) (b - 1) w1 h1 (by omega) (by omega) (by omega) (by omega) (by omega) (by omega)) ?_)
  rintro _ ⟨w2, i1, rfl, c1, c2, h2⟩
  refine .inl ⟨.inr rfl, ?_⟩
  dsimp only
  (repeat (first | (with_reducible (first | refine Rt.fin ?_ | refine Rt.tL ?_ | refine Rt.tI ?_ | refine Rt.tB ?_ | refine Rt.tS ?_ | refine Rt.tP ?_ | refine Rt.tD ?_ | refine Rt.tM ?_ | refine Rt.tC ?_ | refine Rt.tN ?_ | refine Rt.tA ?_ | refine Rt.tG ?_ | refine Rt.tF ?_ | refine Rt.os ?_ | refine Rt.clS ?_ | refine Rt.jmN ?_ | refine Rt.jbN ?_ | refine Rt.jbE ?_)) | ((with_reducible (first | apply Rt.ld0 | apply Rt.ld1 | apply Rt.ld2 | apply Rt.ld3 | apply Rt.ld4 | apply Rt.ld5)); first | assumption | exact Lc.kp (by assumption) (by assumption)) | ((with_reducible apply Rt.ol); first | assumption | exact cell_kp (by assumption) (by assumption)) | ((with_reducible apply Rt.ckR); focus ((repeat (first | (with_reducible (first | refine Rt.fin ?_ | refine Rt.tL ?_ | refine Rt.tI ?_ | refine Rt.tB ?_ | refine Rt.tS ?_ | refine Rt.tP ?_ | refine Rt.tD ?_ | refine Rt.tM ?_ | refine Rt.tC ?_ | refine Rt.tN ?_ | refine Rt.tA ?_ | refine Rt.tG ?_ | refine Rt.tF ?_ | refine Rt.os ?_ | refine Rt.clS ?_ | refine Rt.jmN ?_ | refine Rt.jbN ?_ | refine Rt.jbE ?_)) | ((with_reducible (first | apply Rt.ld0 | apply Rt.ld1 | apply Rt.ld2 | apply Rt.ld3 | apply Rt.ld4 | apply Rt.ld5)); first | assumption | exact Lc.kp (by assumption) (by assumption)) | ((with_reducible apply Rt.ol); first | assumption | exact cell_kp (by assumption) (by assumption)))); exact Rt.some' rfl))))
  exact Rt.some' ⟨rfl, w2, i1, rfl, ⟨c1, c2⟩, h2⟩
end
end Go.Proofs.Ytdcdgmiojlldaaa.Hi
