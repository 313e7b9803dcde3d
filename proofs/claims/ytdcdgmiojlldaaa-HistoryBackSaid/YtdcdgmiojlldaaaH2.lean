/- The sort's functions come to an end, and pass through the sort's worlds alone: insertion, heap. -/
import Derived.Test.YtdcdgmiojlldaaaH1
namespace Go.Proofs.Ytdcdgmiojlldaaa.Hi
open Go Big Go.RowKit Go.IntWalk
set_option linter.unusedVariables false
set_option linter.unusedSimpArgs false
abbrev cmpV : Value := .func (.func 23) #[] #[]
section
variable {α : Type} {Q : α → Prop} {n m base : Nat} {w w' w0 w1 : World} {A B C D : Option Addr} {l c m1 d1 m2 d2 : Nat} {xs : List PV} {i j p q r s a b : Int} {bs cs : List Int} {T : List PV} {kb : PV → List Int}
theorem Ins_l1 (hl : l ≤ 2 ^ 20) {a b i : Int} (ha : 0 ≤ a) : ∀ (q m : Nat) (j : Int) (w : World), Iv T kb w0 w base A l c → a ≤ j → j ≤ a + q → j < l → q < m → Rt (api_Pair_35.l1 n m A l c a b (.func 23) #[] #[] i j w) fun y => ∃ w', y = ⟨.exit 2, [.slice A l c, .int .i64 a, .int .i64 b, cmpV, .int .i64 i], w'⟩ ∧ Iv T kb w0 w' base A l c := by
  intro q
  induction q with
  | zero =>
    intro m j w h h1 h2 h3 hm
    obtain ⟨m, rfl⟩ : ∃ m', m = m' + 1 := ⟨m - 1, by omega⟩
    rw [api_Pair_35.l1_succ]
    exact Rt.cDF (by omega) (Rt.some' ⟨_, rfl, h.dr⟩)
  | succ q ih =>
    intro m j w h h1 h2 h3 hm
    obtain ⟨m, rfl⟩ : ∃ m', m = m' + 1 := ⟨m - 1, by omega⟩
    rw [api_Pair_35.l1_succ]
    refine Rt.cD (fun hj => ?_) fun _ => Rt.some' ⟨_, rfl, h.dr⟩
    rw [i64_in (j - 1) (by omega)]
    refine Rt.cmpR h (by omega) (by omega) rfl fun k w1 h1 => ?_
    refine Rt.cD (fun _ => ?_) fun _ => Rt.some' ⟨_, rfl, h1⟩
    refine Rt.swpR h1 (by omega) (by omega) (by omega) (by omega) fun w2 h2 => ?_
    exact ih m (j - 1) w2 h2 (by omega) (by omega) (by omega) (by omega)
theorem Ins_l0 (hl : l ≤ 2 ^ 20) (hn : 2 ^ 60 < n) {a b : Int} (ha : 0 ≤ a) (hb : b ≤ l) : ∀ (q m : Nat) (i : Int) (w : World), Iv T kb w0 w base A l c → a < i → b ≤ i + q → i ≤ l + 1 → q < m → Rt (api_Pair_35.l0 n m A l c a b (.func 23) #[] #[] i w) fun y => ∃ w', y = ⟨.exit 0, [], w'⟩ ∧ Iv T kb w0 w' base A l c := by
  intro q
  induction q with
  | zero =>
    intro m i w h h1 h2 h3 hm
    obtain ⟨m, rfl⟩ : ∃ m', m = m' + 1 := ⟨m - 1, by omega⟩
    rw [api_Pair_35.l0_succ]
    exact Rt.cDF (by omega) (Rt.some' ⟨_, rfl, h⟩)
  | succ q ih =>
    intro m i w h h1 h2 h3 hm
    obtain ⟨m, rfl⟩ : ∃ m', m = m' + 1 := ⟨m - 1, by omega⟩
    rw [api_Pair_35.l0_succ]
    refine Rt.cD (fun hj => ?_) fun _ => Rt.some' ⟨_, rfl, h⟩
    refine Rt.jb (Rt.mono (Ins_l1 (n := n) hl ha (i - a).toNat n i w h (by omega) (by omega) (by omega) (by omega)) ?_)
    rintro _ ⟨w1, rfl, h1⟩
    refine .inl ⟨.inr rfl, ?_⟩
    dsimp only
    (repeat (first | (with_reducible (first | refine Rt.fin ?_ | refine Rt.tL ?_ | refine Rt.tI ?_ | refine Rt.tB ?_ | refine Rt.tS ?_ | refine Rt.tP ?_ | refine Rt.tD ?_ | refine Rt.tM ?_ | refine Rt.tC ?_ | refine Rt.tN ?_ | refine Rt.tA ?_ | refine Rt.tG ?_ | refine Rt.tF ?_ | refine Rt.os ?_ | refine Rt.clS ?_ | refine Rt.jmN ?_ | refine Rt.jbN ?_ | refine Rt.jbE ?_)) | ((with_reducible (first | apply Rt.ld0 | apply Rt.ld1 | apply Rt.ld2 | apply Rt.ld3 | apply Rt.ld4 | apply Rt.ld5)); first | assumption | exact Lc.kp (by assumption) (by assumption)) | ((with_reducible apply Rt.ol); first | assumption | exact cell_kp (by assumption) (by assumption)) | ((with_reducible apply Rt.ckR); focus ((repeat (first | (with_reducible (first | refine Rt.fin ?_ | refine Rt.tL ?_ | refine Rt.tI ?_ | refine Rt.tB ?_ | refine Rt.tS ?_ | refine Rt.tP ?_ | refine Rt.tD ?_ | refine Rt.tM ?_ | refine Rt.tC ?_ | refine Rt.tN ?_ | refine Rt.tA ?_ | refine Rt.tG ?_ | refine Rt.tF ?_ | refine Rt.os ?_ | refine Rt.clS ?_ | refine Rt.jmN ?_ | refine Rt.jbN ?_ | refine Rt.jbE ?_)) | ((with_reducible (first | apply Rt.ld0 | apply Rt.ld1 | apply Rt.ld2 | apply Rt.ld3 | apply Rt.ld4 | apply Rt.ld5)); first | assumption | exact Lc.kp (by assumption) (by assumption)) | ((with_reducible apply Rt.ol); first | assumption | exact cell_kp (by assumption) (by assumption)))); exact Rt.some' rfl))))
    rw [i64_in (i + 1) (by omega)]
    exact ih m (i + 1) w1 h1 (by omega) (by omega) (by omega) (by omega)
theorem Ins_spec (hl : l ≤ 2 ^ 20) (hn : 2 ^ 60 < n) (h : Iv T kb w0 w base A l c) (ha : 0 ≤ a) (ha' : a ≤ l) (hb : b ≤ l) : Rt (api_Pair_35 n [.slice A l c, .int .i64 a, .int .i64 b, cmpV] w) fun y => ∃ w', y = ([], w') ∧ Iv T kb w0 w' base A l c := by
  rw [api_Pair_35_eq, i64_in (a + 1) (by omega)]
  refine Rt.fin (Rt.jb (Rt.mono (Ins_l0 (n := n) hl hn ha hb l n (a + 1) w h (by omega) (by omega) (by omega) (by omega)) ?_))
  rintro _ ⟨w1, rfl, h1⟩
  exact .inl ⟨.inr rfl, Rt.tN (Rt.some' ⟨rfl, w1, rfl, h1⟩)⟩
theorem Sift_l0 (hl : l ≤ 2 ^ 20) {hi first : Int} (hf : 0 ≤ first) (hh : first + hi ≤ l) : ∀ (q m : Nat) (root : Int) (w : World), Iv T kb w0 w base A l c → 0 ≤ root → root ≤ 2 ^ 20 → hi ≤ root + q → q < m → Rt (api_Pair_45.l0 n m A l c hi first (.func 23) #[] #[] root w) fun y => ∃ w', (y = ⟨.exit 0, [], w'⟩ ∨ y = ⟨.ret, [], w'⟩) ∧ Iv T kb w0 w' base A l c := by
  intro q
  induction q with
  | zero =>
    intro m root w h h1 h2 h3 hm
    obtain ⟨m, rfl⟩ : ∃ m', m = m' + 1 := ⟨m - 1, by omega⟩
    rw [api_Pair_45.l0_succ, i64_in (2 * root) (by omega), i64_in (2 * root + 1) (by omega)]
    exact Rt.cDT (by omega) (Rt.some' ⟨_, .inl rfl, h⟩)
  | succ q ih =>
    intro m root w h h1 h2 h3 hm
    obtain ⟨m, rfl⟩ : ∃ m', m = m' + 1 := ⟨m - 1, by omega⟩
    rw [api_Pair_45.l0_succ, i64_in (2 * root) (by omega), i64_in (2 * root + 1) (by omega)]
    refine Rt.cD (fun _ => Rt.some' ⟨_, .inl rfl, h⟩) fun hlt => ?_
    rw [i64_in (2 * root + 1 + 1) (by omega), i64_in (first + (2 * root + 1)) (by omega), i64_in (first + (2 * root + 1) + 1) (by omega)]
    refine Rt.jm (Rt.mono (Q' := fun y => ∃ w1 ch, y = ⟨.norm, [.slice A l c, .int .i64 hi, .int .i64 first, cmpV, .int .i64 root, .int .i64 ch], w1⟩ ∧ root < ch ∧ ch < hi ∧ Iv T kb w0 w1 base A l c) ?_ ?_)
    · refine Rt.cD (fun hc => ?_) fun _ => Rt.some' ⟨_, _, rfl, by omega, by omega, h.dr⟩
      refine Rt.cmpR h (by omega) (by omega) rfl fun k w1 h1 => ?_
      exact Rt.cD (fun _ => Rt.some' ⟨_, _, rfl, by omega, by omega, h1⟩) fun _ => Rt.some' ⟨_, _, rfl, by omega, by omega, h1⟩
    rintro _ ⟨w1, ch, rfl, c1, c2, h1⟩
    refine ⟨rfl, ?_⟩
    dsimp only
    (repeat (first | (with_reducible (first | refine Rt.fin ?_ | refine Rt.tL ?_ | refine Rt.tI ?_ | refine Rt.tB ?_ | refine Rt.tS ?_ | refine Rt.tP ?_ | refine Rt.tD ?_ | refine Rt.tM ?_ | refine Rt.tC ?_ | refine Rt.tN ?_ | refine Rt.tA ?_ | refine Rt.tG ?_ | refine Rt.tF ?_ | refine Rt.os ?_ | refine Rt.clS ?_ | refine Rt.jmN ?_ | refine Rt.jbN ?_ | refine Rt.jbE ?_)) | ((with_reducible (first | apply Rt.ld0 | apply Rt.ld1 | apply Rt.ld2 | apply Rt.ld3 | apply Rt.ld4 | apply Rt.ld5)); first | assumption | exact Lc.kp (by assumption) (by assumption)) | ((with_reducible apply Rt.ol); first | assumption | exact cell_kp (by assumption) (by assumption)) | ((with_reducible apply Rt.ckR); focus ((repeat (first | (with_reducible (first | refine Rt.fin ?_ | refine Rt.tL ?_ | refine Rt.tI ?_ | refine Rt.tB ?_ | refine Rt.tS ?_ | refine Rt.tP ?_ | refine Rt.tD ?_ | refine Rt.tM ?_ | refine Rt.tC ?_ | refine Rt.tN ?_ | refine Rt.tA ?_ | refine Rt.tG ?_ | refine Rt.tF ?_ | refine Rt.os ?_ | refine Rt.clS ?_ | refine Rt.jmN ?_ | refine Rt.jbN ?_ | refine Rt.jbE ?_)) | ((with_reducible (first | apply Rt.ld0 | apply Rt.ld1 | apply Rt.ld2 | apply Rt.ld3 | apply Rt.ld4 | apply Rt.ld5)); first | assumption | exact Lc.kp (by assumption) (by assumption)) | ((with_reducible apply Rt.ol); first | assumption | exact cell_kp (by assumption) (by assumption)))); exact Rt.some' rfl))))
    rw [i64_in (first + root) (by omega), i64_in (first + ch) (by omega)]
    refine Rt.cmpR h1 (by omega) (by omega) rfl fun k w2 h2 => ?_
    refine Rt.cB (fun _ => Rt.some' ⟨_, .inr rfl, h2⟩) fun _ => ?_
    refine Rt.swpR h2 (by omega) (by omega) (by omega) (by omega) fun w3 h3 => ?_
    exact ih m ch w3 h3 (by omega) (by omega) (by omega) (by omega)
theorem Sift_spec (hl : l ≤ 2 ^ 20) (hn : 2 ^ 60 < n) (h : Iv T kb w0 w base A l c) {lo hi first : Int} (h0 : 0 ≤ lo) (h0' : lo ≤ 2 ^ 20) (hf : 0 ≤ first) (hh : first + hi ≤ l) : Rt (api_Pair_45 n [.slice A l c, .int .i64 lo, .int .i64 hi, .int .i64 first, cmpV] w) fun y => ∃ w', y = ([], w') ∧ Iv T kb w0 w' base A l c := by
  rw [api_Pair_45_eq]
  refine Rt.fin (Rt.jb (Rt.mono (Sift_l0 (n := n) hl hf hh l n lo w h (by omega) (by omega) (by omega) (by omega)) ?_))
  rintro _ ⟨w1, rfl | rfl, h1⟩
  · exact .inl ⟨.inr rfl, Rt.tN (Rt.some' ⟨rfl, w1, rfl, h1⟩)⟩
  · exact .inr ⟨rfl, rfl, w1, rfl, h1⟩
theorem Heap_l0 (hl : l ≤ 2 ^ 20) (hn : 2 ^ 60 < n) {a lo hi : Int} (ha : 0 ≤ a) (hh : a + hi ≤ l) : ∀ (q m : Nat) (i : Int) (w : World), Iv T kb w0 w base A l c → i < q → -2 ≤ i → i ≤ 2 ^ 20 → q < m → Rt (api_Pair_36.l0 n m A l c (.func 23) #[] #[] a lo hi i w) fun y => ∃ w', y = ⟨.exit 0, [.slice A l c, cmpV, .int .i64 a, .int .i64 lo, .int .i64 hi], w'⟩ ∧ Iv T kb w0 w' base A l c := by
  intro q
  induction q with
  | zero =>
    intro m i w h h1 h2 h3 hm
    obtain ⟨m, rfl⟩ : ∃ m', m = m' + 1 := ⟨m - 1, by omega⟩
    rw [api_Pair_36.l0_succ]
    exact Rt.cDF (by omega) (Rt.some' ⟨_, rfl, h⟩)
  | succ q ih =>
    intro m i w h h1 h2 h3 hm
    obtain ⟨m, rfl⟩ : ∃ m', m = m' + 1 := ⟨m - 1, by omega⟩
    rw [api_Pair_36.l0_succ]
    refine Rt.cD (fun hi => ?_) fun _ => Rt.some' ⟨_, rfl, h⟩
    obtain ⟨_, e, w1, rfl, h1⟩ := Sift_spec (n := n) hl hn h hi h3 ha hh
    refine Rt.cl e (Rt.tN ?_)
    rw [i64_in (i - 1) (by omega)]
    exact ih m (i - 1) w1 h1 (by omega) (by omega) (by omega) (by omega)
theorem Heap_l1 (hl : l ≤ 2 ^ 20) (hn : 2 ^ 60 < n) {a : Int} (ha : 0 ≤ a) : ∀ (q m : Nat) (i : Int) (w : World), Iv T kb w0 w base A l c → i < q → -2 ≤ i → a + i < l → q < m → Rt (api_Pair_36.l1 n m A l c (.func 23) #[] #[] a 0 i w) fun y => ∃ w', y = ⟨.exit 2, [], w'⟩ ∧ Iv T kb w0 w' base A l c := by
  intro q
  induction q with
  | zero =>
    intro m i w h h1 h2 h3 hm
    obtain ⟨m, rfl⟩ : ∃ m', m = m' + 1 := ⟨m - 1, by omega⟩
    rw [api_Pair_36.l1_succ]
    exact Rt.cDF (by omega) (Rt.some' ⟨_, rfl, h⟩)
  | succ q ih =>
    intro m i w h h1 h2 h3 hm
    obtain ⟨m, rfl⟩ : ∃ m', m = m' + 1 := ⟨m - 1, by omega⟩
    rw [api_Pair_36.l1_succ]
    refine Rt.cD (fun hi => ?_) fun _ => Rt.some' ⟨_, rfl, h⟩
    rw [i64_in (a + i) (by omega)]
    refine Rt.swpR h (by omega) (by omega) (by omega) (by omega) fun w1 h1 => ?_
    obtain ⟨_, e, w2, rfl, h2⟩ := Sift_spec (n := n) (lo := 0) (hi := i) (first := a) hl hn h1 (by omega) (by omega) ha (by omega)
    refine Rt.cl e (Rt.tN ?_)
    rw [i64_in (i - 1) (by omega)]
    exact ih m (i - 1) w2 h2 (by omega) (by omega) (by omega) (by omega)
theorem Heap_spec (hl : l ≤ 2 ^ 20) (hn : 2 ^ 60 < n) (h : Iv T kb w0 w base A l c) (ha : 0 ≤ a) (hab : a ≤ b) (hb : b ≤ l) : Rt (api_Pair_36 n [.slice A l c, .int .i64 a, .int .i64 b, cmpV] w) fun y => ∃ w', y = ([], w') ∧ Iv T kb w0 w' base A l c := by
  rw [api_Pair_36_eq, i64_in (b - a) (by omega), i64_in (b - a - 1) (by omega)]
  have ht : -1 ≤ Int.tdiv (b - a - 1) 2 ∧ Int.tdiv (b - a - 1) 2 ≤ 2 ^ 20 := by
    by_cases h0 : 0 ≤ b - a - 1
    · rw [Int.tdiv_eq_ediv_of_nonneg h0]; omega
    · rw [show b - a - 1 = -1 by omega]; decide
  rw [i64_in (Int.tdiv (b - a - 1) 2) (by omega)]
  refine Rt.fin (Rt.jb (Rt.mono (Heap_l0 (n := n) hl hn ha (by omega) (2 ^ 21) n _ w h (by omega) (by omega) (by omega) (by omega)) ?_))
  rintro _ ⟨w1, rfl, h1⟩
  refine .inl ⟨.inr rfl, ?_⟩
  dsimp only
  (repeat (first | (with_reducible (first | refine Rt.fin ?_ | refine Rt.tL ?_ | refine Rt.tI ?_ | refine Rt.tB ?_ | refine Rt.tS ?_ | refine Rt.tP ?_ | refine Rt.tD ?_ | refine Rt.tM ?_ | refine Rt.tC ?_ | refine Rt.tN ?_ | refine Rt.tA ?_ | refine Rt.tG ?_ | refine Rt.tF ?_ | refine Rt.os ?_ | refine Rt.clS ?_ | refine Rt.jmN ?_ | refine Rt.jbN ?_ | refine Rt.jbE ?_)) | ((with_reducible (first | apply Rt.ld0 | apply Rt.ld1 | apply Rt.ld2 | apply Rt.ld3 | apply Rt.ld4 | apply Rt.ld5)); first | assumption | exact Lc.kp (by assumption) (by assumption)) | ((with_reducible apply Rt.ol); first | assumption | exact cell_kp (by assumption) (by assumption)) | ((with_reducible apply Rt.ckR); focus ((repeat (first | (with_reducible (first | refine Rt.fin ?_ | refine Rt.tL ?_ | refine Rt.tI ?_ | refine Rt.tB ?_ | refine Rt.tS ?_ | refine Rt.tP ?_ | refine Rt.tD ?_ | refine Rt.tM ?_ | refine Rt.tC ?_ | refine Rt.tN ?_ | refine Rt.tA ?_ | refine Rt.tG ?_ | refine Rt.tF ?_ | refine Rt.os ?_ | refine Rt.clS ?_ | refine Rt.jmN ?_ | refine Rt.jbN ?_ | refine Rt.jbE ?_)) | ((with_reducible (first | apply Rt.ld0 | apply Rt.ld1 | apply Rt.ld2 | apply Rt.ld3 | apply Rt.ld4 | apply Rt.ld5)); first | assumption | exact Lc.kp (by assumption) (by assumption)) | ((with_reducible apply Rt.ol); first | assumption | exact cell_kp (by assumption) (by assumption)))); exact Rt.some' rfl))))
  rw [i64_in (b - a - 1) (by omega)]
  refine Rt.jb (Rt.mono (Heap_l1 (n := n) hl hn ha (2 ^ 21) n (b - a - 1) w1 h1 (by omega) (by omega) (by omega) (by omega)) ?_)
  rintro _ ⟨w2, rfl, h2⟩
  exact .inl ⟨.inr rfl, Rt.tN (Rt.some' ⟨rfl, w2, rfl, h2⟩)⟩
end
end Go.Proofs.Ytdcdgmiojlldaaa.Hi
