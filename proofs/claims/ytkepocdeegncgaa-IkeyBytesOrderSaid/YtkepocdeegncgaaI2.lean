/- Keys: that Compare orders them; what the laws of order come to. -/
import Derived.Test.YtkepocdeegncgaaI1
namespace Go.Proofs.Ytkepocdeegncgaa.Ik
open Go Big Go.RowKit
set_option linter.unusedVariables false
set_option linter.unusedSimpArgs false
theorem cmpB_tri : ∀ (a b : List Int), cmpB a b = -1 ∨ cmpB a b = 0 ∨ cmpB a b = 1
  | [], [] => by simp [cmpB]
  | [], _ :: _ => by simp [cmpB]
  | _ :: _, [] => by simp [cmpB]
  | a :: p, b :: q => by
    simp only [cmpB]
    split
    · simp
    · split
      · simp
      · exact cmpB_tri p q
theorem cmpB_zero : ∀ {a b : List Int}, cmpB a b = 0 ↔ a = b
  | [], [] => by simp [cmpB]
  | [], _ :: _ => by simp [cmpB]
  | _ :: _, [] => by simp [cmpB]
  | a :: p, b :: q => by
    have ih := @cmpB_zero p q
    simp only [cmpB, List.cons.injEq]
    split
    · simp; omega
    · split
      · simp; omega
      · rw [ih]; exact ⟨fun h => ⟨by omega, h⟩, fun h => h.2⟩
theorem cmpB_anti : ∀ (a b : List Int), cmpB b a = -cmpB a b
  | [], [] => by simp [cmpB]
  | [], _ :: _ => by simp [cmpB]
  | _ :: _, [] => by simp [cmpB]
  | a :: p, b :: q => by
    have ih := cmpB_anti p q
    simp only [cmpB]
    by_cases h1 : a < b
    · rw [if_neg (show ¬ b < a by omega), if_pos h1, if_pos h1]; rfl
    · by_cases h2 : b < a
      · rw [if_pos h2, if_neg h1, if_pos h2]
      · rw [if_neg h2, if_neg h1, if_neg h1, if_neg h2, ih]
theorem cmpB_trans : ∀ {a b c : List Int}, cmpB a b ≤ 0 → cmpB b c ≤ 0 → cmpB a c ≤ 0
  | [], _, [], _, _ => by simp [cmpB]
  | [], _, _ :: _, _, _ => by simp [cmpB]
  | _ :: _, [], _, h, _ => by simp [cmpB] at h
  | _ :: _, _ :: _, [], _, h => by simp [cmpB] at h
  | a :: p, b :: q, c :: r, h1, h2 => by
    simp only [cmpB] at h1 h2 ⊢
    by_cases e1 : a < c
    · rw [if_pos e1]; decide
    · rw [if_neg e1]
      by_cases e2 : c < a
      · exfalso
        by_cases f1 : a < b
        · rw [if_neg (show ¬ b < c by omega), if_pos (show c < b by omega)] at h2; omega
        · rw [if_neg f1] at h1
          by_cases f2 : b < a
          · rw [if_pos f2] at h1; omega
          · rw [if_neg (show ¬ b < c by omega), if_pos (show c < b by omega)] at h2; omega
      · rw [if_neg e2]
        by_cases f1 : a < b
        · rw [if_neg (show ¬ b < c by omega), if_pos (show c < b by omega)] at h2; omega
        · by_cases f2 : b < a
          · rw [if_neg f1, if_pos f2] at h1; omega
          · rw [if_neg f1, if_neg f2] at h1
            rw [if_neg (show ¬ b < c by omega), if_neg (show ¬ c < b by omega)] at h2
            exact cmpB_trans h1 h2
theorem cmpN_cases (a b : Int) : (a < b ∧ cmpN a b = -1) ∨ (a = b ∧ cmpN a b = 0) ∨ (b < a ∧ cmpN a b = 1) := by
  rcases Int.lt_trichotomy a b with h | h | h
  · exact .inl ⟨h, cmpN_lt h⟩
  · exact .inr (.inl ⟨h, cmpN_eq h⟩)
  · exact .inr (.inr ⟨h, cmpN_gt h⟩)
theorem cmpK_cases (x y : Key) : (cmpB x.key y.key ≠ 0 ∧ cmpK x y = cmpB x.key y.key) ∨ (cmpB x.key y.key = 0 ∧ ((y.seq < x.seq ∧ cmpK x y = -1) ∨ (x.seq < y.seq ∧ cmpK x y = 1) ∨
    (x.seq = y.seq ∧ ((y.kind < x.kind ∧ cmpK x y = -1) ∨ (x.kind = y.kind ∧ cmpK x y = 0) ∨ (x.kind < y.kind ∧ cmpK x y = 1))))) := by
  unfold cmpK
  by_cases h : cmpB x.key y.key = 0
  · right
    rw [if_neg (by simpa using h)]
    refine ⟨h, ?_⟩
    rcases cmpN_cases y.seq x.seq with ⟨h1, h2⟩ | ⟨h1, h2⟩ | ⟨h1, h2⟩
    · rw [h2]; exact .inl ⟨h1, rfl⟩
    · rw [h2]
      rcases cmpN_cases y.kind x.kind with ⟨h3, h4⟩ | ⟨h3, h4⟩ | ⟨h3, h4⟩
      · rw [h4]; exact .inr (.inr ⟨h1.symm, .inl ⟨h3, rfl⟩⟩)
      · rw [h4]; exact .inr (.inr ⟨h1.symm, .inr (.inl ⟨h3.symm, rfl⟩)⟩)
      · rw [h4]; exact .inr (.inr ⟨h1.symm, .inr (.inr ⟨h3, rfl⟩)⟩)
    · rw [h2]; exact .inr (.inl ⟨h1, rfl⟩)
  · exact .inl ⟨h, by rw [if_pos h]⟩
theorem cmpK_tri (x y : Key) : cmpK x y = -1 ∨ cmpK x y = 0 ∨ cmpK x y = 1 := by
  have := cmpB_tri x.key y.key
  have := cmpK_cases x y
  omega
theorem cmpK_anti (x y : Key) : cmpK y x = -cmpK x y := by
  have := cmpB_anti x.key y.key
  have := cmpK_cases x y
  have := cmpK_cases y x
  omega
theorem cmpK_zero (x y : Key) : cmpK x y = 0 ↔ (x.key = y.key ∧ x.seq = y.seq ∧ x.kind = y.kind) := by
  have h := @cmpB_zero x.key y.key
  have := cmpK_cases x y
  rw [← h]
  omega
theorem cmpK_trans {x y z : Key} (h1 : cmpK x y ≤ 0) (h2 : cmpK y z ≤ 0) : cmpK x z ≤ 0 := by
  have a1 := cmpK_cases x y
  have a2 := cmpK_cases y z
  have a3 := cmpK_cases x z
  have t1 := cmpB_tri x.key y.key
  have t2 := cmpB_tri y.key z.key
  have t3 := cmpB_tri x.key z.key
  by_cases e1 : cmpB x.key y.key = 0
  · have := cmpB_zero.1 e1
    rw [this] at a1 a3 t1 t3 e1
    omega
  · by_cases e2 : cmpB y.key z.key = 0
    · have := cmpB_zero.1 e2
      rw [this] at a1 a2 t1 t2 e2
      omega
    · have h3 := cmpB_trans (a := x.key) (b := y.key) (c := z.key) (by omega) (by omega)
      have h4 : cmpB x.key z.key ≠ 0 := fun h => by
        have e := cmpB_zero.1 h
        have e' := cmpB_anti y.key z.key
        rw [← e] at e' a2 t2 e2
        omega
      omega
theorem key_open {H : Type} {enc : TypeId × Value → H} {base : Nat} {W : World} {v : Value} {d : DataW H} {p : List MemPlace} (h : DataW.Trod enc Try.prog W 0 (fun _ => true) true 36 v d p) (k : Value.okWide Try.prog W .any base 36 v) :
    ∃ A l c s q x, v = kv A l c s q ∧ KeyV W A l c s q x := by
  obtain ⟨cs, rfl, hsz⟩ := WideShapes.okWide_struct Try.underlying36 k
  obtain ⟨l⟩ := cs
  match l, hsz with
  | [c0, c1, c2], _ =>
    obtain ⟨fuel, hf⟩ := h
    obtain ⟨_, hg⟩ := st_open Try.underlying36 hf
    obtain ⟨_, _, g0⟩ := hg 0 _ rfl
    obtain ⟨_, _, g1⟩ := hg 1 _ rfl
    obtain ⟨_, _, g2⟩ := hg 2 _ rfl
    obtain ⟨A, l, c, xs, e0, b0⟩ := bv_open (e := 5) (k := .u8) Try.underlying23 Try.underlying5 (by kernel_rfl) g0
    obtain ⟨s, e1, r1⟩ := int_open (k := .u64) Try.underlying34 g1
    obtain ⟨q, e2, r2⟩ := int_open (k := .i64) Try.underlying3 g2
    have f0 : c0 = Value.slice A l c := (List.cons.inj (show [c0] = [Value.slice A l c] from e0)).1
    have f1 : c1 = Value.int .u64 s := (List.cons.inj (show [c1] = [Value.int .u64 s] from e1)).1
    have f2 : c2 = Value.int .i64 q := (List.cons.inj (show [c2] = [Value.int .i64 q] from e2)).1
    clear e0 e1 e2
    subst f0 f1 f2
    exact ⟨A, l, c, s, q, ⟨xs, s, q⟩, rfl, b0, rfl, rfl, r1, r2⟩
section
variable {n : Nat} {w : World} {A B C : Option Addr} {l c m d l3 c3 : Nat} {s k s' k' s3 k3 : Int} {x y z : Key}
theorem Orders_spec (hn : 2 ^ 50 < n) (hx : KeyV w A l c s k x) (hy : KeyV w B m d s' k' y) (hz : KeyV w C l3 c3 s3 k3 z) : Rt (butterylaw4_IkeyOrders n [kv A l c s k, kv B m d s' k', kv C l3 c3 s3 k3] w) (RB True w) := by
  rw [butterylaw4_IkeyOrders_eq]
  refine Rt.fin (Rt.al fun w1 l1 k1 _ => Rt.al fun w2 l2 k2 _ => Rt.al fun w3 l3 k3 _ => ?_)
  have l1 := (l1.kp k2).kp k3
  have l2 := l2.kp k3
  have k := (k1.tr k2).tr k3
  refine Rt.cBt (alive_spec (by omega)) trivial fun w5 a5 => Rt.cF rfl ?_
  have k5 := k.tr a5
  repeat (first | (with_reducible refine Rt.fin ?_) | (with_reducible refine Rt.tL ?_) | (with_reducible refine Rt.tI ?_) | (with_reducible refine Rt.tB ?_) | (with_reducible refine Rt.tS ?_) | (with_reducible refine Rt.tP ?_) | (with_reducible refine Rt.tD ?_) | (with_reducible refine Rt.tM ?_) | (with_reducible refine Rt.tC ?_) | (with_reducible refine Rt.tN ?_) | (with_reducible refine Rt.tA ?_) | (with_reducible refine Rt.tG ?_) | (with_reducible refine Rt.tF ?_) | (with_reducible refine Rt.os ?_) | (with_reducible refine Rt.clS ?_) | (with_reducible refine Rt.jmN ?_) | (with_reducible refine Rt.jbN ?_) | (with_reducible refine Rt.jbE ?_) | ((with_reducible apply Rt.ld0); first | assumption | exact Lc.kp (by assumption) (by assumption)) | ((with_reducible apply Rt.ld1); first | assumption | exact Lc.kp (by assumption) (by assumption)) | ((with_reducible apply Rt.ld2); first | assumption | exact Lc.kp (by assumption) (by assumption)) | ((with_reducible apply Rt.ld3); first | assumption | exact Lc.kp (by assumption) (by assumption)) | ((with_reducible apply Rt.ld4); first | assumption | exact Lc.kp (by assumption) (by assumption)) | ((with_reducible apply Rt.ckR); focus (repeat (first | (with_reducible refine Rt.fin ?_) | (with_reducible refine Rt.tL ?_) | (with_reducible refine Rt.tI ?_) | (with_reducible refine Rt.tB ?_) | (with_reducible refine Rt.tS ?_) | (with_reducible refine Rt.tP ?_) | (with_reducible refine Rt.tD ?_) | (with_reducible refine Rt.tM ?_) | (with_reducible refine Rt.tC ?_) | (with_reducible refine Rt.tN ?_) | (with_reducible refine Rt.tA ?_) | (with_reducible refine Rt.tG ?_) | (with_reducible refine Rt.tF ?_) | (with_reducible refine Rt.os ?_) | (with_reducible refine Rt.clS ?_) | (with_reducible refine Rt.jmN ?_) | (with_reducible refine Rt.jbN ?_) | (with_reducible refine Rt.jbE ?_) | ((with_reducible apply Rt.ld0); first | assumption | exact Lc.kp (by assumption) (by assumption)) | ((with_reducible apply Rt.ld1); first | assumption | exact Lc.kp (by assumption) (by assumption)) | ((with_reducible apply Rt.ld2); first | assumption | exact Lc.kp (by assumption) (by assumption)) | ((with_reducible apply Rt.ld3); first | assumption | exact Lc.kp (by assumption) (by assumption)) | ((with_reducible apply Rt.ld4); first | assumption | exact Lc.kp (by assumption) (by assumption))); exact Rt.some' rfl)))
  refine Rt.cD (fun h => Rt.endB (by simp) k5) fun g1 => ?_
  repeat (first | (with_reducible refine Rt.fin ?_) | (with_reducible refine Rt.tL ?_) | (with_reducible refine Rt.tI ?_) | (with_reducible refine Rt.tB ?_) | (with_reducible refine Rt.tS ?_) | (with_reducible refine Rt.tP ?_) | (with_reducible refine Rt.tD ?_) | (with_reducible refine Rt.tM ?_) | (with_reducible refine Rt.tC ?_) | (with_reducible refine Rt.tN ?_) | (with_reducible refine Rt.tA ?_) | (with_reducible refine Rt.tG ?_) | (with_reducible refine Rt.tF ?_) | (with_reducible refine Rt.os ?_) | (with_reducible refine Rt.clS ?_) | (with_reducible refine Rt.jmN ?_) | (with_reducible refine Rt.jbN ?_) | (with_reducible refine Rt.jbE ?_) | ((with_reducible apply Rt.ld0); first | assumption | exact Lc.kp (by assumption) (by assumption)) | ((with_reducible apply Rt.ld1); first | assumption | exact Lc.kp (by assumption) (by assumption)) | ((with_reducible apply Rt.ld2); first | assumption | exact Lc.kp (by assumption) (by assumption)) | ((with_reducible apply Rt.ld3); first | assumption | exact Lc.kp (by assumption) (by assumption)) | ((with_reducible apply Rt.ld4); first | assumption | exact Lc.kp (by assumption) (by assumption)) | ((with_reducible apply Rt.ckR); focus (repeat (first | (with_reducible refine Rt.fin ?_) | (with_reducible refine Rt.tL ?_) | (with_reducible refine Rt.tI ?_) | (with_reducible refine Rt.tB ?_) | (with_reducible refine Rt.tS ?_) | (with_reducible refine Rt.tP ?_) | (with_reducible refine Rt.tD ?_) | (with_reducible refine Rt.tM ?_) | (with_reducible refine Rt.tC ?_) | (with_reducible refine Rt.tN ?_) | (with_reducible refine Rt.tA ?_) | (with_reducible refine Rt.tG ?_) | (with_reducible refine Rt.tF ?_) | (with_reducible refine Rt.os ?_) | (with_reducible refine Rt.clS ?_) | (with_reducible refine Rt.jmN ?_) | (with_reducible refine Rt.jbN ?_) | (with_reducible refine Rt.jbE ?_) | ((with_reducible apply Rt.ld0); first | assumption | exact Lc.kp (by assumption) (by assumption)) | ((with_reducible apply Rt.ld1); first | assumption | exact Lc.kp (by assumption) (by assumption)) | ((with_reducible apply Rt.ld2); first | assumption | exact Lc.kp (by assumption) (by assumption)) | ((with_reducible apply Rt.ld3); first | assumption | exact Lc.kp (by assumption) (by assumption)) | ((with_reducible apply Rt.ld4); first | assumption | exact Lc.kp (by assumption) (by assumption))); exact Rt.some' rfl)))
  refine Rt.cD (fun h => Rt.endB (by simp) k5) fun g2 => ?_
  repeat (first | (with_reducible refine Rt.fin ?_) | (with_reducible refine Rt.tL ?_) | (with_reducible refine Rt.tI ?_) | (with_reducible refine Rt.tB ?_) | (with_reducible refine Rt.tS ?_) | (with_reducible refine Rt.tP ?_) | (with_reducible refine Rt.tD ?_) | (with_reducible refine Rt.tM ?_) | (with_reducible refine Rt.tC ?_) | (with_reducible refine Rt.tN ?_) | (with_reducible refine Rt.tA ?_) | (with_reducible refine Rt.tG ?_) | (with_reducible refine Rt.tF ?_) | (with_reducible refine Rt.os ?_) | (with_reducible refine Rt.clS ?_) | (with_reducible refine Rt.jmN ?_) | (with_reducible refine Rt.jbN ?_) | (with_reducible refine Rt.jbE ?_) | ((with_reducible apply Rt.ld0); first | assumption | exact Lc.kp (by assumption) (by assumption)) | ((with_reducible apply Rt.ld1); first | assumption | exact Lc.kp (by assumption) (by assumption)) | ((with_reducible apply Rt.ld2); first | assumption | exact Lc.kp (by assumption) (by assumption)) | ((with_reducible apply Rt.ld3); first | assumption | exact Lc.kp (by assumption) (by assumption)) | ((with_reducible apply Rt.ld4); first | assumption | exact Lc.kp (by assumption) (by assumption)) | ((with_reducible apply Rt.ckR); focus (repeat (first | (with_reducible refine Rt.fin ?_) | (with_reducible refine Rt.tL ?_) | (with_reducible refine Rt.tI ?_) | (with_reducible refine Rt.tB ?_) | (with_reducible refine Rt.tS ?_) | (with_reducible refine Rt.tP ?_) | (with_reducible refine Rt.tD ?_) | (with_reducible refine Rt.tM ?_) | (with_reducible refine Rt.tC ?_) | (with_reducible refine Rt.tN ?_) | (with_reducible refine Rt.tA ?_) | (with_reducible refine Rt.tG ?_) | (with_reducible refine Rt.tF ?_) | (with_reducible refine Rt.os ?_) | (with_reducible refine Rt.clS ?_) | (with_reducible refine Rt.jmN ?_) | (with_reducible refine Rt.jbN ?_) | (with_reducible refine Rt.jbE ?_) | ((with_reducible apply Rt.ld0); first | assumption | exact Lc.kp (by assumption) (by assumption)) | ((with_reducible apply Rt.ld1); first | assumption | exact Lc.kp (by assumption) (by assumption)) | ((with_reducible apply Rt.ld2); first | assumption | exact Lc.kp (by assumption) (by assumption)) | ((with_reducible apply Rt.ld3); first | assumption | exact Lc.kp (by assumption) (by assumption)) | ((with_reducible apply Rt.ld4); first | assumption | exact Lc.kp (by assumption) (by assumption))); exact Rt.some' rfl)))
  refine Rt.cD (fun h => Rt.endB (by simp) k5) fun g3 => ?_
  repeat (first | (with_reducible refine Rt.fin ?_) | (with_reducible refine Rt.tL ?_) | (with_reducible refine Rt.tI ?_) | (with_reducible refine Rt.tB ?_) | (with_reducible refine Rt.tS ?_) | (with_reducible refine Rt.tP ?_) | (with_reducible refine Rt.tD ?_) | (with_reducible refine Rt.tM ?_) | (with_reducible refine Rt.tC ?_) | (with_reducible refine Rt.tN ?_) | (with_reducible refine Rt.tA ?_) | (with_reducible refine Rt.tG ?_) | (with_reducible refine Rt.tF ?_) | (with_reducible refine Rt.os ?_) | (with_reducible refine Rt.clS ?_) | (with_reducible refine Rt.jmN ?_) | (with_reducible refine Rt.jbN ?_) | (with_reducible refine Rt.jbE ?_) | ((with_reducible apply Rt.ld0); first | assumption | exact Lc.kp (by assumption) (by assumption)) | ((with_reducible apply Rt.ld1); first | assumption | exact Lc.kp (by assumption) (by assumption)) | ((with_reducible apply Rt.ld2); first | assumption | exact Lc.kp (by assumption) (by assumption)) | ((with_reducible apply Rt.ld3); first | assumption | exact Lc.kp (by assumption) (by assumption)) | ((with_reducible apply Rt.ld4); first | assumption | exact Lc.kp (by assumption) (by assumption)) | ((with_reducible apply Rt.ckR); focus (repeat (first | (with_reducible refine Rt.fin ?_) | (with_reducible refine Rt.tL ?_) | (with_reducible refine Rt.tI ?_) | (with_reducible refine Rt.tB ?_) | (with_reducible refine Rt.tS ?_) | (with_reducible refine Rt.tP ?_) | (with_reducible refine Rt.tD ?_) | (with_reducible refine Rt.tM ?_) | (with_reducible refine Rt.tC ?_) | (with_reducible refine Rt.tN ?_) | (with_reducible refine Rt.tA ?_) | (with_reducible refine Rt.tG ?_) | (with_reducible refine Rt.tF ?_) | (with_reducible refine Rt.os ?_) | (with_reducible refine Rt.clS ?_) | (with_reducible refine Rt.jmN ?_) | (with_reducible refine Rt.jbN ?_) | (with_reducible refine Rt.jbE ?_) | ((with_reducible apply Rt.ld0); first | assumption | exact Lc.kp (by assumption) (by assumption)) | ((with_reducible apply Rt.ld1); first | assumption | exact Lc.kp (by assumption) (by assumption)) | ((with_reducible apply Rt.ld2); first | assumption | exact Lc.kp (by assumption) (by assumption)) | ((with_reducible apply Rt.ld3); first | assumption | exact Lc.kp (by assumption) (by assumption)) | ((with_reducible apply Rt.ld4); first | assumption | exact Lc.kp (by assumption) (by assumption))); exact Rt.some' rfl)))
  refine Rt.cI (Compare_spec (by omega) (hx.kp k5) (hy.kp k5)) fun w6 b6 => ?_
  have a6 := a5.tr b6
  have k6 := k.tr a6
  repeat (first | (with_reducible refine Rt.fin ?_) | (with_reducible refine Rt.tL ?_) | (with_reducible refine Rt.tI ?_) | (with_reducible refine Rt.tB ?_) | (with_reducible refine Rt.tS ?_) | (with_reducible refine Rt.tP ?_) | (with_reducible refine Rt.tD ?_) | (with_reducible refine Rt.tM ?_) | (with_reducible refine Rt.tC ?_) | (with_reducible refine Rt.tN ?_) | (with_reducible refine Rt.tA ?_) | (with_reducible refine Rt.tG ?_) | (with_reducible refine Rt.tF ?_) | (with_reducible refine Rt.os ?_) | (with_reducible refine Rt.clS ?_) | (with_reducible refine Rt.jmN ?_) | (with_reducible refine Rt.jbN ?_) | (with_reducible refine Rt.jbE ?_) | ((with_reducible apply Rt.ld0); first | assumption | exact Lc.kp (by assumption) (by assumption)) | ((with_reducible apply Rt.ld1); first | assumption | exact Lc.kp (by assumption) (by assumption)) | ((with_reducible apply Rt.ld2); first | assumption | exact Lc.kp (by assumption) (by assumption)) | ((with_reducible apply Rt.ld3); first | assumption | exact Lc.kp (by assumption) (by assumption)) | ((with_reducible apply Rt.ld4); first | assumption | exact Lc.kp (by assumption) (by assumption)) | ((with_reducible apply Rt.ckR); focus (repeat (first | (with_reducible refine Rt.fin ?_) | (with_reducible refine Rt.tL ?_) | (with_reducible refine Rt.tI ?_) | (with_reducible refine Rt.tB ?_) | (with_reducible refine Rt.tS ?_) | (with_reducible refine Rt.tP ?_) | (with_reducible refine Rt.tD ?_) | (with_reducible refine Rt.tM ?_) | (with_reducible refine Rt.tC ?_) | (with_reducible refine Rt.tN ?_) | (with_reducible refine Rt.tA ?_) | (with_reducible refine Rt.tG ?_) | (with_reducible refine Rt.tF ?_) | (with_reducible refine Rt.os ?_) | (with_reducible refine Rt.clS ?_) | (with_reducible refine Rt.jmN ?_) | (with_reducible refine Rt.jbN ?_) | (with_reducible refine Rt.jbE ?_) | ((with_reducible apply Rt.ld0); first | assumption | exact Lc.kp (by assumption) (by assumption)) | ((with_reducible apply Rt.ld1); first | assumption | exact Lc.kp (by assumption) (by assumption)) | ((with_reducible apply Rt.ld2); first | assumption | exact Lc.kp (by assumption) (by assumption)) | ((with_reducible apply Rt.ld3); first | assumption | exact Lc.kp (by assumption) (by assumption)) | ((with_reducible apply Rt.ld4); first | assumption | exact Lc.kp (by assumption) (by assumption))); exact Rt.some' rfl)))
  refine Rt.cI (RCompare_spec (hx.kp k6) (hy.kp k6) (by omega) (by omega)) fun w7 b7 => Rt.cF (by simp) ?_
  have a7 := a6.tr b7
  have k7 := k.tr a7
  repeat (first | (with_reducible refine Rt.fin ?_) | (with_reducible refine Rt.tL ?_) | (with_reducible refine Rt.tI ?_) | (with_reducible refine Rt.tB ?_) | (with_reducible refine Rt.tS ?_) | (with_reducible refine Rt.tP ?_) | (with_reducible refine Rt.tD ?_) | (with_reducible refine Rt.tM ?_) | (with_reducible refine Rt.tC ?_) | (with_reducible refine Rt.tN ?_) | (with_reducible refine Rt.tA ?_) | (with_reducible refine Rt.tG ?_) | (with_reducible refine Rt.tF ?_) | (with_reducible refine Rt.os ?_) | (with_reducible refine Rt.clS ?_) | (with_reducible refine Rt.jmN ?_) | (with_reducible refine Rt.jbN ?_) | (with_reducible refine Rt.jbE ?_) | ((with_reducible apply Rt.ld0); first | assumption | exact Lc.kp (by assumption) (by assumption)) | ((with_reducible apply Rt.ld1); first | assumption | exact Lc.kp (by assumption) (by assumption)) | ((with_reducible apply Rt.ld2); first | assumption | exact Lc.kp (by assumption) (by assumption)) | ((with_reducible apply Rt.ld3); first | assumption | exact Lc.kp (by assumption) (by assumption)) | ((with_reducible apply Rt.ld4); first | assumption | exact Lc.kp (by assumption) (by assumption)) | ((with_reducible apply Rt.ckR); focus (repeat (first | (with_reducible refine Rt.fin ?_) | (with_reducible refine Rt.tL ?_) | (with_reducible refine Rt.tI ?_) | (with_reducible refine Rt.tB ?_) | (with_reducible refine Rt.tS ?_) | (with_reducible refine Rt.tP ?_) | (with_reducible refine Rt.tD ?_) | (with_reducible refine Rt.tM ?_) | (with_reducible refine Rt.tC ?_) | (with_reducible refine Rt.tN ?_) | (with_reducible refine Rt.tA ?_) | (with_reducible refine Rt.tG ?_) | (with_reducible refine Rt.tF ?_) | (with_reducible refine Rt.os ?_) | (with_reducible refine Rt.clS ?_) | (with_reducible refine Rt.jmN ?_) | (with_reducible refine Rt.jbN ?_) | (with_reducible refine Rt.jbE ?_) | ((with_reducible apply Rt.ld0); first | assumption | exact Lc.kp (by assumption) (by assumption)) | ((with_reducible apply Rt.ld1); first | assumption | exact Lc.kp (by assumption) (by assumption)) | ((with_reducible apply Rt.ld2); first | assumption | exact Lc.kp (by assumption) (by assumption)) | ((with_reducible apply Rt.ld3); first | assumption | exact Lc.kp (by assumption) (by assumption)) | ((with_reducible apply Rt.ld4); first | assumption | exact Lc.kp (by assumption) (by assumption))); exact Rt.some' rfl)))
  refine Rt.cI (Compare_spec (by omega) (hy.kp k7) (hx.kp k7)) fun w8 b8 => Rt.cF ?_ ?_
  · have t := cmpK_tri x y
    rw [cmpK_anti, Go.IntWalk.i64_in _ (by omega), Int.zero_sub]; simp
  have a8 := a7.tr b8
  have k8 := k.tr a8
  repeat (first | (with_reducible refine Rt.fin ?_) | (with_reducible refine Rt.tL ?_) | (with_reducible refine Rt.tI ?_) | (with_reducible refine Rt.tB ?_) | (with_reducible refine Rt.tS ?_) | (with_reducible refine Rt.tP ?_) | (with_reducible refine Rt.tD ?_) | (with_reducible refine Rt.tM ?_) | (with_reducible refine Rt.tC ?_) | (with_reducible refine Rt.tN ?_) | (with_reducible refine Rt.tA ?_) | (with_reducible refine Rt.tG ?_) | (with_reducible refine Rt.tF ?_) | (with_reducible refine Rt.os ?_) | (with_reducible refine Rt.clS ?_) | (with_reducible refine Rt.jmN ?_) | (with_reducible refine Rt.jbN ?_) | (with_reducible refine Rt.jbE ?_) | ((with_reducible apply Rt.ld0); first | assumption | exact Lc.kp (by assumption) (by assumption)) | ((with_reducible apply Rt.ld1); first | assumption | exact Lc.kp (by assumption) (by assumption)) | ((with_reducible apply Rt.ld2); first | assumption | exact Lc.kp (by assumption) (by assumption)) | ((with_reducible apply Rt.ld3); first | assumption | exact Lc.kp (by assumption) (by assumption)) | ((with_reducible apply Rt.ld4); first | assumption | exact Lc.kp (by assumption) (by assumption)) | ((with_reducible apply Rt.ckR); focus (repeat (first | (with_reducible refine Rt.fin ?_) | (with_reducible refine Rt.tL ?_) | (with_reducible refine Rt.tI ?_) | (with_reducible refine Rt.tB ?_) | (with_reducible refine Rt.tS ?_) | (with_reducible refine Rt.tP ?_) | (with_reducible refine Rt.tD ?_) | (with_reducible refine Rt.tM ?_) | (with_reducible refine Rt.tC ?_) | (with_reducible refine Rt.tN ?_) | (with_reducible refine Rt.tA ?_) | (with_reducible refine Rt.tG ?_) | (with_reducible refine Rt.tF ?_) | (with_reducible refine Rt.os ?_) | (with_reducible refine Rt.clS ?_) | (with_reducible refine Rt.jmN ?_) | (with_reducible refine Rt.jbN ?_) | (with_reducible refine Rt.jbE ?_) | ((with_reducible apply Rt.ld0); first | assumption | exact Lc.kp (by assumption) (by assumption)) | ((with_reducible apply Rt.ld1); first | assumption | exact Lc.kp (by assumption) (by assumption)) | ((with_reducible apply Rt.ld2); first | assumption | exact Lc.kp (by assumption) (by assumption)) | ((with_reducible apply Rt.ld3); first | assumption | exact Lc.kp (by assumption) (by assumption)) | ((with_reducible apply Rt.ld4); first | assumption | exact Lc.kp (by assumption) (by assumption))); exact Rt.some' rfl)))
  refine Rt.cI (Compare_spec (by omega) (hx.kp k8) (hx.kp k8)) fun w9 b9 => Rt.cF ?_ ?_
  · rw [(cmpK_zero x x).2 ⟨rfl, rfl, rfl⟩]; rfl
  have a9 := a8.tr b9
  have k9 := k.tr a9
  repeat (first | (with_reducible refine Rt.fin ?_) | (with_reducible refine Rt.tL ?_) | (with_reducible refine Rt.tI ?_) | (with_reducible refine Rt.tB ?_) | (with_reducible refine Rt.tS ?_) | (with_reducible refine Rt.tP ?_) | (with_reducible refine Rt.tD ?_) | (with_reducible refine Rt.tM ?_) | (with_reducible refine Rt.tC ?_) | (with_reducible refine Rt.tN ?_) | (with_reducible refine Rt.tA ?_) | (with_reducible refine Rt.tG ?_) | (with_reducible refine Rt.tF ?_) | (with_reducible refine Rt.os ?_) | (with_reducible refine Rt.clS ?_) | (with_reducible refine Rt.jmN ?_) | (with_reducible refine Rt.jbN ?_) | (with_reducible refine Rt.jbE ?_) | ((with_reducible apply Rt.ld0); first | assumption | exact Lc.kp (by assumption) (by assumption)) | ((with_reducible apply Rt.ld1); first | assumption | exact Lc.kp (by assumption) (by assumption)) | ((with_reducible apply Rt.ld2); first | assumption | exact Lc.kp (by assumption) (by assumption)) | ((with_reducible apply Rt.ld3); first | assumption | exact Lc.kp (by assumption) (by assumption)) | ((with_reducible apply Rt.ld4); first | assumption | exact Lc.kp (by assumption) (by assumption)) | ((with_reducible apply Rt.ckR); focus (repeat (first | (with_reducible refine Rt.fin ?_) | (with_reducible refine Rt.tL ?_) | (with_reducible refine Rt.tI ?_) | (with_reducible refine Rt.tB ?_) | (with_reducible refine Rt.tS ?_) | (with_reducible refine Rt.tP ?_) | (with_reducible refine Rt.tD ?_) | (with_reducible refine Rt.tM ?_) | (with_reducible refine Rt.tC ?_) | (with_reducible refine Rt.tN ?_) | (with_reducible refine Rt.tA ?_) | (with_reducible refine Rt.tG ?_) | (with_reducible refine Rt.tF ?_) | (with_reducible refine Rt.os ?_) | (with_reducible refine Rt.clS ?_) | (with_reducible refine Rt.jmN ?_) | (with_reducible refine Rt.jbN ?_) | (with_reducible refine Rt.jbE ?_) | ((with_reducible apply Rt.ld0); first | assumption | exact Lc.kp (by assumption) (by assumption)) | ((with_reducible apply Rt.ld1); first | assumption | exact Lc.kp (by assumption) (by assumption)) | ((with_reducible apply Rt.ld2); first | assumption | exact Lc.kp (by assumption) (by assumption)) | ((with_reducible apply Rt.ld3); first | assumption | exact Lc.kp (by assumption) (by assumption)) | ((with_reducible apply Rt.ld4); first | assumption | exact Lc.kp (by assumption) (by assumption))); exact Rt.some' rfl)))
  refine Rt.cBo (same_spec (hx.kp k9) (hy.kp k9)) fun b w10 hb b10 => Rt.cF ?_ ?_
  · rw [← cmpK_zero] at hb
    have : (cmpK x y == 0) = b := by cases b <;> simp_all
    rw [this]; simp
  have a10 := a9.tr b10
  have k10 := k.tr a10
  refine Rt.cD (fun h => Rt.endB (by simp) k10) fun g4 => ?_
  repeat (first | (with_reducible refine Rt.fin ?_) | (with_reducible refine Rt.tL ?_) | (with_reducible refine Rt.tI ?_) | (with_reducible refine Rt.tB ?_) | (with_reducible refine Rt.tS ?_) | (with_reducible refine Rt.tP ?_) | (with_reducible refine Rt.tD ?_) | (with_reducible refine Rt.tM ?_) | (with_reducible refine Rt.tC ?_) | (with_reducible refine Rt.tN ?_) | (with_reducible refine Rt.tA ?_) | (with_reducible refine Rt.tG ?_) | (with_reducible refine Rt.tF ?_) | (with_reducible refine Rt.os ?_) | (with_reducible refine Rt.clS ?_) | (with_reducible refine Rt.jmN ?_) | (with_reducible refine Rt.jbN ?_) | (with_reducible refine Rt.jbE ?_) | ((with_reducible apply Rt.ld0); first | assumption | exact Lc.kp (by assumption) (by assumption)) | ((with_reducible apply Rt.ld1); first | assumption | exact Lc.kp (by assumption) (by assumption)) | ((with_reducible apply Rt.ld2); first | assumption | exact Lc.kp (by assumption) (by assumption)) | ((with_reducible apply Rt.ld3); first | assumption | exact Lc.kp (by assumption) (by assumption)) | ((with_reducible apply Rt.ld4); first | assumption | exact Lc.kp (by assumption) (by assumption)) | ((with_reducible apply Rt.ckR); focus (repeat (first | (with_reducible refine Rt.fin ?_) | (with_reducible refine Rt.tL ?_) | (with_reducible refine Rt.tI ?_) | (with_reducible refine Rt.tB ?_) | (with_reducible refine Rt.tS ?_) | (with_reducible refine Rt.tP ?_) | (with_reducible refine Rt.tD ?_) | (with_reducible refine Rt.tM ?_) | (with_reducible refine Rt.tC ?_) | (with_reducible refine Rt.tN ?_) | (with_reducible refine Rt.tA ?_) | (with_reducible refine Rt.tG ?_) | (with_reducible refine Rt.tF ?_) | (with_reducible refine Rt.os ?_) | (with_reducible refine Rt.clS ?_) | (with_reducible refine Rt.jmN ?_) | (with_reducible refine Rt.jbN ?_) | (with_reducible refine Rt.jbE ?_) | ((with_reducible apply Rt.ld0); first | assumption | exact Lc.kp (by assumption) (by assumption)) | ((with_reducible apply Rt.ld1); first | assumption | exact Lc.kp (by assumption) (by assumption)) | ((with_reducible apply Rt.ld2); first | assumption | exact Lc.kp (by assumption) (by assumption)) | ((with_reducible apply Rt.ld3); first | assumption | exact Lc.kp (by assumption) (by assumption)) | ((with_reducible apply Rt.ld4); first | assumption | exact Lc.kp (by assumption) (by assumption))); exact Rt.some' rfl)))
  refine Rt.cI (Compare_spec (by omega) (hy.kp k10) (hz.kp k10)) fun w11 b11 => ?_
  have a11 := a10.tr b11
  have k11 := k.tr a11
  refine Rt.cD (fun h => Rt.endB (by simp) k11) fun g5 => ?_
  repeat (first | (with_reducible refine Rt.fin ?_) | (with_reducible refine Rt.tL ?_) | (with_reducible refine Rt.tI ?_) | (with_reducible refine Rt.tB ?_) | (with_reducible refine Rt.tS ?_) | (with_reducible refine Rt.tP ?_) | (with_reducible refine Rt.tD ?_) | (with_reducible refine Rt.tM ?_) | (with_reducible refine Rt.tC ?_) | (with_reducible refine Rt.tN ?_) | (with_reducible refine Rt.tA ?_) | (with_reducible refine Rt.tG ?_) | (with_reducible refine Rt.tF ?_) | (with_reducible refine Rt.os ?_) | (with_reducible refine Rt.clS ?_) | (with_reducible refine Rt.jmN ?_) | (with_reducible refine Rt.jbN ?_) | (with_reducible refine Rt.jbE ?_) | ((with_reducible apply Rt.ld0); first | assumption | exact Lc.kp (by assumption) (by assumption)) | ((with_reducible apply Rt.ld1); first | assumption | exact Lc.kp (by assumption) (by assumption)) | ((with_reducible apply Rt.ld2); first | assumption | exact Lc.kp (by assumption) (by assumption)) | ((with_reducible apply Rt.ld3); first | assumption | exact Lc.kp (by assumption) (by assumption)) | ((with_reducible apply Rt.ld4); first | assumption | exact Lc.kp (by assumption) (by assumption)) | ((with_reducible apply Rt.ckR); focus (repeat (first | (with_reducible refine Rt.fin ?_) | (with_reducible refine Rt.tL ?_) | (with_reducible refine Rt.tI ?_) | (with_reducible refine Rt.tB ?_) | (with_reducible refine Rt.tS ?_) | (with_reducible refine Rt.tP ?_) | (with_reducible refine Rt.tD ?_) | (with_reducible refine Rt.tM ?_) | (with_reducible refine Rt.tC ?_) | (with_reducible refine Rt.tN ?_) | (with_reducible refine Rt.tA ?_) | (with_reducible refine Rt.tG ?_) | (with_reducible refine Rt.tF ?_) | (with_reducible refine Rt.os ?_) | (with_reducible refine Rt.clS ?_) | (with_reducible refine Rt.jmN ?_) | (with_reducible refine Rt.jbN ?_) | (with_reducible refine Rt.jbE ?_) | ((with_reducible apply Rt.ld0); first | assumption | exact Lc.kp (by assumption) (by assumption)) | ((with_reducible apply Rt.ld1); first | assumption | exact Lc.kp (by assumption) (by assumption)) | ((with_reducible apply Rt.ld2); first | assumption | exact Lc.kp (by assumption) (by assumption)) | ((with_reducible apply Rt.ld3); first | assumption | exact Lc.kp (by assumption) (by assumption)) | ((with_reducible apply Rt.ld4); first | assumption | exact Lc.kp (by assumption) (by assumption))); exact Rt.some' rfl)))
  refine Rt.cI (Compare_spec (by omega) (hx.kp k11) (hz.kp k11)) fun w12 b12 => ?_
  have := cmpK_trans (x := x) (y := y) (z := z) (by omega) (by omega)
  exact Rt.endB (by simp; omega) (k11.tr b12)
end
end Go.Proofs.Ytkepocdeegncgaa.Ik
