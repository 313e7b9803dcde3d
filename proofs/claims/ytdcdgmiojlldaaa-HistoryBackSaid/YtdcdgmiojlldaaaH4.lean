/- The sort's functions: patterns are broken; how many bits. -/
import Derived.Test.YtdcdgmiojlldaaaH3
namespace Go.Proofs.Ytdcdgmiojlldaaa.Hi
open Go Big Go.RowKit Go.IntWalk
set_option linter.unusedVariables false
set_option linter.unusedSimpArgs false
theorem andM (x : Int) {k : Nat} (hk : k < 2 ^ 62) : ∃ z : Nat, z ≤ k ∧ bits .and .u64 x (k : Int) = (z : Int) := by
  have hk' : (BitVec.ofInt 64 (k : Int)).toNat = k := by rw [BitVec.ofInt_natCast, BitVec.toNat_ofNat, Nat.mod_eq_of_lt (by omega)]
  have hb : (BitVec.ofInt 64 x &&& BitVec.ofInt 64 (k : Int)).toNat ≤ k := by
    rw [BitVec.toNat_and, hk']
    exact Nat.and_le_right
  refine ⟨_, hb, ?_⟩
  unfold bits
  simp only [IntKind.bits]
  show IntKind.u64.wrap (((BitVec.ofInt 64 x &&& BitVec.ofInt 64 (k : Int)).toNat : Nat) : Int) = _
  exact u64_in _ (by omega)
section
variable {α : Type} {Q : α → Prop} {n m base : Nat} {w w' w0 w1 : World} {A B C D : Option Addr} {l c m1 d1 m2 d2 : Nat} {xs : List PV} {i j p q r s a b : Int} {bs cs : List Int} {T : List PV} {kb : PV → List Int}
theorem Rt.ixTab {s : ByteArray} (hs : ∀ y, y < 256 → (match s[y]? with | some t => decide (t.toNat ≤ 8 ∧ (1 ≤ y → 2 ^ t.toNat ≤ 2 * y)) | none => false) = true) {y : Nat} (hy : y < 256) {f : Int → Option α} (hf : ∀ t : Nat, t ≤ 8 → (1 ≤ y → 2 ^ t ≤ 2 * y) → Rt (f t) Q) : Rt (ixS s (y : Int) f) Q := by
  have h := hs y hy
  unfold ixS
  rw [if_pos (by omega), Int.toNat_natCast]
  cases e : s[y]? with
  | none => rw [e] at h; cases h
  | some t =>
    rw [e] at h
    have h := of_decide_eq_true h
    exact hf t.toNat h.1 h.2
theorem Len64_spec {x : Nat} (hx : x < 512) : Rt (bits_Len64 n [.int .u64 (x : Int)] w) fun y => ∃ t : Nat, y = ([.int .i64 (t : Int)], w) ∧ t ≤ 9 ∧ (1 ≤ x → 2 ^ t ≤ 2 * x) := by
  rw [bits_Len64_eq]
  refine Rt.fin (Rt.jm (Rt.cDF (by omega) (Rt.some' ⟨rfl, ?_⟩)))
  dsimp only
  (repeat (first | (with_reducible (first | refine Rt.fin ?_ | refine Rt.tL ?_ | refine Rt.tI ?_ | refine Rt.tB ?_ | refine Rt.tS ?_ | refine Rt.tP ?_ | refine Rt.tD ?_ | refine Rt.tM ?_ | refine Rt.tC ?_ | refine Rt.tN ?_ | refine Rt.tA ?_ | refine Rt.tG ?_ | refine Rt.tF ?_ | refine Rt.os ?_ | refine Rt.clS ?_ | refine Rt.jmN ?_ | refine Rt.jbN ?_ | refine Rt.jbE ?_)) | ((with_reducible (first | apply Rt.ld0 | apply Rt.ld1 | apply Rt.ld2 | apply Rt.ld3 | apply Rt.ld4 | apply Rt.ld5)); first | assumption | exact Lc.kp (by assumption) (by assumption)) | ((with_reducible apply Rt.ol); first | assumption | exact cell_kp (by assumption) (by assumption)) | ((with_reducible apply Rt.ckR); focus ((repeat (first | (with_reducible (first | refine Rt.fin ?_ | refine Rt.tL ?_ | refine Rt.tI ?_ | refine Rt.tB ?_ | refine Rt.tS ?_ | refine Rt.tP ?_ | refine Rt.tD ?_ | refine Rt.tM ?_ | refine Rt.tC ?_ | refine Rt.tN ?_ | refine Rt.tA ?_ | refine Rt.tG ?_ | refine Rt.tF ?_ | refine Rt.os ?_ | refine Rt.clS ?_ | refine Rt.jmN ?_ | refine Rt.jbN ?_ | refine Rt.jbE ?_)) | ((with_reducible (first | apply Rt.ld0 | apply Rt.ld1 | apply Rt.ld2 | apply Rt.ld3 | apply Rt.ld4 | apply Rt.ld5)); first | assumption | exact Lc.kp (by assumption) (by assumption)) | ((with_reducible apply Rt.ol); first | assumption | exact cell_kp (by assumption) (by assumption)))); exact Rt.some' rfl))))
  refine Rt.jm (Rt.cDF (by omega) (Rt.some' ⟨rfl, ?_⟩))
  dsimp only
  (repeat (first | (with_reducible (first | refine Rt.fin ?_ | refine Rt.tL ?_ | refine Rt.tI ?_ | refine Rt.tB ?_ | refine Rt.tS ?_ | refine Rt.tP ?_ | refine Rt.tD ?_ | refine Rt.tM ?_ | refine Rt.tC ?_ | refine Rt.tN ?_ | refine Rt.tA ?_ | refine Rt.tG ?_ | refine Rt.tF ?_ | refine Rt.os ?_ | refine Rt.clS ?_ | refine Rt.jmN ?_ | refine Rt.jbN ?_ | refine Rt.jbE ?_)) | ((with_reducible (first | apply Rt.ld0 | apply Rt.ld1 | apply Rt.ld2 | apply Rt.ld3 | apply Rt.ld4 | apply Rt.ld5)); first | assumption | exact Lc.kp (by assumption) (by assumption)) | ((with_reducible apply Rt.ol); first | assumption | exact cell_kp (by assumption) (by assumption)) | ((with_reducible apply Rt.ckR); focus ((repeat (first | (with_reducible (first | refine Rt.fin ?_ | refine Rt.tL ?_ | refine Rt.tI ?_ | refine Rt.tB ?_ | refine Rt.tS ?_ | refine Rt.tP ?_ | refine Rt.tD ?_ | refine Rt.tM ?_ | refine Rt.tC ?_ | refine Rt.tN ?_ | refine Rt.tA ?_ | refine Rt.tG ?_ | refine Rt.tF ?_ | refine Rt.os ?_ | refine Rt.clS ?_ | refine Rt.jmN ?_ | refine Rt.jbN ?_ | refine Rt.jbE ?_)) | ((with_reducible (first | apply Rt.ld0 | apply Rt.ld1 | apply Rt.ld2 | apply Rt.ld3 | apply Rt.ld4 | apply Rt.ld5)); first | assumption | exact Lc.kp (by assumption) (by assumption)) | ((with_reducible apply Rt.ol); first | assumption | exact cell_kp (by assumption) (by assumption)))); exact Rt.some' rfl))))
  refine Rt.jm (Rt.mono (Q' := fun y => ∃ z k : Nat, y = ⟨.norm, [.int .u64 (z : Int), .int .i64 (k : Int)], w⟩ ∧ z < 256 ∧ (x < 256 ∧ z = x ∧ k = 0 ∨ 256 ≤ x ∧ z = 1 ∧ k = 8)) ?_ ?_)
  · refine Rt.cD (fun h8 => ?_) fun h8 => Rt.some' ⟨x, 0, rfl, by omega, .inl ⟨by omega, rfl, rfl⟩⟩
    refine Rt.some' ⟨1, 8, ?_, by omega, .inr ⟨by omega, rfl, rfl⟩⟩
    have e1 : Int.fdiv (x : Int) (2 ^ 8) = 1 := by rw [fdivI]; omega
    rw [e1]; rfl
  rintro _ ⟨z, k, rfl, hz, hk⟩
  refine ⟨rfl, ?_⟩
  dsimp only
  (repeat (first | (with_reducible (first | refine Rt.fin ?_ | refine Rt.tL ?_ | refine Rt.tI ?_ | refine Rt.tB ?_ | refine Rt.tS ?_ | refine Rt.tP ?_ | refine Rt.tD ?_ | refine Rt.tM ?_ | refine Rt.tC ?_ | refine Rt.tN ?_ | refine Rt.tA ?_ | refine Rt.tG ?_ | refine Rt.tF ?_ | refine Rt.os ?_ | refine Rt.clS ?_ | refine Rt.jmN ?_ | refine Rt.jbN ?_ | refine Rt.jbE ?_)) | ((with_reducible (first | apply Rt.ld0 | apply Rt.ld1 | apply Rt.ld2 | apply Rt.ld3 | apply Rt.ld4 | apply Rt.ld5)); first | assumption | exact Lc.kp (by assumption) (by assumption)) | ((with_reducible apply Rt.ol); first | assumption | exact cell_kp (by assumption) (by assumption)) | ((with_reducible apply Rt.ckR); focus ((repeat (first | (with_reducible (first | refine Rt.fin ?_ | refine Rt.tL ?_ | refine Rt.tI ?_ | refine Rt.tB ?_ | refine Rt.tS ?_ | refine Rt.tP ?_ | refine Rt.tD ?_ | refine Rt.tM ?_ | refine Rt.tC ?_ | refine Rt.tN ?_ | refine Rt.tA ?_ | refine Rt.tG ?_ | refine Rt.tF ?_ | refine Rt.os ?_ | refine Rt.clS ?_ | refine Rt.jmN ?_ | refine Rt.jbN ?_ | refine Rt.jbE ?_)) | ((with_reducible (first | apply Rt.ld0 | apply Rt.ld1 | apply Rt.ld2 | apply Rt.ld3 | apply Rt.ld4 | apply Rt.ld5)); first | assumption | exact Lc.kp (by assumption) (by assumption)) | ((with_reducible apply Rt.ol); first | assumption | exact cell_kp (by assumption) (by assumption)))); exact Rt.some' rfl))))
  have e2 : IntKind.u8.wrap (z : Int) = z := by rw [u8w]; omega
  rw [e2]
  refine Rt.ixTab (by decide +kernel) hz fun t ht ht2 => ?_
  rw [i64_in (t : Int) (by omega), i64_in ((k : Int) + t) (by omega)]
  refine Rt.some' ⟨rfl, k + t, by simp, ?_, fun h1 => ?_⟩
  · rcases hk with ⟨_, _, rfl⟩ | ⟨_, rfl, rfl⟩
    · omega
    · have h2 := ht2 (Nat.le_refl _)
      have : t ≤ 1 := by
        rcases Nat.lt_or_ge 1 t with h3 | h3
        · have := Nat.pow_le_pow_right (show 0 < 2 by decide) (show 2 ≤ t from h3); omega
        · exact h3
      omega
  · rcases hk with ⟨_, rfl, rfl⟩ | ⟨h4, rfl, rfl⟩
    · rw [Nat.zero_add]; exact ht2 h1
    · have h2 := ht2 (Nat.le_refl _)
      rw [Nat.pow_add]; omega
theorem Len_spec {x : Nat} (hx : x < 512) : Rt (bits_Len n [.int .u64 (x : Int)] w) fun y => ∃ t : Nat, y = ([.int .i64 (t : Int)], w) ∧ t ≤ 9 ∧ (1 ≤ x → 2 ^ t ≤ 2 * x) := by
  rw [bits_Len_eq]
  obtain ⟨_, e, t, rfl, h1, h2⟩ := Len64_spec (n := n) (w := w) hx
  refine Rt.fin (Rt.cl e ?_)
  (repeat (first | (with_reducible (first | refine Rt.fin ?_ | refine Rt.tL ?_ | refine Rt.tI ?_ | refine Rt.tB ?_ | refine Rt.tS ?_ | refine Rt.tP ?_ | refine Rt.tD ?_ | refine Rt.tM ?_ | refine Rt.tC ?_ | refine Rt.tN ?_ | refine Rt.tA ?_ | refine Rt.tG ?_ | refine Rt.tF ?_ | refine Rt.os ?_ | refine Rt.clS ?_ | refine Rt.jmN ?_ | refine Rt.jbN ?_ | refine Rt.jbE ?_)) | ((with_reducible (first | apply Rt.ld0 | apply Rt.ld1 | apply Rt.ld2 | apply Rt.ld3 | apply Rt.ld4 | apply Rt.ld5)); first | assumption | exact Lc.kp (by assumption) (by assumption)) | ((with_reducible apply Rt.ol); first | assumption | exact cell_kp (by assumption) (by assumption)) | ((with_reducible apply Rt.ckR); focus ((repeat (first | (with_reducible (first | refine Rt.fin ?_ | refine Rt.tL ?_ | refine Rt.tI ?_ | refine Rt.tB ?_ | refine Rt.tS ?_ | refine Rt.tP ?_ | refine Rt.tD ?_ | refine Rt.tM ?_ | refine Rt.tC ?_ | refine Rt.tN ?_ | refine Rt.tA ?_ | refine Rt.tG ?_ | refine Rt.tF ?_ | refine Rt.os ?_ | refine Rt.clS ?_ | refine Rt.jmN ?_ | refine Rt.jbN ?_ | refine Rt.jbE ?_)) | ((with_reducible (first | apply Rt.ld0 | apply Rt.ld1 | apply Rt.ld2 | apply Rt.ld3 | apply Rt.ld4 | apply Rt.ld5)); first | assumption | exact Lc.kp (by assumption) (by assumption)) | ((with_reducible apply Rt.ol); first | assumption | exact cell_kp (by assumption) (by assumption)))); exact Rt.some' rfl))))
  exact Rt.some' ⟨rfl, t, rfl, h1, h2⟩
theorem Pow_spec {x : Nat} (hx : x < 512) (hx1 : 1 ≤ x) : Rt (slices_nextPowerOfTwo n [.int .i64 (x : Int)] w) fun y => ∃ z : Nat, y = ([.int .u64 (z : Int)], w) ∧ 1 ≤ z ∧ z ≤ 2 * x := by
  rw [slices_nextPowerOfTwo_eq, u64_in (x : Int) (by omega)]
  obtain ⟨_, e, t, rfl, h1, h2⟩ := Len_spec (n := n) (w := w) hx
  refine Rt.fin (Rt.cl e ?_)
  (repeat (first | (with_reducible (first | refine Rt.fin ?_ | refine Rt.tL ?_ | refine Rt.tI ?_ | refine Rt.tB ?_ | refine Rt.tS ?_ | refine Rt.tP ?_ | refine Rt.tD ?_ | refine Rt.tM ?_ | refine Rt.tC ?_ | refine Rt.tN ?_ | refine Rt.tA ?_ | refine Rt.tG ?_ | refine Rt.tF ?_ | refine Rt.os ?_ | refine Rt.clS ?_ | refine Rt.jmN ?_ | refine Rt.jbN ?_ | refine Rt.jbE ?_)) | ((with_reducible (first | apply Rt.ld0 | apply Rt.ld1 | apply Rt.ld2 | apply Rt.ld3 | apply Rt.ld4 | apply Rt.ld5)); first | assumption | exact Lc.kp (by assumption) (by assumption)) | ((with_reducible apply Rt.ol); first | assumption | exact cell_kp (by assumption) (by assumption)) | ((with_reducible apply Rt.ckR); focus ((repeat (first | (with_reducible (first | refine Rt.fin ?_ | refine Rt.tL ?_ | refine Rt.tI ?_ | refine Rt.tB ?_ | refine Rt.tS ?_ | refine Rt.tP ?_ | refine Rt.tD ?_ | refine Rt.tM ?_ | refine Rt.tC ?_ | refine Rt.tN ?_ | refine Rt.tA ?_ | refine Rt.tG ?_ | refine Rt.tF ?_ | refine Rt.os ?_ | refine Rt.clS ?_ | refine Rt.jmN ?_ | refine Rt.jbN ?_ | refine Rt.jbE ?_)) | ((with_reducible (first | apply Rt.ld0 | apply Rt.ld1 | apply Rt.ld2 | apply Rt.ld3 | apply Rt.ld4 | apply Rt.ld5)); first | assumption | exact Lc.kp (by assumption) (by assumption)) | ((with_reducible apply Rt.ol); first | assumption | exact cell_kp (by assumption) (by assumption)))); exact Rt.some' rfl))))
  rw [if_neg (by omega), Int.toNat_natCast, Nat.min_eq_left (by omega)]
  have hp := h2 hx1
  have h0 : 0 < 2 ^ t := Nat.pow_pos (by decide)
  have e1 : ((1 : Int) * 2 ^ t) = ((2 ^ t : Nat) : Int) := by rw [Int.one_mul]; simp
  rw [e1, u64_in _ (by omega)]
  exact Rt.some' ⟨rfl, 2 ^ t, rfl, h0, hp⟩
theorem Next_spec {rb : Nat} {z : Int} (hl : Lc w rb [.int .u64 z]) : Rt (slices_xorshift_Next n [.pointer (some ⟨rb, 0, none⟩)] w) fun y => ∃ w' z', y = ([.int .u64 z'], w') ∧ Lc w' rb [.int .u64 z'] ∧ Gx (fun k => k = rb) w w' := by
  rw [slices_xorshift_Next_eq]
  have hd := hl.kp (Kp.rfl' w).dr
  refine Rt.fin ?_
  (repeat (first | (with_reducible (first | refine Rt.fin ?_ | refine Rt.tL ?_ | refine Rt.tI ?_ | refine Rt.tB ?_ | refine Rt.tS ?_ | refine Rt.tP ?_ | refine Rt.tD ?_ | refine Rt.tM ?_ | refine Rt.tC ?_ | refine Rt.tN ?_ | refine Rt.tA ?_ | refine Rt.tG ?_ | refine Rt.tF ?_ | refine Rt.os ?_ | refine Rt.clS ?_ | refine Rt.jmN ?_ | refine Rt.jbN ?_ | refine Rt.jbE ?_)) | ((with_reducible (first | apply Rt.ld0 | apply Rt.ld1 | apply Rt.ld2 | apply Rt.ld3 | apply Rt.ld4 | apply Rt.ld5)); first | assumption | exact Lc.kp (by assumption) (by assumption)) | ((with_reducible apply Rt.ol); first | assumption | exact cell_kp (by assumption) (by assumption)) | ((with_reducible apply Rt.ckR); focus ((repeat (first | (with_reducible (first | refine Rt.fin ?_ | refine Rt.tL ?_ | refine Rt.tI ?_ | refine Rt.tB ?_ | refine Rt.tS ?_ | refine Rt.tP ?_ | refine Rt.tD ?_ | refine Rt.tM ?_ | refine Rt.tC ?_ | refine Rt.tN ?_ | refine Rt.tA ?_ | refine Rt.tG ?_ | refine Rt.tF ?_ | refine Rt.os ?_ | refine Rt.clS ?_ | refine Rt.jmN ?_ | refine Rt.jbN ?_ | refine Rt.jbE ?_)) | ((with_reducible (first | apply Rt.ld0 | apply Rt.ld1 | apply Rt.ld2 | apply Rt.ld3 | apply Rt.ld4 | apply Rt.ld5)); first | assumption | exact Lc.kp (by assumption) (by assumption)) | ((with_reducible apply Rt.ol); first | assumption | exact cell_kp (by assumption) (by assumption)))); exact Rt.some' rfl))))
  refine Rt.st0 hd fun w1 l1 g1 => ?_
  have l1d := l1.kp (Kp.rfl' w1).dr
  (repeat (first | (with_reducible (first | refine Rt.fin ?_ | refine Rt.tL ?_ | refine Rt.tI ?_ | refine Rt.tB ?_ | refine Rt.tS ?_ | refine Rt.tP ?_ | refine Rt.tD ?_ | refine Rt.tM ?_ | refine Rt.tC ?_ | refine Rt.tN ?_ | refine Rt.tA ?_ | refine Rt.tG ?_ | refine Rt.tF ?_ | refine Rt.os ?_ | refine Rt.clS ?_ | refine Rt.jmN ?_ | refine Rt.jbN ?_ | refine Rt.jbE ?_)) | ((with_reducible (first | apply Rt.ld0 | apply Rt.ld1 | apply Rt.ld2 | apply Rt.ld3 | apply Rt.ld4 | apply Rt.ld5)); first | assumption | exact Lc.kp (by assumption) (by assumption)) | ((with_reducible apply Rt.ol); first | assumption | exact cell_kp (by assumption) (by assumption)) | ((with_reducible apply Rt.ckR); focus ((repeat (first | (with_reducible (first | refine Rt.fin ?_ | refine Rt.tL ?_ | refine Rt.tI ?_ | refine Rt.tB ?_ | refine Rt.tS ?_ | refine Rt.tP ?_ | refine Rt.tD ?_ | refine Rt.tM ?_ | refine Rt.tC ?_ | refine Rt.tN ?_ | refine Rt.tA ?_ | refine Rt.tG ?_ | refine Rt.tF ?_ | refine Rt.os ?_ | refine Rt.clS ?_ | refine Rt.jmN ?_ | refine Rt.jbN ?_ | refine Rt.jbE ?_)) | ((with_reducible (first | apply Rt.ld0 | apply Rt.ld1 | apply Rt.ld2 | apply Rt.ld3 | apply Rt.ld4 | apply Rt.ld5)); first | assumption | exact Lc.kp (by assumption) (by assumption)) | ((with_reducible apply Rt.ol); first | assumption | exact cell_kp (by assumption) (by assumption)))); exact Rt.some' rfl))))
  refine Rt.st0 l1d fun w2 l2 g2 => ?_
  have l2d := l2.kp (Kp.rfl' w2).dr
  (repeat (first | (with_reducible (first | refine Rt.fin ?_ | refine Rt.tL ?_ | refine Rt.tI ?_ | refine Rt.tB ?_ | refine Rt.tS ?_ | refine Rt.tP ?_ | refine Rt.tD ?_ | refine Rt.tM ?_ | refine Rt.tC ?_ | refine Rt.tN ?_ | refine Rt.tA ?_ | refine Rt.tG ?_ | refine Rt.tF ?_ | refine Rt.os ?_ | refine Rt.clS ?_ | refine Rt.jmN ?_ | refine Rt.jbN ?_ | refine Rt.jbE ?_)) | ((with_reducible (first | apply Rt.ld0 | apply Rt.ld1 | apply Rt.ld2 | apply Rt.ld3 | apply Rt.ld4 | apply Rt.ld5)); first | assumption | exact Lc.kp (by assumption) (by assumption)) | ((with_reducible apply Rt.ol); first | assumption | exact cell_kp (by assumption) (by assumption)) | ((with_reducible apply Rt.ckR); focus ((repeat (first | (with_reducible (first | refine Rt.fin ?_ | refine Rt.tL ?_ | refine Rt.tI ?_ | refine Rt.tB ?_ | refine Rt.tS ?_ | refine Rt.tP ?_ | refine Rt.tD ?_ | refine Rt.tM ?_ | refine Rt.tC ?_ | refine Rt.tN ?_ | refine Rt.tA ?_ | refine Rt.tG ?_ | refine Rt.tF ?_ | refine Rt.os ?_ | refine Rt.clS ?_ | refine Rt.jmN ?_ | refine Rt.jbN ?_ | refine Rt.jbE ?_)) | ((with_reducible (first | apply Rt.ld0 | apply Rt.ld1 | apply Rt.ld2 | apply Rt.ld3 | apply Rt.ld4 | apply Rt.ld5)); first | assumption | exact Lc.kp (by assumption) (by assumption)) | ((with_reducible apply Rt.ol); first | assumption | exact cell_kp (by assumption) (by assumption)))); exact Rt.some' rfl))))
  refine Rt.st0 l2d fun w3 l3 g3 => ?_
  (repeat (first | (with_reducible (first | refine Rt.fin ?_ | refine Rt.tL ?_ | refine Rt.tI ?_ | refine Rt.tB ?_ | refine Rt.tS ?_ | refine Rt.tP ?_ | refine Rt.tD ?_ | refine Rt.tM ?_ | refine Rt.tC ?_ | refine Rt.tN ?_ | refine Rt.tA ?_ | refine Rt.tG ?_ | refine Rt.tF ?_ | refine Rt.os ?_ | refine Rt.clS ?_ | refine Rt.jmN ?_ | refine Rt.jbN ?_ | refine Rt.jbE ?_)) | ((with_reducible (first | apply Rt.ld0 | apply Rt.ld1 | apply Rt.ld2 | apply Rt.ld3 | apply Rt.ld4 | apply Rt.ld5)); first | assumption | exact Lc.kp (by assumption) (by assumption)) | ((with_reducible apply Rt.ol); first | assumption | exact cell_kp (by assumption) (by assumption)) | ((with_reducible apply Rt.ckR); focus ((repeat (first | (with_reducible (first | refine Rt.fin ?_ | refine Rt.tL ?_ | refine Rt.tI ?_ | refine Rt.tB ?_ | refine Rt.tS ?_ | refine Rt.tP ?_ | refine Rt.tD ?_ | refine Rt.tM ?_ | refine Rt.tC ?_ | refine Rt.tN ?_ | refine Rt.tA ?_ | refine Rt.tG ?_ | refine Rt.tF ?_ | refine Rt.os ?_ | refine Rt.clS ?_ | refine Rt.jmN ?_ | refine Rt.jbN ?_ | refine Rt.jbE ?_)) | ((with_reducible (first | apply Rt.ld0 | apply Rt.ld1 | apply Rt.ld2 | apply Rt.ld3 | apply Rt.ld4 | apply Rt.ld5)); first | assumption | exact Lc.kp (by assumption) (by assumption)) | ((with_reducible apply Rt.ol); first | assumption | exact cell_kp (by assumption) (by assumption)))); exact Rt.some' rfl))))
  exact Rt.some' ⟨rfl, w3, _, rfl, l3, ((((Kp.rfl' w).dr.gx.tr g1).tr ((Kp.rfl' w1).dr.gx)).tr g2 |>.tr ((Kp.rfl' w2).dr.gx)).tr g3⟩
/-- The random number's cell. -/
structure Rn (w0 w : World) (A : Option Addr) (l c rb : Nat) : Prop where
  lc : ∃ z, Lc w rb [.int .u64 z]
  new : w0.heap.size ≤ rb
  off : ¬ On (.slice A l c) rb
theorem Brk_l0 {a len : Int} {rb mo : Nat} (hl : l ≤ 511) (ha : 0 ≤ a) (h8 : 8 ≤ len) (hal : a + len ≤ l) (hm1 : 1 ≤ mo) (hm2 : (mo : Int) ≤ 2 * len) : ∀ (q m : Nat) (i : Int) (w : World), Iv T kb w0 w base A l c → Rn w0 w A l c rb → a + len / 4 * 2 - 1 ≤ i → i ≤ a + len / 4 * 2 + 2 → a + len / 4 * 2 + 2 - i < q → q < m →
    Rt (api_Pair_37.l0 n m A l c a len ⟨rb, 0, none⟩ (mo : Int) i w) fun y => ∃ w', y = ⟨.exit 0, [], w'⟩ ∧ Iv T kb w0 w' base A l c := by
  have hd : Int.tdiv len 4 = len / 4 := Int.tdiv_eq_ediv_of_nonneg (by omega)
  intro q
  induction q with
  | zero => intro m i w h hr h1 h2 h3; omega
  | succ q ih =>
    intro m i w h hr h1 h2 h3 hm
    obtain ⟨m, rfl⟩ : ∃ m', m = m' + 1 := ⟨m - 1, by omega⟩
    rw [api_Pair_37.l0_succ, hd, i64_in (len / 4) (by omega), i64_in (len / 4 * 2) (by omega), i64_in (a + len / 4 * 2) (by omega), i64_in (a + len / 4 * 2 + 1) (by omega)]
    refine Rt.cD (fun hi => ?_) fun _ => Rt.some' ⟨_, rfl, h⟩
    obtain ⟨z, hz⟩ := hr.lc
    obtain ⟨_, e, w1, z1, rfl, l1, g1⟩ := Next_spec (n := n) hz
    refine Rt.cl e ?_
    (repeat (first | (with_reducible (first | refine Rt.fin ?_ | refine Rt.tL ?_ | refine Rt.tI ?_ | refine Rt.tB ?_ | refine Rt.tS ?_ | refine Rt.tP ?_ | refine Rt.tD ?_ | refine Rt.tM ?_ | refine Rt.tC ?_ | refine Rt.tN ?_ | refine Rt.tA ?_ | refine Rt.tG ?_ | refine Rt.tF ?_ | refine Rt.os ?_ | refine Rt.clS ?_ | refine Rt.jmN ?_ | refine Rt.jbN ?_ | refine Rt.jbE ?_)) | ((with_reducible (first | apply Rt.ld0 | apply Rt.ld1 | apply Rt.ld2 | apply Rt.ld3 | apply Rt.ld4 | apply Rt.ld5)); first | assumption | exact Lc.kp (by assumption) (by assumption)) | ((with_reducible apply Rt.ol); first | assumption | exact cell_kp (by assumption) (by assumption)) | ((with_reducible apply Rt.ckR); focus ((repeat (first | (with_reducible (first | refine Rt.fin ?_ | refine Rt.tL ?_ | refine Rt.tI ?_ | refine Rt.tB ?_ | refine Rt.tS ?_ | refine Rt.tP ?_ | refine Rt.tD ?_ | refine Rt.tM ?_ | refine Rt.tC ?_ | refine Rt.tN ?_ | refine Rt.tA ?_ | refine Rt.tG ?_ | refine Rt.tF ?_ | refine Rt.os ?_ | refine Rt.clS ?_ | refine Rt.jmN ?_ | refine Rt.jbN ?_ | refine Rt.jbE ?_)) | ((with_reducible (first | apply Rt.ld0 | apply Rt.ld1 | apply Rt.ld2 | apply Rt.ld3 | apply Rt.ld4 | apply Rt.ld5)); first | assumption | exact Lc.kp (by assumption) (by assumption)) | ((with_reducible apply Rt.ol); first | assumption | exact cell_kp (by assumption) (by assumption)))); exact Rt.some' rfl))))
    have h1' := h.gxN g1 fun j hj => by subst hj; exact ⟨hr.new, hr.off⟩
    have hr1 : Rn w0 w1 A l c rb := ⟨⟨_, l1⟩, hr.new, hr.off⟩
    obtain ⟨k, hk, ek⟩ := andM z1 (k := mo - 1) (by omega)
    have e1 : IntKind.u64.wrap ((mo : Int) - 1) = ((mo - 1 : Nat) : Int) := by rw [u64_in _ (by omega)]; omega
    rw [e1, ek, i64_in (k : Int) (by omega)]
    refine Rt.jm (Rt.mono (Q' := fun y => ∃ o : Int, y = ⟨.norm, [.slice A l c, .int .i64 a, .int .i64 len, .pointer (some ⟨rb, 0, none⟩), .int .u64 (mo : Int), .int .i64 i, .int .i64 o], w1⟩ ∧ 0 ≤ o ∧ o < len) ?_ ?_)
    · refine Rt.cD (fun hge => ?_) fun hge => Rt.some' ⟨_, rfl, by omega, by omega⟩
      rw [i64_in ((k : Int) - len) (by omega)]
      exact Rt.some' ⟨_, rfl, by omega, by omega⟩
    rintro _ ⟨o, rfl, o1, o2⟩
    refine ⟨rfl, ?_⟩
    dsimp only
    (repeat (first | (with_reducible (first | refine Rt.fin ?_ | refine Rt.tL ?_ | refine Rt.tI ?_ | refine Rt.tB ?_ | refine Rt.tS ?_ | refine Rt.tP ?_ | refine Rt.tD ?_ | refine Rt.tM ?_ | refine Rt.tC ?_ | refine Rt.tN ?_ | refine Rt.tA ?_ | refine Rt.tG ?_ | refine Rt.tF ?_ | refine Rt.os ?_ | refine Rt.clS ?_ | refine Rt.jmN ?_ | refine Rt.jbN ?_ | refine Rt.jbE ?_)) | ((with_reducible (first | apply Rt.ld0 | apply Rt.ld1 | apply Rt.ld2 | apply Rt.ld3 | apply Rt.ld4 | apply Rt.ld5)); first | assumption | exact Lc.kp (by assumption) (by assumption)) | ((with_reducible apply Rt.ol); first | assumption | exact cell_kp (by assumption) (by assumption)) | ((with_reducible apply Rt.ckR); focus ((repeat (first | (with_reducible (first | refine Rt.fin ?_ | refine Rt.tL ?_ | refine Rt.tI ?_ | refine Rt.tB ?_ | refine Rt.tS ?_ | refine Rt.tP ?_ | refine Rt.tD ?_ | refine Rt.tM ?_ | refine Rt.tC ?_ | refine Rt.tN ?_ | refine Rt.tA ?_ | refine Rt.tG ?_ | refine Rt.tF ?_ | refine Rt.os ?_ | refine Rt.clS ?_ | refine Rt.jmN ?_ | refine Rt.jbN ?_ | refine Rt.jbE ?_)) | ((with_reducible (first | apply Rt.ld0 | apply Rt.ld1 | apply Rt.ld2 | apply Rt.ld3 | apply Rt.ld4 | apply Rt.ld5)); first | assumption | exact Lc.kp (by assumption) (by assumption)) | ((with_reducible apply Rt.ol); first | assumption | exact cell_kp (by assumption) (by assumption)))); exact Rt.some' rfl))))
    rw [i64_in (a + o) (by omega)]
    refine Rt.swpK h1' (by omega) (by omega) (by omega) (by omega) fun w2 h2' g2 => ?_
    rw [i64_in (i + 1) (by omega)]
    exact ih m (i + 1) w2 h2' ⟨⟨_, l1.gx g2 hr.off⟩, hr.new, hr.off⟩ (by omega) (by omega) (by omega) (by omega)
theorem Iv.lt (h : Iv T kb w0 w base A l c) : ∀ j, On (.slice A l c) j → base ≤ j ∧ j < w.heap.size := by
  obtain ⟨xs, h1, _⟩ := h.row
  exact h1.to.lt
theorem Brk_spec (hl : l ≤ 511) (hn : 2 ^ 60 < n) (h : Iv T kb w0 w base A l c) (ha : 0 ≤ a) (hab : a ≤ b) (hb : b ≤ l) : Rt (api_Pair_37 n [.slice A l c, .int .i64 a, .int .i64 b, cmpV] w) fun y => ∃ w', y = ([], w') ∧ Iv T kb w0 w' base A l c := by
  rw [api_Pair_37_eq, i64_in (b - a) (by omega)]
  have hd : Int.tdiv (b - a) 4 = (b - a) / 4 := Int.tdiv_eq_ediv_of_nonneg (by omega)
  rw [hd, i64_in ((b - a) / 4) (by omega), i64_in ((b - a) / 4 * 2) (by omega), i64_in (a + (b - a) / 4 * 2) (by omega), i64_in (a + (b - a) / 4 * 2 - 1) (by omega)]
  refine Rt.fin (Rt.cD (fun h8 => ?_) fun _ => Rt.some' ⟨rfl, w, rfl, h⟩)
  refine Rt.al fun w1 l1 k1 s1 => Rt.st0 l1 fun w2 l2 g2 => ?_
  have hoff : ¬ On (.slice A l c) w.heap.size := fun e => by have := (h.lt _ e).2; omega
  have h2 := (h.kp k1).gxN g2 fun j hj => by subst hj; exact ⟨h.gx.size, hoff⟩
  have hr2 : Rn w0 w2 A l c w.heap.size := ⟨⟨_, l2⟩, h.gx.size, hoff⟩
  generalize w.heap.size = rb at *
  obtain ⟨len, hlen⟩ : ∃ len : Nat, b - a = (len : Int) := ⟨(b - a).toNat, by omega⟩
  obtain ⟨_, e, z, rfl, z1, z2⟩ := Pow_spec (n := n) (w := w2) (x := len) (by omega) (by omega)
  rw [hlen]
  refine Rt.cl e ?_
  (repeat (first | (with_reducible (first | refine Rt.fin ?_ | refine Rt.tL ?_ | refine Rt.tI ?_ | refine Rt.tB ?_ | refine Rt.tS ?_ | refine Rt.tP ?_ | refine Rt.tD ?_ | refine Rt.tM ?_ | refine Rt.tC ?_ | refine Rt.tN ?_ | refine Rt.tA ?_ | refine Rt.tG ?_ | refine Rt.tF ?_ | refine Rt.os ?_ | refine Rt.clS ?_ | refine Rt.jmN ?_ | refine Rt.jbN ?_ | refine Rt.jbE ?_)) | ((with_reducible (first | apply Rt.ld0 | apply Rt.ld1 | apply Rt.ld2 | apply Rt.ld3 | apply Rt.ld4 | apply Rt.ld5)); first | assumption | exact Lc.kp (by assumption) (by assumption)) | ((with_reducible apply Rt.ol); first | assumption | exact cell_kp (by assumption) (by assumption)) | ((with_reducible apply Rt.ckR); focus ((repeat (first | (with_reducible (first | refine Rt.fin ?_ | refine Rt.tL ?_ | refine Rt.tI ?_ | refine Rt.tB ?_ | refine Rt.tS ?_ | refine Rt.tP ?_ | refine Rt.tD ?_ | refine Rt.tM ?_ | refine Rt.tC ?_ | refine Rt.tN ?_ | refine Rt.tA ?_ | refine Rt.tG ?_ | refine Rt.tF ?_ | refine Rt.os ?_ | refine Rt.clS ?_ | refine Rt.jmN ?_ | refine Rt.jbN ?_ | refine Rt.jbE ?_)) | ((with_reducible (first | apply Rt.ld0 | apply Rt.ld1 | apply Rt.ld2 | apply Rt.ld3 | apply Rt.ld4 | apply Rt.ld5)); first | assumption | exact Lc.kp (by assumption) (by assumption)) | ((with_reducible apply Rt.ol); first | assumption | exact cell_kp (by assumption) (by assumption)))); exact Rt.some' rfl))))
  refine Rt.jb (Rt.mono (Brk_l0 (n := n) (a := a) (len := (len : Int)) (mo := z) hl ha (by omega) (by omega) z1 (by omega) 5 n _ w2 h2 hr2 (by omega) (by omega) (by omega) (by omega)) ?_)
  rintro _ ⟨w3, rfl, h3⟩
  exact .inl ⟨.inr rfl, Rt.tN (Rt.some' ⟨rfl, w3, rfl, h3⟩)⟩
end
end Go.Proofs.Ytdcdgmiojlldaaa.Hi
