/- What is written is read. -/
import Derived.Test.YtfbbdokmddjfkaaV1
namespace Go.Proofs.Ytfbbdokmddjfkaa.Var
open Go Big Go.RowKit Go.IntWalk
set_option linter.unusedVariables false
set_option linter.unusedSimpArgs false
theorem or64 {x y k : Nat} (hx : x < 2 ^ k) (h : x + y * 2 ^ k < 2 ^ 64) : bits .or .u64 (x : Int) ((y * 2 ^ k : Nat) : Int) = ((x + y * 2 ^ k : Nat) : Int) := by
  have e : x ||| y * 2 ^ k = x + y * 2 ^ k := by
    rw [Nat.or_comm, Nat.mul_comm, ← Nat.two_pow_add_eq_or_of_lt hx, Nat.add_comm]
  have hx64 : x < 2 ^ 64 := by omega
  have hy64 : y * 2 ^ k < 2 ^ 64 := by omega
  have hb : (BitVec.ofNat 64 x ||| BitVec.ofNat 64 (y * 2 ^ k)).toNat = x + y * 2 ^ k := by
    rw [BitVec.toNat_or, BitVec.toNat_ofNat, BitVec.toNat_ofNat, Nat.mod_eq_of_lt hx64, Nat.mod_eq_of_lt hy64, e]
  unfold bits
  simp only [IntKind.bits, BitVec.ofInt_natCast]
  show IntKind.u64.wrap (((BitVec.ofNat 64 x ||| BitVec.ofNat 64 (y * 2 ^ k)).toNat : Nat) : Int) = _
  rw [hb]
  generalize x + y * 2 ^ k = z at h ⊢
  exact u64_in (z : Int) (by omega)
theorem and127f : ∀ y : Fin 256, bits .and .u8 ((y.val : Nat) : Int) 127 = ((y.val % 128 : Nat) : Int) := by decide +kernel
theorem and127 {y : Nat} (h : y < 256) : bits .and .u8 (y : Int) 127 = ((y % 128 : Nat) : Int) := and127f ⟨y, h⟩
/-- One byte more. -/
theorem join {acc c i : Nat} (ha : acc < 2 ^ (7 * i)) (hc : c < 256) (h : acc + (c % 128) * 2 ^ (7 * i) < 2 ^ 64) :
    bits .or .u64 (acc : Int) (IntKind.u64.wrap ((IntKind.u64.wrap (bits .and .u8 (c : Int) 127)) * 2 ^ (7 * i))) = ((acc + (c % 128) * 2 ^ (7 * i) : Nat) : Int) := by
  have e1 : IntKind.u64.wrap ((c % 128 : Nat) : Int) = ((c % 128 : Nat) : Int) := u64_in _ (by omega)
  have e2 : ((c % 128 : Nat) : Int) * 2 ^ (7 * i) = (((c % 128) * 2 ^ (7 * i) : Nat) : Int) := by rw [Int.natCast_mul, Int.natCast_pow]; rfl
  have e3 : IntKind.u64.wrap (((c % 128) * 2 ^ (7 * i) : Nat) : Int) = (((c % 128) * 2 ^ (7 * i) : Nat) : Int) := by
    generalize (c % 128) * 2 ^ (7 * i) = z at h ⊢
    exact u64_in _ (by omega)
  rw [and127 hc, e1, e2, e3, or64 ha h]
theorem pow_split (i : Nat) (h : 7 * i + 7 ≤ 64) : 2 ^ (64 - 7 * i) = 2 ^ (64 - 7 * (i + 1)) * 128 := by
  rw [show (128 : Nat) = 2 ^ 7 from rfl, ← Nat.pow_add]; congr 1; omega
theorem fit {acc x i : Nat} (hi : 7 * i ≤ 64) (ha : acc < 2 ^ (7 * i)) (hx : x < 2 ^ (64 - 7 * i)) : acc + x * 2 ^ (7 * i) < 2 ^ 64 := by
  have h1 : (x + 1) * 2 ^ (7 * i) ≤ 2 ^ (64 - 7 * i) * 2 ^ (7 * i) := Nat.mul_le_mul_right _ hx
  rw [← Nat.pow_add, show 64 - 7 * i + 7 * i = 64 by omega, Nat.add_mul, Nat.one_mul] at h1
  omega
theorem gv_enc (at' : Int) (rest : List Int) : ∀ (k x i acc : Nat), x < 2 ^ (7 * k + 7) → i ≤ 9 → acc < 2 ^ (7 * i) → x < 2 ^ (64 - 7 * i) → (0 < i → 0 < x) →
    gv at' i (acc : Int) (enc x ++ rest) = (((acc + x * 2 ^ (7 * i) : Nat) : Int), at' + i + (enc x).length, 0) := by
  intro k
  induction k with
  | zero =>
    intro x i acc hk hi ha hx h0
    have h128 : x < 128 := by simpa using hk
    have h9 : ¬ (((i : Int) = 9 ∧ (x : Int) > 1) ∨ (0 < (i : Int) ∧ (x : Int) = 0)) := by
      rintro (⟨h, h'⟩ | ⟨h, h'⟩)
      · have : i = 9 := by omega
        subst this
        have : x < 2 := by simpa using hx
        omega
      · have := h0 (by omega); omega
    have hm : x % 128 = x := Nat.mod_eq_of_lt h128
    have hj := join (acc := acc) (c := x) (i := i) ha (by omega) (by rw [hm]; exact fit (by omega) ha hx)
    rw [enc_small h128, List.cons_append, gv, if_neg h9, if_pos (by omega), hj, hm]
    rfl
  | succ k ih =>
    intro x i acc hk hi ha hx h0
    by_cases h128 : x < 128
    · have h9 : ¬ (((i : Int) = 9 ∧ (x : Int) > 1) ∨ (0 < (i : Int) ∧ (x : Int) = 0)) := by
        rintro (⟨h, h'⟩ | ⟨h, h'⟩)
        · have : i = 9 := by omega
          subst this
          have : x < 2 := by simpa using hx
          omega
        · have := h0 (by omega); omega
      have hm : x % 128 = x := Nat.mod_eq_of_lt h128
      have hj := join (acc := acc) (c := x) (i := i) ha (by omega) (by rw [hm]; exact fit (by omega) ha hx)
      rw [enc_small h128, List.cons_append, gv, if_neg h9, if_pos (by omega), hj, hm]
      rfl
    · have hi8 : i ≤ 8 := by
        rcases Nat.lt_or_ge 8 i with h | h
        · have : i = 9 := by omega
          subst this
          have : x < 2 := by simpa using hx
          omega
        · exact h
      have h9 : ¬ (((i : Int) = 9 ∧ ((x % 128 + 128 : Nat) : Int) > 1) ∨ (0 < (i : Int) ∧ ((x % 128 + 128 : Nat) : Int) = 0)) := by omega
      have hm : (x % 128 + 128) % 128 = x % 128 := by omega
      have hf := fit (by omega) ha hx
      have hle : x % 128 * 2 ^ (7 * i) ≤ x * 2 ^ (7 * i) := Nat.mul_le_mul_right _ (Nat.mod_le _ _)
      have hj := join (acc := acc) (c := x % 128 + 128) (i := i) ha (by omega) (by rw [hm]; omega)
      have hp : 2 ^ (7 * (i + 1)) = 128 * 2 ^ (7 * i) := by rw [show 7 * (i + 1) = 7 + 7 * i by omega, Nat.pow_add]
      have hacc : acc + x % 128 * 2 ^ (7 * i) < 2 ^ (7 * (i + 1)) := by
        rw [hp]
        have h1 : (x % 128 + 1) * 2 ^ (7 * i) ≤ 128 * 2 ^ (7 * i) := Nat.mul_le_mul_right _ (Nat.mod_lt _ (by decide))
        rw [Nat.add_mul, Nat.one_mul] at h1
        omega
      have hx' : x / 128 < 2 ^ (64 - 7 * (i + 1)) := by
        rw [pow_split i (by omega)] at hx; omega
      have hk' : x / 128 < 2 ^ (7 * k + 7) := by
        have e : 2 ^ (7 * (k + 1) + 7) = 2 ^ (7 * k + 7) * 128 := by rw [show 7 * (k + 1) + 7 = 7 * k + 7 + 7 by omega, Nat.pow_add]
        rw [e] at hk; omega
      have hr := ih (x / 128) (i + 1) (acc + x % 128 * 2 ^ (7 * i)) hk' (by omega) hacc hx' (fun _ => by omega)
      rw [enc_big h128, List.cons_append, gv, if_neg h9, if_neg (by omega), hj, hm, hr]
      have e1 : acc + x % 128 * 2 ^ (7 * i) + x / 128 * 2 ^ (7 * (i + 1)) = acc + x * 2 ^ (7 * i) := by
        rw [hp, ← Nat.mul_assoc, Nat.add_assoc, ← Nat.add_mul]
        congr 2; omega
      rw [e1, List.length_cons]
      congr 2; omega
theorem gv_short (at' : Int) : ∀ (k x i acc : Nat), x < 2 ^ (7 * k + 7) → i ≤ 9 → acc < 2 ^ (7 * i) → x < 2 ^ (64 - 7 * i) → gv at' i (acc : Int) (enc x).dropLast = (0, 0, 4) := by
  intro k
  induction k with
  | zero =>
    intro x i acc hk hi ha hx
    rw [enc_small (by simpa using hk)]; rfl
  | succ k ih =>
    intro x i acc hk hi ha hx
    by_cases h128 : x < 128
    · rw [enc_small h128]; rfl
    · have hi8 : i ≤ 8 := by
        rcases Nat.lt_or_ge 8 i with h | h
        · have : i = 9 := by omega
          subst this
          have : x < 2 := by simpa using hx
          omega
        · exact h
      have h9 : ¬ (((i : Int) = 9 ∧ ((x % 128 + 128 : Nat) : Int) > 1) ∨ (0 < (i : Int) ∧ ((x % 128 + 128 : Nat) : Int) = 0)) := by omega
      have hm : (x % 128 + 128) % 128 = x % 128 := by omega
      have hf := fit (by omega) ha hx
      have hle : x % 128 * 2 ^ (7 * i) ≤ x * 2 ^ (7 * i) := Nat.mul_le_mul_right _ (Nat.mod_le _ _)
      have hj := join (acc := acc) (c := x % 128 + 128) (i := i) ha (by omega) (by rw [hm]; omega)
      have hp : 2 ^ (7 * (i + 1)) = 128 * 2 ^ (7 * i) := by rw [show 7 * (i + 1) = 7 + 7 * i by omega, Nat.pow_add]
      have hacc : acc + x % 128 * 2 ^ (7 * i) < 2 ^ (7 * (i + 1)) := by
        rw [hp]
        have h1 : (x % 128 + 1) * 2 ^ (7 * i) ≤ 128 * 2 ^ (7 * i) := Nat.mul_le_mul_right _ (Nat.mod_lt _ (by decide))
        rw [Nat.add_mul, Nat.one_mul] at h1
        omega
      have hx' : x / 128 < 2 ^ (64 - 7 * (i + 1)) := by
        rw [pow_split i (by omega)] at hx; omega
      have hk' : x / 128 < 2 ^ (7 * k + 7) := by
        have e : 2 ^ (7 * (k + 1) + 7) = 2 ^ (7 * k + 7) * 128 := by rw [show 7 * (k + 1) + 7 = 7 * k + 7 + 7 by omega, Nat.pow_add]
        rw [e] at hk; omega
      have hne : enc (x / 128) ≠ [] := by rw [enc]; split <;> simp
      rw [enc_big h128, List.dropLast_cons_of_ne_nil hne, gv, if_neg h9, if_neg (by omega), hj, hm]
      exact ih (x / 128) (i + 1) _ hk' (by omega) hacc hx'
theorem enc_bytes : ∀ (k x : Nat), x < 2 ^ (7 * k + 7) → ∀ y ∈ enc x, 0 ≤ y ∧ y ≤ 255
  | 0, x, h => by rw [enc_small (by simpa using h)]; have : x < 128 := by simpa using h
                  intro y hy; rw [List.mem_singleton] at hy; omega
  | k + 1, x, h => by
    by_cases h128 : x < 128
    · rw [enc_small h128]; intro y hy; rw [List.mem_singleton] at hy; omega
    · rw [enc_big h128]
      have hk' : x / 128 < 2 ^ (7 * k + 7) := by
        have e : 2 ^ (7 * (k + 1) + 7) = 2 ^ (7 * k + 7) * 128 := by rw [show 7 * (k + 1) + 7 = 7 * k + 7 + 7 by omega, Nat.pow_add]
        rw [e] at h; omega
      intro y hy
      rcases List.mem_cons.1 hy with rfl | hy
      · omega
      · exact enc_bytes k _ hk' y hy
theorem enc_pos (x : Nat) : 1 ≤ (enc x).length := by rw [enc]; split <;> simp
theorem getR_enc (bs rest : List Int) (x : Nat) (hx : x < 2 ^ 64) : getR (bs ++ enc x ++ rest) (bs.length : Int) = ((x : Int), ((bs.length + (enc x).length : Nat) : Int), 0) := by
  have h := gv_enc (bs.length : Int) rest 9 x 0 0 (by omega) (by omega) (by decide) (by simpa using hx) (fun h => absurd h (by omega))
  unfold getR
  rw [if_neg (by omega), if_neg (by simp; omega), List.append_assoc, Int.toNat_natCast, List.drop_left]
  have h : gv (bs.length : Int) 0 0 (enc x ++ rest) = _ := h
  rw [h]; simp
end Go.Proofs.Ytfbbdokmddjfkaa.Var
