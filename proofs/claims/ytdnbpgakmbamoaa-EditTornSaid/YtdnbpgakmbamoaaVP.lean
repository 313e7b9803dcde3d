/- Numbers in few bytes: what is read is what was written, and nothing else is. -/
import Derived.Test.YtdnbpgakmbamoaaVL
namespace Go.Proofs.Ytdnbpgakmbamoaa.Var
open Go Big Go.RowKit Go.IntWalk
set_option linter.unusedVariables false
set_option linter.unusedSimpArgs false
theorem gv_ext (at' : Int) (ys : List Int) : ∀ (cs : List Int) (i : Nat) (acc : Int), (gv at' i acc cs).2.2 = 0 → gv at' i acc (cs ++ ys) = gv at' i acc cs
  | [], i, acc, h => by simp [gv] at h
  | c :: cs, i, acc, h => by
    rw [List.cons_append]
    simp only [gv] at h ⊢
    split
    · rfl
    · rename_i hb
      rw [if_neg hb] at h
      split
      · rfl
      · rename_i h8
        rw [if_neg h8] at h
        exact gv_ext at' ys cs _ _ h
theorem gv_to (at' : Int) : ∀ (cs : List Int) (i : Nat) (acc : Int), (gv at' i acc cs).2.2 = 0 → ∃ m, 1 ≤ m ∧ m ≤ cs.length ∧ (gv at' i acc cs).2.1 = at' + i + m ∧ ∀ k, k < m → gv at' i acc (cs.take k) = (0, 0, 4)
  | [], i, acc, h => by simp [gv] at h
  | c :: cs, i, acc, h => by
    by_cases hb : ((i : Int) = 9 ∧ c > 1) ∨ (0 < (i : Int) ∧ c = 0)
    · simp only [gv] at h; rw [if_pos hb] at h; simp at h
    · by_cases h8 : c < 128
      · refine ⟨1, by omega, by simp, by simp only [gv]; rw [if_neg hb, if_pos h8]; rfl, fun k hk => ?_⟩
        obtain rfl : k = 0 := by omega
        rfl
      · have h' := h
        simp only [gv] at h'
        rw [if_neg hb, if_neg h8] at h'
        obtain ⟨m, h1, h2, h3, h4⟩ := gv_to at' cs _ _ h'
        refine ⟨m + 1, by omega, by simp; omega, ?_, fun k hk => ?_⟩
        · simp only [gv]; rw [if_neg hb, if_neg h8, h3]; omega
        · cases k with
          | zero => rfl
          | succ k =>
            rw [List.take_succ_cons]
            simp only [gv]
            rw [if_neg hb, if_neg h8]
            exact h4 k (by omega)
theorem gv_can (at' : Int) : ∀ (cs : List Int) (i acc : Nat), (∀ z ∈ cs, 0 ≤ z ∧ z ≤ 255) → i ≤ 9 → acc < 2 ^ (7 * i) → (gv at' i (acc : Int) cs).2.2 = 0 →
    ∃ y : Nat, y < 2 ^ (64 - 7 * i) ∧ (0 < i → 0 < y) ∧ gv at' i (acc : Int) cs = (((acc + y * 2 ^ (7 * i) : Nat) : Int), at' + i + (enc y).length, 0) ∧ cs.take (enc y).length = enc y
  | [], i, acc, _, _, _, h => by simp [gv] at h
  | c :: cs, i, acc, hc, hi, ha, h => by
    have hcb := hc c List.mem_cons_self
    obtain ⟨c, rfl⟩ := Int.eq_ofNat_of_zero_le hcb.1
    by_cases hb : ((i : Int) = 9 ∧ (c : Int) > 1) ∨ (0 < (i : Int) ∧ (c : Int) = 0)
    · simp only [gv] at h; rw [if_pos hb] at h; simp at h
    · by_cases h8 : (c : Int) < 128
      · have hm : c % 128 = c := Nat.mod_eq_of_lt (by omega)
        have hx : c < 2 ^ (64 - 7 * i) := by
          rcases Nat.lt_or_ge i 9 with h9 | h9
          · have : (2 : Nat) ^ 7 ≤ 2 ^ (64 - 7 * i) := Nat.pow_le_pow_right (by decide) (by omega)
            omega
          · obtain rfl : i = 9 := by omega
            have : (2 : Nat) ^ (64 - 7 * 9) = 2 := rfl
            omega
        have hj := join (acc := acc) (c := c) (i := i) ha (by omega) (by rw [hm]; exact fit (by omega) ha hx)
        rw [hm] at hj
        refine ⟨c, hx, fun h0 => by omega, ?_, by rw [enc_small (by omega)]; rfl⟩
        simp only [gv]
        rw [if_neg hb, if_pos h8, hj, enc_small (by omega)]; rfl
      · have hi8 : i ≤ 8 := by omega
        have hf := fit (i := i) (acc := acc) (x := c % 128) (by omega) ha (by
          have : (2 : Nat) ^ 8 ≤ 2 ^ (64 - 7 * i) := Nat.pow_le_pow_right (by decide) (by omega)
          omega)
        have hj := join (acc := acc) (c := c) (i := i) ha (by omega) hf
        have hp : 2 ^ (7 * (i + 1)) = 128 * 2 ^ (7 * i) := by rw [show 7 * (i + 1) = 7 + 7 * i by omega, Nat.pow_add]
        have hacc : acc + c % 128 * 2 ^ (7 * i) < 2 ^ (7 * (i + 1)) := by
          rw [hp]
          have h1 : (c % 128 + 1) * 2 ^ (7 * i) ≤ 128 * 2 ^ (7 * i) := Nat.mul_le_mul_right _ (Nat.mod_lt _ (by decide))
          rw [Nat.add_mul, Nat.one_mul] at h1
          omega
        have h' := h
        simp only [gv] at h'
        rw [if_neg hb, if_neg h8, hj] at h'
        obtain ⟨y, h1, h2, h3, h4⟩ := gv_can at' cs (i + 1) (acc + c % 128 * 2 ^ (7 * i)) (fun z hz => hc z (List.mem_cons_of_mem _ hz)) (by omega) hacc h'
        have hy := h2 (by omega)
        have hbig : ¬ (c % 128 + 128 * y) < 128 := by omega
        have e1 : (c % 128 + 128 * y) % 128 + 128 = c := by omega
        have e2 : (c % 128 + 128 * y) / 128 = y := by omega
        refine ⟨c % 128 + 128 * y, ?_, fun _ => by omega, ?_, ?_⟩
        · rw [pow_split i (by omega)]; omega
        · have e3 : acc + c % 128 * 2 ^ (7 * i) + y * 2 ^ (7 * (i + 1)) = acc + (c % 128 + 128 * y) * 2 ^ (7 * i) := by
            rw [hp, Nat.add_mul, ← Nat.mul_assoc, Nat.mul_comm y 128]; omega
          simp only [gv]
          rw [if_neg hb, if_neg h8, hj, h3, e3, enc_big hbig, e1, e2, List.length_cons]
          congr 2
          omega
        · rw [enc_big hbig, e1, e2, List.length_cons, List.take_succ_cons, h4]
theorem getR_in {xs : List Int} {i : Int} (h : (getR xs i).2.2 = 0) : 0 ≤ i ∧ i ≤ xs.length := by
  unfold getR at h
  split at h
  · simp at h
  · split at h
    · simp at h
    · omega
theorem getR_ext {xs : List Int} (ys : List Int) {i : Int} (h : (getR xs i).2.2 = 0) : getR (xs ++ ys) i = getR xs i := by
  have hi := getR_in h
  unfold getR at h ⊢
  rw [if_neg (by omega), if_neg (by omega)] at h
  rw [if_neg (by omega), if_neg (by simp; omega), if_neg (by omega), if_neg (by omega), List.drop_append_of_le_length (by omega)]
  exact gv_ext _ _ _ _ _ h
/-- What is read is the writing of a number. -/
theorem getR_can {xs : List Int} (hb : ∀ z ∈ xs, 0 ≤ z ∧ z ≤ 255) {i : Nat} (h : (getR xs (i : Int)).2.2 = 0) : ∃ y : Nat, y < 2 ^ 64 ∧ getR xs (i : Int) = ((y : Int), ((i + (enc y).length : Nat) : Int), 0) ∧ i + (enc y).length ≤ xs.length ∧ (xs.drop i).take (enc y).length = enc y := by
  have hi := getR_in h
  unfold getR at h ⊢
  rw [if_neg (by omega), if_neg (by omega), Int.toNat_natCast] at h
  rw [if_neg (by omega), if_neg (by omega), Int.toNat_natCast]
  obtain ⟨y, h1, _, h3, h4⟩ := gv_can (i : Int) (xs.drop i) 0 0 (fun z hz => hb z (List.mem_of_mem_drop hz)) (by omega) (by decide) h
  have h3 : gv (i : Int) 0 0 (xs.drop i) = _ := h3
  have hl := congrArg List.length h4
  rw [List.length_take, List.length_drop] at hl
  refine ⟨y, by simpa using h1, ?_, by omega, h4⟩
  rw [h3]; simp
/-- Cut off behind its number it is read as it was; ahead of that it is too short. -/
theorem getR_cut {xs : List Int} {i : Nat} (h : (getR xs (i : Int)).2.2 = 0) {k : Nat} (hk : i ≤ k) (hkl : k ≤ xs.length) : getR (xs.take k) (i : Int) = if (getR xs (i : Int)).2.1 ≤ k then getR xs (i : Int) else (0, 0, 4) := by
  have hi := getR_in h
  have e : getR xs (i : Int) = gv (i : Int) 0 0 (xs.drop i) := by unfold getR; rw [if_neg (by omega), if_neg (by omega), Int.toNat_natCast]
  have e' : getR (xs.take k) (i : Int) = gv (i : Int) 0 0 ((xs.drop i).take (k - i)) := by
    unfold getR; rw [if_neg (by omega), if_neg (by simp; omega), Int.toNat_natCast, List.drop_take]
  rw [e] at h
  obtain ⟨m, h1, h2, h3, h4⟩ := gv_to (i : Int) (xs.drop i) 0 0 h
  rw [List.length_drop] at h2
  rw [e', e, h3]
  by_cases hm : k - i < m
  · rw [if_neg (by omega), h4 _ hm]
  · rw [if_pos (by omega)]
    have hx := gv_ext (i : Int) ((xs.drop i).drop (k - i)) ((xs.drop i).take (k - i)) 0 0
    rw [List.take_append_drop] at hx
    -- the part that is left says no error
    have hne : (gv (i : Int) 0 0 ((xs.drop i).take (k - i))).2.2 = 0 := by
      have key : ∀ (cs : List Int) (j : Nat) (acc : Int) (m : Nat), (gv (i : Int) j acc cs).2.2 = 0 → (gv (i : Int) j acc cs).2.1 = i + j + m → ∀ q, m ≤ q → (gv (i : Int) j acc (cs.take q)).2.2 = 0 := by
        intro cs
        induction cs with
        | nil => intro j acc m h; simp [gv] at h
        | cons c cs ih =>
          intro j acc m h hm q hq
          by_cases hb : ((j : Int) = 9 ∧ c > 1) ∨ (0 < (j : Int) ∧ c = 0)
          · simp only [gv] at h; rw [if_pos hb] at h; simp at h
          · simp only [gv] at h hm
            rw [if_neg hb] at h hm
            by_cases h8 : c < 128
            · rw [if_pos h8] at hm
              have hm : (i : Int) + j + 1 = i + j + m := hm
              obtain ⟨q, rfl⟩ : ∃ q', q = q' + 1 := ⟨q - 1, by omega⟩
              rw [List.take_succ_cons]
              simp only [gv]
              rw [if_neg hb, if_pos h8]
            · rw [if_neg h8] at h hm
              obtain ⟨m', g1, _, g3, _⟩ := gv_to (i : Int) cs _ _ h
              rw [g3] at hm
              obtain ⟨q, rfl⟩ : ∃ q', q = q' + 1 := ⟨q - 1, by omega⟩
              rw [List.take_succ_cons]
              simp only [gv]
              rw [if_neg hb, if_neg h8]
              exact ih (j + 1) _ m' h g3 q (by omega)
      exact key _ 0 0 m h h3 _ (by omega)
    exact (hx hne).symm
end Go.Proofs.Ytdnbpgakmbamoaa.Var
