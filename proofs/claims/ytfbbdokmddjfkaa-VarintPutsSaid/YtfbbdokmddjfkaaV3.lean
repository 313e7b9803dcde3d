/- VarintShort, VarintRow: what the laws come to. -/
import Derived.Test.YtfbbdokmddjfkaaV2
namespace Go.Proofs.Ytfbbdokmddjfkaa.Var
open Go Big Go.RowKit Go.IntWalk
set_option linter.unusedVariables false
set_option linter.unusedSimpArgs false
def cnt (y : Nat) : Nat := if y = 0 then 0 else (enc y).length
theorem enc_cnt (x : Nat) : (enc x).length = 1 + cnt (x / 128) := by
  unfold cnt
  by_cases h : x < 128
  · rw [enc_small h, if_pos (by omega)]; rfl
  · rw [enc_big h, if_neg (by omega), List.length_cons]; omega
theorem fdiv7 (y : Nat) : Int.fdiv (y : Int) (2 ^ 7) = ((y / 128 : Nat) : Int) := by rw [Int.fdiv_eq_ediv_of_nonneg _ (by decide)]; rfl
theorem Short_l0 {n : Nat} {w : World} {A : Option Addr} {l c : Nat} : ∀ (k m y j : Nat), y < 2 ^ (7 * k) → k < m → j + k < 2 ^ 60 → butterylaw2_VarintShort.l0 n m A l c (j : Int) (y : Int) w = some ⟨.exit 0, [.slice A l c, .int .i64 ((j + cnt y : Nat) : Int)], w⟩ := by
  intro k
  induction k with
  | zero =>
    intro m y j hy hm hj
    obtain ⟨m, rfl⟩ : ∃ m', m = m' + 1 := ⟨m - 1, by omega⟩
    have : y = 0 := by have : y < 1 := by simpa using hy
                       omega
    subst this
    rw [butterylaw2_VarintShort.l0_succ, cF (by simp)]; rfl
  | succ k ih =>
    intro m y j hy hm hj
    obtain ⟨m, rfl⟩ : ∃ m', m = m' + 1 := ⟨m - 1, by omega⟩
    by_cases h0 : y = 0
    · subst h0
      rw [butterylaw2_VarintShort.l0_succ, cF (by simp)]; rfl
    · have hi : IntKind.i64.wrap ((j : Int) + 1) = ((j + 1 : Nat) : Int) := by rw [i64_in _ (by omega)]; omega
      have hy' : y / 128 < 2 ^ (7 * k) := by
        have e : 2 ^ (7 * (k + 1)) = 2 ^ (7 * k) * 128 := by rw [show 7 * (k + 1) = 7 * k + 7 by omega, Nat.pow_add]
        rw [e] at hy; omega
      rw [butterylaw2_VarintShort.l0_succ, cT (by simp; omega), hi, fdiv7, ih m (y / 128) (j + 1) hy' (by omega) (by omega)]
      have : cnt y = 1 + cnt (y / 128) := by rw [← enc_cnt]; unfold cnt; rw [if_neg h0]
      rw [this, show j + 1 + cnt (y / 128) = j + (1 + cnt (y / 128)) by omega]
theorem own_cap {e : TypeId} {k : IntKind} {w : World} {base : Nat} {A : Option Addr} {l c : Nat} {xs : List Int} (h : Own k e w base (.slice A l c) xs) : l ≤ c := by
  have := h.sl.1
  rcases h.2 with ⟨h', hn'⟩ | ⟨g, cap, cur, h', _, _, hle, _⟩
  · injection h' with _ h' _; omega
  · injection h' with _ _ h'; subst h'; omega
theorem short_ok {n : Nat} (hn : 2 ^ 59 < n) (x : Nat) (hx : x < 2 ^ 64) (w : World) : ∃ w', butterylaw2_VarintShort n [.int .u64 (x : Int)] w = some ([.bool true], w') ∧ Kp w w' := by
  obtain ⟨w2, h1, k2⟩ := alive_ok hn w
  obtain ⟨A, c, w3, e3, o3, k3⟩ := Put_spec (n := n) (by omega) (Sl.nil .u8 w2 none) (fun _ => ⟨rfl, rfl⟩) (by omega) x hx
  rw [List.nil_append] at e3 o3
  have hp := enc_pos x
  have hl := enc_len 9 x (by omega)
  have hcap := own_cap o3
  rw [butterylaw2_VarintShort_eq, h1, cl1B, e3, cl1L, cF (x := !true) rfl, cF (by simp; omega), cF (by simp; omega)]
  have hq := Short_l0 (n := n) (w := w3) (A := A) (l := (enc x).length) (c := c) 9 n (x / 128) 1 (by omega) (by omega) (by omega)
  rw [← enc_cnt] at hq
  have hq : butterylaw2_VarintShort.l0 n n A (enc x).length c 1 ((x / 128 : Nat) : Int) w3 = _ := hq
  rw [fdiv7, hq, jb_exit, tC_mk, tL_mk, tC_mk, tI_mk, tN_mk]
  have hw : IntKind.i64.wrap (((enc x).length : Int) - 1) = (((enc x).length - 1 : Nat) : Int) := by rw [i64_in _ (by omega)]; omega
  obtain ⟨A', e, hs', _, hc'⟩ := o3.sl.2.cut (lo := 0) (hi := (((enc x).length - 1 : Nat) : Int)) (c := c) (by omega) (by omega) (by omega) hcap
  rw [hw, e]
  have hd : ((enc x).take (((enc x).length - 1 : Nat) : Int).toNat).drop (0 : Int).toNat = (enc x).dropLast := by rw [Int.toNat_natCast]; simp [List.dropLast_eq_take]
  rw [hd] at hs'
  have hg : getR (enc x).dropLast 0 = (0, 0, 4) := by
    unfold getR
    rw [if_neg (by omega), if_neg (by omega)]
    exact gv_short 0 9 x 0 0 (by omega) (by omega) (by decide) (by simpa using hx)
  refine ⟨w3, ?_, k2.tr k3⟩
  rw [Get_spec hn hs' (fun y hy => enc_bytes 9 x (by omega) y (List.mem_of_mem_take (List.dropLast_eq_take ▸ hy))) (by omega) hc', clG, hg, cE rfl, num_spec, cl1I, fin_ret]; rfl
end Go.Proofs.Ytfbbdokmddjfkaa.Var
