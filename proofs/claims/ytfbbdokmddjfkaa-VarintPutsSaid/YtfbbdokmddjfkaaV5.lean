/- Numbers below 0: what PutInt and GetInt come to; VarintSigns. -/
import Derived.Test.YtfbbdokmddjfkaaV4
namespace Go.Proofs.Ytfbbdokmddjfkaa.Var
open Go Big Go.RowKit Go.IntWalk
set_option linter.unusedVariables false
set_option linter.unusedSimpArgs false
def zz (x : Int) : Nat := if x < 0 then (2 * (-(x + 1)) + 1).toNat else (2 * x).toNat
theorem or_one (t : Nat) (h : t < 2 ^ 63) : bits .or .u64 ((2 * t : Nat) : Int) 1 = ((2 * t + 1 : Nat) : Int) := by
  have e3 : ∀ a b : Int, bits .or .u64 a b = bits .or .u64 b a := fun a b => by unfold bits; simp only [BitVec.or_comm]
  have := or64 (x := 1) (y := t) (k := 1) (by decide) (by omega)
  rw [e3, show 2 * t = t * 2 ^ 1 by omega, show t * 2 ^ 1 + 1 = 1 + t * 2 ^ 1 by omega]
  exact this
theorem and_one (z : Nat) (h : z < 2 ^ 64) : bits .and .u64 (z : Int) 1 = ((z % 2 : Nat) : Int) := by
  have hb : (BitVec.ofNat 64 z &&& BitVec.ofNat 64 1).toNat = z % 2 := by
    rw [BitVec.toNat_and, BitVec.toNat_ofNat, BitVec.toNat_ofNat, Nat.mod_eq_of_lt h]
    exact Nat.and_one_is_mod _
  unfold bits
  simp only [IntKind.bits]
  show IntKind.u64.wrap (((BitVec.ofInt 64 (z : Int) &&& BitVec.ofInt 64 ((1 : Nat) : Int)).toNat : Nat) : Int) = _
  rw [BitVec.ofInt_natCast, BitVec.ofInt_natCast, hb]
  exact u64_in _ (by omega)
theorem zz_lt {x : Int} (h : -2 ^ 63 ≤ x ∧ x < 2 ^ 63) : zz x < 2 ^ 64 := by unfold zz; split <;> omega
theorem half_zz {x : Int} (h : -2 ^ 63 ≤ x ∧ x < 2 ^ 63) : half (zz x : Int) = x := by
  have hl := zz_lt h
  have hf : Int.fdiv (zz x : Int) (2 ^ 1) = ((zz x / 2 : Nat) : Int) := by rw [Int.fdiv_eq_ediv_of_nonneg _ (by decide)]; rfl
  unfold half
  rw [and_one _ hl, hf]
  by_cases hx : x < 0
  · have e1 : zz x % 2 = 1 := by unfold zz; rw [if_pos hx]; omega
    have e2 : ((zz x / 2 : Nat) : Int) = -(x + 1) := by unfold zz; rw [if_pos hx]; omega
    rw [e1, cT (by rfl), e2, i64_in (-(x + 1)) (by omega), i64_in (0 - -(x + 1)) (by omega), i64_in _ (by omega)]; omega
  · have e1 : zz x % 2 = 0 := by unfold zz; rw [if_neg hx]; omega
    have e2 : ((zz x / 2 : Nat) : Int) = x := by unfold zz; rw [if_neg hx]; omega
    rw [e1, cF (by rfl), e2, i64_in _ (by omega)]
theorem zz_neg {x : Int} (h : -2 ^ 63 ≤ x ∧ x < 0) : bits .or .u64 (IntKind.u64.wrap ((IntKind.u64.wrap (IntKind.i64.wrap (0 - (IntKind.i64.wrap (x + 1))))) * 2 ^ 1)) 1 = (zz x : Int) := by
  obtain ⟨t, ht⟩ : ∃ t : Nat, (t : Int) = -(x + 1) := ⟨(-(x + 1)).toNat, by omega⟩
  have e1 : IntKind.i64.wrap (x + 1) = x + 1 := i64_in _ (by omega)
  have e2 : IntKind.i64.wrap (0 - (x + 1)) = (t : Int) := by rw [i64_in _ (by omega)]; omega
  have e3 : IntKind.u64.wrap (t : Int) = (t : Int) := u64_in _ (by omega)
  have e4 : IntKind.u64.wrap ((t : Int) * 2 ^ 1) = ((2 * t : Nat) : Int) := by rw [u64_in _ (by omega)]; omega
  rw [e1, e2, e3, e4, or_one t (by omega)]
  unfold zz
  rw [if_pos h.2]; omega
theorem zz_pos {x : Int} (h : 0 ≤ x ∧ x < 2 ^ 63) : IntKind.u64.wrap ((IntKind.u64.wrap x) * 2 ^ 1) = (zz x : Int) := by
  rw [u64_in x (by omega), u64_in _ (by omega)]
  unfold zz
  rw [if_neg (by omega)]; omega
theorem PutInt_spec {n : Nat} (hn : 100 < n) {w : World} {B : Option Addr} {l d : Nat} {bs : List Int} (hb : Sl .u8 w B l bs) (hB : B = none → l = 0 ∧ d = 0) (hl : l ≤ 2 ^ 38) (x : Int) (hx : -2 ^ 63 ≤ x ∧ x < 2 ^ 63) :
    ∃ A c w', varint_PutInt n [.slice B l d, .int .i64 x] w = some ([.slice A (bs ++ enc (zz x)).length c], w') ∧ Own .u8 5 w' w.heap.size (.slice A (bs ++ enc (zz x)).length c) (bs ++ enc (zz x)) ∧ Kp w w' := by
  obtain ⟨A, c, w', h1, h2, h3⟩ := Put_spec (n := n) hn hb hB hl (zz x) (zz_lt hx)
  refine ⟨A, c, w', ?_, h2, h3⟩
  rw [varint_PutInt_eq]
  by_cases h : x < 0
  · rw [cT (by simpa using h), zz_neg ⟨hx.1, h⟩, h1, cl1L, fin_ret]
  · rw [cF (by simpa using h), zz_pos ⟨by omega, hx.2⟩, h1, cl1L, fin_ret]
theorem getI_enc (bs rest : List Int) (x : Int) (hx : -2 ^ 63 ≤ x ∧ x < 2 ^ 63) : getI (bs ++ enc (zz x) ++ rest) (bs.length : Int) = (x, ((bs.length + (enc (zz x)).length : Nat) : Int), 0) := by
  unfold getI
  rw [getR_enc _ _ _ (zz_lt hx)]
  simp only
  rw [half_zz hx]
theorem enc_len_even (x : Nat) (h : x % 2 = 0) : (enc (x + 1)).length = (enc x).length := by
  rw [enc_cnt, enc_cnt x, show (x + 1) / 128 = x / 128 by omega]
theorem signs_ok {n : Nat} (hn : 2 ^ 59 < n) (x : Int) (hx : -2 ^ 63 ≤ x ∧ x < 2 ^ 63) (w : World) : ∃ w', butterylaw2_VarintSigns n [.int .i64 x] w = some ([.bool true], w') ∧ Kp w w' := by
  obtain ⟨w2, h1, k2⟩ := alive_ok hn w
  have hy : IntKind.i64.wrap (0 - (IntKind.i64.wrap (x + 1))) = -(x + 1) := by rw [IntKind.wrap_i64, IntKind.wrap_i64]; omega
  have hy' : -2 ^ 63 ≤ -(x + 1) ∧ -(x + 1) < 2 ^ 63 := by omega
  obtain ⟨A, c, w3, e3, o3, k3⟩ := PutInt_spec (n := n) (by omega) (Sl.nil .u8 w2 none) (fun _ => ⟨rfl, rfl⟩) (by omega) x hx
  obtain ⟨B, d, w4, e4, o4, k4⟩ := PutInt_spec (n := n) (by omega) (Sl.nil .u8 w3 none) (fun _ => ⟨rfl, rfl⟩) (by omega) (-(x + 1)) hy'
  rw [List.nil_append] at e3 o3 e4 o4
  have hl3 := enc_len 9 (zz x) (by have := zz_lt hx; omega)
  have hl4 := enc_len 9 (zz (-(x + 1))) (by have := zz_lt hy'; omega)
  have hlen : (enc (zz x)).length = (enc (zz (-(x + 1)))).length := by
    by_cases h : x < 0
    · have : zz x = zz (-(x + 1)) + 1 := by unfold zz; rw [if_pos h, if_neg (by omega)]; omega
      rw [this, enc_len_even]; unfold zz; rw [if_neg (by omega)]; omega
    · have : zz (-(x + 1)) = zz x + 1 := by unfold zz; rw [if_neg h, if_pos (by omega)]; omega
      rw [this, enc_len_even]; unfold zz; rw [if_neg h]; omega
  have hg3 : getI (enc (zz x)) 0 = (x, ((enc (zz x)).length : Int), 0) := by have := getI_enc [] [] x hx; simpa using this
  have hg4 : getI (enc (zz (-(x + 1)))) 0 = (-(x + 1), ((enc (zz (-(x + 1)))).length : Int), 0) := by have := getI_enc [] [] _ hy'; simpa using this
  have e5 := GetInt_spec (n := n) hn (o3.kp k4).sl.2 (enc_bytes 9 _ (by have := zz_lt hx; omega)) (by omega) (own_cap o3) 0
  have e6 := GetInt_spec (n := n) hn o4.sl.2 (enc_bytes 9 _ (by have := zz_lt hy'; omega)) (by omega) (own_cap o4) 0
  refine ⟨w4, ?_, (k2.tr k3).tr k4⟩
  rw [butterylaw2_VarintSigns_eq, h1, cl1B, cF (x := !true) rfl, e3, cl1L, hy, e4, cl1L, e5, clI, e6, clI, hg3, hg4, cE (by rw [hlen]), num_spec, cl1I, cE rfl, cE rfl, cE rfl, num_spec, cl1I, cE rfl, cE rfl, cE rfl]
  by_cases g1 : x < -64
  · rw [cT (by simpa using g1), fin_ret]
  rw [cF (by simpa using g1)]
  by_cases g2 : x > 63
  · rw [cT (by simpa using g2), fin_ret]
  rw [cF (by simpa using g2), fin_ret]
  have : zz x < 128 := by unfold zz; split <;> omega
  rw [enc_small this]; rfl
end Go.Proofs.Ytfbbdokmddjfkaa.Var
