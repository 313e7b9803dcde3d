/- CrcTurns, CrcLinear: what the laws of crc come to. -/
import Derived.Test.YtfbbdokmddjfkaaC2
import Derived.OpenShut
namespace Go.Proofs.Ytfbbdokmddjfkaa.Crc
open Go Big Go.RowKit Go.IntWalk
set_option linter.unusedVariables false
set_option linter.unusedSimpArgs false
theorem and7 (x : Int) : 0 ≤ bits .and .i64 x 7 ∧ bits .and .i64 x 7 ≤ 7 := by
  unfold bits
  simp only [IntKind.bits]
  have h : (BitVec.ofInt 64 x &&& BitVec.ofInt 64 7).toNat ≤ 7 := by rw [BitVec.toNat_and]; exact Nat.and_le_right
  generalize hz : (BitVec.ofInt 64 x &&& BitVec.ofInt 64 7).toNat = z at h
  show 0 ≤ IntKind.i64.wrap (((BitVec.ofInt 64 x &&& BitVec.ofInt 64 7).toNat : Nat) : Int) ∧ IntKind.i64.wrap (((BitVec.ofInt 64 x &&& BitVec.ofInt 64 7).toNat : Nat) : Int) ≤ 7
  rw [hz, i64_in _ (by omega)]; omega
theorem wf_u8 {xs : List Int} (h : ∀ x ∈ xs, (Lit.int .u8 x).wf = true) : ∀ x ∈ xs, 0 ≤ x ∧ x ≤ 255 := fun x hx => by have := bounds_u8 (h x hx); omega
def turned (x : Int) (bit : Int) : Int := bits .xor .u8 x (IntKind.u8.wrap (1 * 2 ^ (min (Int.toNat (IntKind.u64.wrap (bits .and .i64 bit 7))) 8)))
theorem turned_J (b : BitVec 8) (bit : Int) : ∃ c : BitVec 8, turned (J b) bit = J c ∧ c ≠ b := by
  have h7 := and7 bit
  unfold turned
  rw [u64_in _ (by omega)]
  generalize hz : (bits .and .i64 bit 7).toNat = z
  have hz7 : z ≤ 7 := by omega
  have hm : min z 8 = z := by omega
  rw [hm]
  have hw : ∃ m : BitVec 8, IntKind.u8.wrap (1 * 2 ^ z) = J m ∧ m ≠ 0#8 := by
    refine ⟨BitVec.ofNat 8 (2 ^ z), ?_, ?_⟩
    · rcases (by omega : z = 0 ∨ z = 1 ∨ z = 2 ∨ z = 3 ∨ z = 4 ∨ z = 5 ∨ z = 6 ∨ z = 7) with rfl | rfl | rfl | rfl | rfl | rfl | rfl | rfl <;> decide
    · rcases (by omega : z = 0 ∨ z = 1 ∨ z = 2 ∨ z = 3 ∨ z = 4 ∨ z = 5 ∨ z = 6 ∨ z = 7) with rfl | rfl | rfl | rfl | rfl | rfl | rfl | rfl <;> decide
  obtain ⟨m, h1, h2⟩ := hw
  refine ⟨b ^^^ m, by rw [h1, xor8], fun h => h2 ?_⟩
  have h3 := congrArg (b ^^^ ·) h
  simpa only [← BitVec.xor_assoc, BitVec.xor_self, BitVec.zero_xor] using h3
theorem I_inj {a b : BitVec 32} (h : I a = I b) : a = b := BitVec.eq_of_toNat_eq (by have : (a.toNat : Int) = b.toNat := h; omega)
theorem sum_turn {xs : List Int} (h : ∀ x ∈ xs, 0 ≤ x ∧ x ≤ 255) (i : Nat) (hi : i < xs.length) (bit : Int) : sum xs ≠ sum (xs.set i (turned (xs.getD i 0) bit)) := by
  obtain ⟨bs, rfl⟩ := bytes_of h
  have hi' : i < bs.length := by simpa using hi
  obtain ⟨c, hc, hne⟩ := turned_J bs[i] bit
  have e1 : (bs.map J).getD i 0 = J bs[i] := by simp [List.getD_eq_getElem?_getD, hi']
  rw [e1, hc, ← List.map_set, sum_I, sum_I]
  intro h
  exact runB_turn bs i hi' c hne top (xor_left (I_inj h))
theorem nb {x y : Int} (h : x ≠ y) : (x != y) = true := by simpa using h
theorem turns_ok {n : Nat} (hn : 2 ^ 50 < n) (A : Option Addr) (l c : Nat) (xs : List Int) (at' bit : Int) (w : World) (hs : Sl .u8 w A l xs) (hA : A = none → l = 0 ∧ c = 0) (hb : ∀ x ∈ xs, 0 ≤ x ∧ x ≤ 255) (h63 : at' < 2 ^ 63) :
    ∃ w', butterylaw3_CrcTurns n [.slice A l c, .int .i64 at', .int .i64 bit] w = some ([.bool true], w') ∧ Kp w w' := by
  obtain ⟨w2, h1, k2⟩ := alive_ok hn w
  rw [butterylaw3_CrcTurns_eq, h1, cl1B, cF (x := !true) rfl]
  by_cases g1 : (l : Int) < 1
  · exact ⟨w2, by rw [cT (by simpa using g1), fin_ret], k2⟩
  rw [cF (by simpa using g1)]
  by_cases g2 : (l : Int) > 300
  · exact ⟨w2, by rw [cT (by simpa using g2), fin_ret], k2⟩
  rw [cF (by simpa using g2)]
  by_cases g3 : at' < 0
  · exact ⟨w2, by rw [cT (by simpa using g3), fin_ret], k2⟩
  rw [cF (by simpa using g3)]
  obtain ⟨i8, hT⟩ := slT24
  obtain ⟨v, w3, e3, o3, gr3, hb3⟩ := append_run (P := Try.prog) hT w2 w2.heap.size 24 (Own.nil w2 _) (hs.kp k2) hA (by simp; omega) (Nat.le_refl _)
  rw [e3]
  simp only [List.nil_append] at o3
  obtain ⟨A', c', rfl⟩ := o3.slice
  have hl : xs.length = l := hs.1
  rw [hl] at o3 ⊢
  have k3 : Kp w w3 := k2.gr gr3 (by simp [Value.ownBlock])
  have hm0 : 0 ≤ Int.tmod at' l := Int.tmod_nonneg _ (by omega)
  have hm1 : Int.tmod at' l < l := Int.tmod_lt_of_pos _ (by omega)
  rw [tL_mk, if_neg (by omega), if_neg (by omega), o3.sl.2.ixd hm0 hm1]
  have hu : ¬ (IntKind.u64.wrap (bits .and .i64 bit 7)) < 0 := by have := and7 bit; rw [u64_in _ (by omega)]; omega
  rw [if_neg hu]
  obtain ⟨a, w4, rfl, hab, hw4, o4, gr4, e4⟩ := (Own.dr o3).store hm0 hm1 (turned (xs.getD (Int.tmod at' l).toNat 0) bit)
  have e4' := fun (f : World → Option Res) => e4 f
  unfold turned at e4'
  rw [e4']
  have k4 : Kp w w4 := k3.dr.gr gr4 (by
    intro b hb'; injection hb' with hb'; subst hb'
    exact Nat.le_trans k2.size hab)
  obtain ⟨B, d, w5, e5, o5, k5⟩ := Table_spec (n := n) (by omega) w4
  have k6 := k4.tr k5
  rw [e5, cl1L, Sum_spec (by omega) hn B d tab o5.sl.2 A l c xs (hs.kp k6) (by omega), cl1I]
  have o6 := o4.kp k5
  have hl2 : (xs.set (Int.tmod at' l).toNat (turned (xs.getD (Int.tmod at' l).toNat 0) bit)).length = l := by simp [hl]
  rw [Sum_spec (by omega) hn B d tab o5.sl.2 (some a) l c' _ o6.sl.2 (by omega), cl1I]
  refine ⟨w5, ?_, k6⟩
  have hne := sum_turn hb (Int.tmod at' l).toNat (by omega) bit
  unfold sum at hne
  rw [nb hne, fin_ret]
end Go.Proofs.Ytfbbdokmddjfkaa.Crc
