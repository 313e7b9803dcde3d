/- Package crc: the example of the document holds; masks. -/
import Derived.Test.YtfbbdokmddjfkaaC0
namespace Go.Proofs.Ytfbbdokmddjfkaa.Crc
open Go Big Go.RowKit Go.IntWalk
set_option linter.unusedVariables false
set_option linter.unusedSimpArgs false
theorem conv1 (a : Addr) (l c : Nat) (w : World) : (Go.convert 24 24 (.slice (some a) l c)).run Try.prog w = (do markStringish a; pure (Value.slice (some a) l c) : Sem Value).run Try.prog w := by kernel_rfl
theorem mark_run (P : Program) (a : Addr) (w : World) : ∃ w', (markStringish a).run P w = .ok () w' ∧ (∀ p, w'.cell? p = w.cell? p) ∧ ∀ w0 : World, Kp w0 w → w0.heap.size ≤ a.block → Kp w0 w' := by
  unfold markStringish
  cases hs : w.shape? a.block with
  | none => exact ⟨w, by simp [hs], fun _ => rfl, fun _ h _ => h⟩
  | some p =>
    refine ⟨w.freeze { block := a.block, off := p.2 } 1, by simp [hs], fun q => ?_, fun w0 h hb => ?_⟩
    · unfold World.freeze
      rw [if_neg (by decide)]
      simp only [World.cell?, Array.getElem?_modify]
      by_cases hq : a.block = q.block
      · rw [if_pos hq]
        cases w.heap[q.block]? with
        | none => rfl
        | some o => cases o <;> rfl
      · rw [if_neg hq]
    · refine h.trans ⟨rfl, rfl, rfl, by simp [World.freeze], fun k hk => ?_⟩
      unfold World.freeze
      rw [if_neg (by decide)]
      simp only [Array.getElem?_modify]
      rw [if_neg (by omega)]
theorem convB (a : Addr) (l c : Nat) (w : World) : ∃ w', (∀ {α : Type} (f : Value → World → Option α), rn Try.prog (Go.convert 24 24 (.slice (some a) l c)) w f = f (.slice (some a) l c) w') ∧ (∀ p, w'.cell? p = w.cell? p) ∧ ∀ w0 : World, Kp w0 w → w0.heap.size ≤ a.block → Kp w0 w' := by
  obtain ⟨w', h1, h2, h3⟩ := mark_run Try.prog a w
  exact ⟨w', fun f => by simp only [rn, conv1, Sem.run_bind, h1]; rfl, h2, h3⟩
theorem Sl_same {k : IntKind} {w w' : World} {A : Option Addr} {l : Nat} {xs : List Int} (h : Sl k w A l xs) (hc : ∀ p, w'.cell? p = w.cell? p) : Sl k w' A l xs :=
  ⟨h.1, h.2.imp id fun ⟨a, ha, hi⟩ => ⟨a, ha, fun i hl => by rw [hc]; exact hi i hl⟩⟩
def live : List Int := [49, 50, 51, 52, 53, 54, 55, 56, 57]
theorem sum_live : sum live = 3808858755 := by decide +kernel
theorem alive_ok {n : Nat} (hn : 2 ^ 50 < n) (w : World) : ∃ w', butterylaw3_alive n [] w = some ([.bool true], w') ∧ Kp w w' := by
  obtain ⟨A, c, w1, h1, h2, h3⟩ := Table_spec (n := n) (by omega) w
  have h4 : Own .u8 5 (w1.alloc (.cells (live.map (Value.int .u8)).toArray 5)) w1.heap.size (.slice (some ⟨w1.heap.size, 0, none⟩) 9 9) live := Own.lit w1 live (by decide)
  have h5 : Kp w1 (w1.alloc (.cells (live.map (Value.int .u8)).toArray 5)) := (Kp.rfl' w1).al _
  obtain ⟨w3, h7, h8, h9⟩ := convB ⟨w1.heap.size, 0, none⟩ 9 9 (w1.alloc (.cells (live.map (Value.int .u8)).toArray 5))
  have h10 := h9 w1 h5 (Nat.le_refl _)
  have h6 := Sum_spec (n := n) (by omega) hn A c tab (h2.kp h10).sl.2 _ 9 9 live (Sl_same h4.sl.2 h8) (by omega)
  refine ⟨_, ?_, h3.tr h10⟩
  rw [butterylaw3_alive_eq, h1]
  simp only [cl_some, tC_mk, tL_mk, tN_mk]
  have e : (w1.alloc (.cells #[(.int .u8 49), (.int .u8 50), (.int .u8 51), (.int .u8 52), (.int .u8 53), (.int .u8 54), (.int .u8 55), (.int .u8 56), (.int .u8 57)] 5)) = (w1.alloc (.cells (live.map (Value.int .u8)).toArray 5)) := rfl
  rw [e, h7]
  simp only [tL_mk]
  rw [h6]
  simp only [cl_some, tC_mk, tI_mk, tN_mk]
  have e2 : bits .xor .u32 4294967295 (sumG tab live 4294967295) = 3808858755 := sum_live
  rw [e2]
  rfl

def mask (x : Int) : Int := IntKind.u32.wrap ((bits .or .u32 (Int.fdiv x (2 ^ 15)) (IntKind.u32.wrap (x * 2 ^ 17))) + 2726488792)
def unmask (x : Int) : Int := bits .or .u32 (IntKind.u32.wrap ((IntKind.u32.wrap (x - 2726488792)) * 2 ^ 15)) (Int.fdiv (IntKind.u32.wrap (x - 2726488792)) (2 ^ 17))
theorem or_bits {x y : Nat} {k : Nat} (hx : x < 2 ^ k) (hy : y < 2 ^ (32 - k)) (hk : k ≤ 32) : bits .or .u32 (x : Int) ((y * 2 ^ k : Nat) : Int) = ((y * 2 ^ k + x : Nat) : Int) := by
  have e : x ||| y * 2 ^ k = y * 2 ^ k + x := by
    rw [Nat.or_comm, Nat.mul_comm, ← Nat.two_pow_add_eq_or_of_lt hx]
  have hlt : y * 2 ^ k + x < 2 ^ 32 := by
    have h1 : (y + 1) * 2 ^ k ≤ 2 ^ (32 - k) * 2 ^ k := Nat.mul_le_mul_right _ hy
    rw [← Nat.pow_add, show 32 - k + k = 32 by omega] at h1
    rw [Nat.add_mul, Nat.one_mul] at h1
    omega
  have hx32 : x < 2 ^ 32 := by omega
  have hy32 : y * 2 ^ k < 2 ^ 32 := by omega
  have hb : (BitVec.ofNat 32 x ||| BitVec.ofNat 32 (y * 2 ^ k)).toNat = y * 2 ^ k + x := by
    rw [BitVec.toNat_or, BitVec.toNat_ofNat, BitVec.toNat_ofNat, Nat.mod_eq_of_lt hx32, Nat.mod_eq_of_lt hy32, e]
  unfold bits
  simp only [IntKind.bits, BitVec.ofInt_natCast]
  show IntKind.u32.wrap (((BitVec.ofNat 32 x ||| BitVec.ofNat 32 (y * 2 ^ k)).toNat : Nat) : Int) = _
  rw [hb]
  generalize y * 2 ^ k + x = z at hlt ⊢
  exact u32_in (z : Int) (by omega)
theorem mask_nat (x m : Nat) (h : x < 2 ^ 32) (hm : m = (x % 2 ^ 15) * 2 ^ 17 + x / 2 ^ 15) : mask x = ((m + 2726488792) % 2 ^ 32 : Nat) := by
  have e1 : Int.fdiv (x : Int) (2 ^ 15) = ((x / 2 ^ 15 : Nat) : Int) := by rw [Int.fdiv_eq_ediv_of_nonneg _ (by decide)]; rfl
  have e2 : IntKind.u32.wrap ((x : Int) * 2 ^ 17) = (((x % 2 ^ 15) * 2 ^ 17 : Nat) : Int) := by rw [IntKind.wrap_u32]; omega
  unfold mask
  rw [e1, e2, or_bits (k := 17) (by omega) (by omega) (by omega), ← hm, IntKind.wrap_u32]
  omega
theorem unmask_nat (x y : Nat) (h : x < 2 ^ 32) (hy : y = (x + 1568478504) % 2 ^ 32) : unmask x = ((y % 2 ^ 17) * 2 ^ 15 + y / 2 ^ 17 : Nat) := by
  have e0 : IntKind.u32.wrap ((x : Int) - 2726488792) = (y : Int) := by rw [IntKind.wrap_u32]; omega
  unfold unmask
  rw [e0]
  have hy : y < 2 ^ 32 := by omega
  have e1 : Int.fdiv (y : Int) (2 ^ 17) = ((y / 2 ^ 17 : Nat) : Int) := by rw [Int.fdiv_eq_ediv_of_nonneg _ (by decide)]; rfl
  have e2 : IntKind.u32.wrap ((y : Int) * 2 ^ 15) = (((y % 2 ^ 17) * 2 ^ 15 : Nat) : Int) := by rw [IntKind.wrap_u32]; omega
  have e3 : ∀ a b : Int, bits .or .u32 a b = bits .or .u32 b a := fun a b => by unfold bits; simp only [BitVec.or_comm]
  rw [e1, e2, e3, or_bits (k := 15) (by omega) (by omega) (by omega)]
theorem unmask_mask (x : Nat) (h : x < 2 ^ 32) : unmask (mask x) = x := by
  obtain ⟨m, hm⟩ : ∃ m, m = (x % 2 ^ 15) * 2 ^ 17 + x / 2 ^ 15 := ⟨_, rfl⟩
  rw [mask_nat x m h hm, unmask_nat _ m (by omega) (by omega)]
  have e : m % 2 ^ 17 * 2 ^ 15 + m / 2 ^ 17 = x := by omega
  rw [e]
theorem mask_unmask (x : Nat) (h : x < 2 ^ 32) : mask (unmask x) = x := by
  obtain ⟨m, hm⟩ : ∃ m, m = (x + 1568478504) % 2 ^ 32 := ⟨_, rfl⟩
  have hy : m < 2 ^ 32 := by omega
  rw [unmask_nat x m h hm, mask_nat _ m (by omega) (by omega)]
  have e : (m + 2726488792) % 2 ^ 32 = x := by omega
  rw [e]
theorem masks_ok {n : Nat} (hn : 2 ^ 50 < n) (x : Nat) (hx : x < 2 ^ 32) (w : World) : ∃ w', butterylaw3_CrcMasks n [.int .u32 x] w = some ([.bool true], w') ∧ Kp w w' := by
  obtain ⟨w1, h1, h2⟩ := alive_ok hn w
  refine ⟨w1, ?_, h2⟩
  have m1 : ∀ (y : Int) w, crc_Mask n [.int .u32 y] w = some ([.int .u32 (mask y)], w) := fun y w => by rw [crc_Mask_eq, fin_ret, mask]
  have m2 : ∀ (y : Int) w, butteryref1_Mask n [.int .u32 y] w = some ([.int .u32 (mask y)], w) := fun y w => by rw [butteryref1_Mask_eq, fin_ret, mask]
  have m3 : ∀ (y : Int) w, crc_Unmask n [.int .u32 y] w = some ([.int .u32 (unmask y)], w) := fun y w => by rw [crc_Unmask_eq, fin_ret, unmask]
  have m4 : ∀ (y : Int) w, butteryref1_Unmask n [.int .u32 y] w = some ([.int .u32 (unmask y)], w) := fun y w => by rw [butteryref1_Unmask_eq, fin_ret, unmask]
  rw [butterylaw3_CrcMasks_eq, h1]
  have u1 := unmask_mask x hx
  have u2 := mask_unmask x hx
  generalize (x : Int) = z at u1 u2 ⊢
  clear hx
  rw [cl1B, cT rfl, m1, cl1I, m2, cl1I, cE rfl, m3, cl1I, m4, cl1I, cE rfl, m1, cl1I, m3, cl1I, cE u1, m3, cl1I, m1, cl1I, u2, beq_self_eq_true, fin_ret]
end Go.Proofs.Ytfbbdokmddjfkaa.Crc
