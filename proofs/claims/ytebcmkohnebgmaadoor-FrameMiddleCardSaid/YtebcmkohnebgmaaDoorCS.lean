/- The sum as a walk over bit vectors; what the reference's sum comes to; masks. -/
import Derived.Test.YtebcmkohnebgmaaDoorCR
namespace Go.Proofs.YtebcmkohnebgmaaDoor.Crc
open Go Big Go.RowKit Go.IntWalk
set_option linter.unusedVariables false
set_option linter.unusedSimpArgs false
def poly : BitVec 32 := 2197175160#32
def oneB (x : BitVec 32) : BitVec 32 := cond (x.getLsbD 0) ((x >>> 1) ^^^ poly) (x >>> 1)
def manyB : Nat → BitVec 32 → BitVec 32
  | 0, x => x
  | n + 1, x => manyB n (oneB x)
abbrev I (x : BitVec 32) : Int := (x.toNat : Int)
abbrev J (x : BitVec 8) : Int := (x.toNat : Int)
theorem xor32 (a b : BitVec 32) : bits .xor .u32 (I a) (I b) = I (a ^^^ b) := by
  unfold bits
  simp only [IntKind.bits, BitVec.ofInt_natCast]
  have e : ∀ x : BitVec 32, BitVec.ofNat 32 x.toNat = x := fun x => by simp
  show IntKind.u32.wrap (((BitVec.ofNat 32 a.toNat ^^^ BitVec.ofNat 32 b.toNat).toNat : Nat) : Int) = _
  rw [e a, e b]
  have := (a ^^^ b).isLt
  exact u32_in _ (by omega)
theorem and32 (a b : BitVec 32) : bits .and .u32 (I a) (I b) = I (a &&& b) := by
  unfold bits
  simp only [IntKind.bits, BitVec.ofInt_natCast]
  have e : ∀ x : BitVec 32, BitVec.ofNat 32 x.toNat = x := fun x => by simp
  show IntKind.u32.wrap (((BitVec.ofNat 32 a.toNat &&& BitVec.ofNat 32 b.toNat).toNat : Nat) : Int) = _
  rw [e a, e b]
  have := (a &&& b).isLt
  exact u32_in _ (by omega)
theorem xor8 (a b : BitVec 8) : bits .xor .u8 (J a) (J b) = J (a ^^^ b) := by
  unfold bits
  simp only [IntKind.bits, BitVec.ofInt_natCast]
  have e : ∀ x : BitVec 8, BitVec.ofNat 8 x.toNat = x := fun x => by simp
  show IntKind.u8.wrap (((BitVec.ofNat 8 a.toNat ^^^ BitVec.ofNat 8 b.toNat).toNat : Nat) : Int) = _
  rw [e a, e b]
  have := (a ^^^ b).isLt
  exact u8_in _ (by omega)
theorem shr32 (a : BitVec 32) (k : Nat) : Int.fdiv (I a) (2 ^ k) = I (a >>> k) := by
  rw [Int.fdiv_eq_ediv_of_nonneg _ (Int.le_of_lt (Int.pow_pos (by decide)))]
  show ((a.toNat : Int)) / 2 ^ k = ((a >>> k).toNat : Int)
  rw [BitVec.toNat_ushiftRight, Nat.shiftRight_eq_div_pow, Int.natCast_ediv, Int.natCast_pow]; rfl
theorem wrap8 (a : BitVec 32) : IntKind.u8.wrap (I a) = J (a.setWidth 8) := by
  rw [IntKind.wrap_u8]
  show (a.toNat : Int) % 256 = ((a.setWidth 8).toNat : Int)
  rw [BitVec.toNat_setWidth]; omega
theorem low_bit (x : BitVec 32) : ((bits .and .u32 (I x) 1) == 1) = x.getLsbD 0 := by
  have h1 : (1 : Int) = I 1#32 := rfl
  rw [h1, and32]
  have e : (x &&& 1#32).toNat = x.toNat % 2 := by rw [BitVec.toNat_and]; exact Nat.and_one_is_mod _
  have e2 : x.getLsbD 0 = decide (x.toNat % 2 = 1) := by rw [BitVec.getLsbD, Nat.testBit_zero]
  rw [e2]
  show ((((x &&& 1#32).toNat : Nat) : Int) == ((1 : Nat) : Int)) = _
  rw [e, Bool.eq_iff_iff]
  simp; omega
theorem one_I (x : BitVec 32) : one (I x) = I (oneB x) := by
  unfold one oneB
  rw [low_bit, shr32]
  cases x.getLsbD 0
  · rfl
  · have h : (2197175160 : Int) = I poly := rfl
    rw [h, cond_true, cond_true, xor32]
theorem many_I : ∀ (n : Nat) (x : BitVec 32), many n (I x) = I (manyB n x)
  | 0, x => rfl
  | n + 1, x => by rw [many, one_I, many_I n, manyB]
theorem oneB_xor (a b : BitVec 32) : oneB (a ^^^ b) = oneB a ^^^ oneB b := by
  have hs : (a ^^^ b) >>> 1 = a >>> 1 ^^^ b >>> 1 := BitVec.ushiftRight_xor_distrib ..
  unfold oneB
  rw [BitVec.getLsbD_xor, hs]
  generalize a >>> 1 = u
  generalize b >>> 1 = v
  generalize poly = p
  cases a.getLsbD 0 <;> cases b.getLsbD 0 <;> simp only [cond_true, cond_false, Bool.xor_true, Bool.xor_false, Bool.not_true, Bool.not_false, Bool.false_xor, Bool.true_xor]
  · ac_rfl
  · ac_rfl
  · rw [show u ^^^ p ^^^ (v ^^^ p) = (u ^^^ v) ^^^ (p ^^^ p) by ac_rfl, BitVec.xor_self, BitVec.xor_zero]
theorem manyB_xor : ∀ (n : Nat) (a b : BitVec 32), manyB n (a ^^^ b) = manyB n a ^^^ manyB n b
  | 0, _, _ => rfl
  | n + 1, a, b => by rw [manyB, oneB_xor, manyB_xor n]; rfl
theorem oneB_zero {x : BitVec 32} (h : oneB x = 0#32) : x = 0#32 := by
  unfold oneB at h
  cases hb : x.getLsbD 0 with
  | true =>
    rw [hb, cond_true] at h
    have h' : x >>> 1 = poly := by
      have := congrArg (· ^^^ poly) h
      simpa [BitVec.xor_assoc] using this
    have := congrArg BitVec.toNat h'
    rw [BitVec.toNat_ushiftRight, Nat.shiftRight_eq_div_pow] at this
    have hl := x.isLt
    have hp : poly.toNat = 2197175160 := rfl
    rw [hp] at this
    omega
  | false =>
    rw [hb, cond_false] at h
    have := congrArg BitVec.toNat h
    rw [BitVec.toNat_ushiftRight, Nat.shiftRight_eq_div_pow] at this
    rw [BitVec.getLsbD, Nat.testBit_zero, decide_eq_false_iff_not] at hb
    apply BitVec.eq_of_toNat_eq
    have h0 : (0#32).toNat = 0 := rfl
    rw [h0] at this ⊢
    omega
theorem manyB_zero : ∀ (n : Nat) {x : BitVec 32}, manyB n x = 0#32 → x = 0#32
  | 0, _, h => h
  | n + 1, x, h => oneB_zero (manyB_zero n h)
theorem manyB_inj {n : Nat} {a b : BitVec 32} (h : manyB n a = manyB n b) : a = b := by
  have : manyB n (a ^^^ b) = 0#32 := by rw [manyB_xor, h, BitVec.xor_self]
  have := manyB_zero n this
  have h2 := congrArg (· ^^^ b) this
  simpa [BitVec.xor_assoc] using h2
theorem manyB_shift : ∀ (k : Nat) (v : BitVec 32) (u : Nat), v.toNat = 2 ^ k * u → (manyB k v).toNat = u
  | 0, v, u, h => by show v.toNat = u; simpa using h
  | k + 1, v, u, h => by
    refine manyB_shift k (oneB v) u ?_
    have h2 : v.toNat = 2 * (2 ^ k * u) := by rw [h, Nat.pow_succ]; ac_rfl
    unfold oneB
    have hb : v.getLsbD 0 = false := by rw [BitVec.getLsbD, Nat.testBit_zero, decide_eq_false_iff_not]; omega
    rw [hb, cond_false, BitVec.toNat_ushiftRight, Nat.shiftRight_eq_div_pow]
    omega
def stepB (s : BitVec 32) (b : BitVec 8) : BitVec 32 := manyB 8 (s ^^^ b.setWidth 32)
theorem step_table (x : BitVec 32) (b : BitVec 8) : (x >>> 8) ^^^ manyB 8 ((x.setWidth 8 ^^^ b).setWidth 32) = stepB x b := by
  have e : x ^^^ b.setWidth 32 = ((x >>> 8) <<< 8) ^^^ ((x.setWidth 8 ^^^ b).setWidth 32) := by
    apply BitVec.eq_of_getLsbD_eq
    intro i hi
    simp only [BitVec.getLsbD_xor, BitVec.getLsbD_setWidth, BitVec.getLsbD_shiftLeft, BitVec.getLsbD_ushiftRight]
    by_cases h8 : i < 8
    · simp [h8, hi, show i < 32 from hi]
    · have : b.getLsbD i = false := BitVec.getLsbD_of_ge b i (by omega)
      simp [h8, this, hi, show i < 32 from hi, show 8 + (i - 8) = i by omega]
  unfold stepB
  rw [e, manyB_xor]
  congr 1
  apply BitVec.eq_of_toNat_eq
  symm
  apply manyB_shift
  rw [BitVec.toNat_shiftLeft, BitVec.toNat_ushiftRight, Nat.shiftLeft_eq, Nat.shiftRight_eq_div_pow]
  have := x.isLt
  omega
def runB (s : BitVec 32) : List (BitVec 8) → BitVec 32
  | [] => s
  | b :: bs => runB (stepB s b) bs
theorem sumG_I : ∀ (bs : List (BitVec 8)) (s : BitVec 32), sumG tab (bs.map J) (I s) = I (runB s bs)
  | [], s => rfl
  | b :: bs, s => by
    rw [List.map_cons, sumG, shr32, wrap8, xor8, Int.toNat_natCast, tab_get (BitVec.isLt _)]
    have e : (((s.setWidth 8 ^^^ b).toNat : Nat) : Int) = I ((s.setWidth 8 ^^^ b).setWidth 32) := by
      have := (s.setWidth 8 ^^^ b).isLt
      show _ = (((s.setWidth 8 ^^^ b).setWidth 32).toNat : Int)
      rw [BitVec.toNat_setWidth]; omega
    rw [e, many_I, xor32, step_table, sumG_I bs]; rfl
def top : BitVec 32 := 4294967295#32
theorem sum_I (bs : List (BitVec 8)) : sum (bs.map J) = I (top ^^^ runB top bs) := by
  have e : (4294967295 : Int) = I top := rfl
  unfold sum
  rw [e, sumG_I, xor32]
/-- A list of bytes. -/
theorem bytes_of {xs : List Int} (h : ∀ x ∈ xs, 0 ≤ x ∧ x ≤ 255) : ∃ bs : List (BitVec 8), xs = bs.map J := by
  induction xs with
  | nil => exact ⟨[], rfl⟩
  | cons x xs ih =>
    obtain ⟨bs, hb⟩ := ih fun y hy => h y (List.mem_cons_of_mem _ hy)
    have := h x List.mem_cons_self
    refine ⟨BitVec.ofNat 8 x.toNat :: bs, ?_⟩
    rw [List.map_cons, ← hb]
    congr 1
    show x = ((BitVec.ofNat 8 x.toNat).toNat : Int)
    rw [BitVec.toNat_ofNat]; omega
theorem step_l0 {n : Nat} {w : World} : ∀ (k j m : Nat) (x : Int), j + k = 8 → k < m → butteryref1_step.l0 n m x (j : Int) w = some ⟨.exit 0, [.int .u32 (many k x)], w⟩ := by
  intro k
  induction k with
  | zero =>
    intro j m x hj hm
    obtain ⟨m, rfl⟩ : ∃ m', m = m' + 1 := ⟨m - 1, by omega⟩
    rw [butteryref1_step.l0_succ, cF (by simp; omega)]
    rfl
  | succ k ih =>
    intro j m x hj hm
    obtain ⟨m, rfl⟩ : ∃ m', m = m' + 1 := ⟨m - 1, by omega⟩
    rw [butteryref1_step.l0_succ, cT (by simp; omega)]
    have hi : IntKind.i64.wrap ((j : Int) + 1) = ((j + 1 : Nat) : Int) := by rw [i64_in _ (by omega)]; omega
    have e := fun x => ih (j + 1) m x (by omega) (by omega)
    unfold many one
    cases hb : ((bits .and .u32 x 1) == 1)
    · rw [cF (x := false) rfl, jb_norm, tC_mk, tI_mk, tC_mk, tI_mk, tN_mk, hi, cF (x := false) rfl]; exact e _
    · rw [cT (x := true) rfl, jb_norm, tC_mk, tI_mk, tC_mk, tI_mk, tN_mk, hi, cT (x := true) rfl]; exact e _
theorem step_spec {n : Nat} (hn : 300 ≤ n) (x : Int) (w : World) : butteryref1_step n [.int .u32 x] w = some ([.int .u32 (many 8 x)], w) := by
  have h : butteryref1_step.l0 n n x 0 w = _ := step_l0 8 0 n x rfl (by omega)
  rw [butteryref1_step_eq, h, jb_exit, tC_mk, tI_mk, tN_mk, fin_ret]
theorem and255 (x : BitVec 32) (b : BitVec 8) : bits .and .u32 (bits .xor .u32 (I x) (IntKind.u32.wrap (J b))) 255 = I ((x.setWidth 8 ^^^ b).setWidth 32) := by
  have hb := b.isLt
  have e1 : IntKind.u32.wrap (J b) = I (b.setWidth 32) := by
    rw [u32_in (J b) (by show (0:Int) ≤ (b.toNat : Int) ∧ (b.toNat : Int) ≤ 4294967295; omega)]
    show (b.toNat : Int) = ((b.setWidth 32).toNat : Int)
    rw [BitVec.toNat_setWidth]; omega
  have e2 : (255 : Int) = I 255#32 := rfl
  rw [e1, xor32, e2, and32]
  congr 1
  apply BitVec.eq_of_toNat_eq
  rw [BitVec.toNat_and, BitVec.toNat_xor, BitVec.toNat_setWidth, BitVec.toNat_setWidth, BitVec.toNat_xor, BitVec.toNat_setWidth]
  have e3 : (255#32).toNat = 2 ^ 8 - 1 := rfl
  have h1 : (x.toNat ^^^ b.toNat) % 2 ^ 8 = x.toNat % 2 ^ 8 ^^^ b.toNat := by rw [Nat.xor_mod_two_pow, Nat.mod_eq_of_lt hb]
  have h2 : x.toNat % 2 ^ 8 ^^^ b.toNat < 2 ^ 8 := Nat.xor_lt_two_pow (Nat.mod_lt _ (by decide)) hb
  have h3 : (x.toNat % 2 ^ 8 ^^^ b.toNat) % 2 ^ 32 = x.toNat % 2 ^ 8 ^^^ b.toNat := Nat.mod_eq_of_lt (by omega)
  rw [e3, Nat.and_two_pow_sub_one_eq_mod, Nat.mod_eq_of_lt (show b.toNat < 2 ^ 32 by omega), h1, h3]
theorem Crc_l0 {n : Nat} (hn : 300 ≤ n) {w : World} {B : Option Addr} {l d : Nat} {bs : List (BitVec 8)} (hb : Sl .u8 w B l (bs.map J)) (hl : l < 2 ^ 40) :
    ∀ (k j m : Nat) (x : BitVec 32), j + k = l → k < m → butteryref1_Crc.l0 n m B l d (I x) (j : Int) w = some ⟨.exit 0, [.int .u32 (I (runB x (bs.drop j)))], w⟩ := by
  have hlen : bs.length = l := by have := hb.1; simpa using this
  intro k
  induction k with
  | zero =>
    intro j m x hj hm
    obtain ⟨m, rfl⟩ : ∃ m', m = m' + 1 := ⟨m - 1, by omega⟩
    rw [butteryref1_Crc.l0_succ, cF (by simp; omega), List.drop_of_length_le (by omega)]
    rfl
  | succ k ih =>
    intro j m x hj hm
    obtain ⟨m, rfl⟩ : ∃ m', m = m' + 1 := ⟨m - 1, by omega⟩
    have hi : IntKind.i64.wrap ((j : Int) + 1) = ((j + 1 : Nat) : Int) := by rw [i64_in _ (by omega)]; omega
    have hj' : j < bs.length := by omega
    have e1 : (bs.map J).getD j 0 = J bs[j] := by simp [List.getD_eq_getElem?_getD, hj']
    rw [butteryref1_Crc.l0_succ, cT (by simp; omega), hb.ix (by omega) (by omega), hi, Int.toNat_natCast, e1, and255, step_spec hn, cl1I, many_I, shr32, xor32, step_table, ih (j + 1) m _ (by omega) (by omega)]
    rw [List.drop_eq_getElem_cons hj', runB]
theorem Crc_spec {n : Nat} (hn : 2 ^ 50 < n) {w : World} {B : Option Addr} {l d : Nat} {b : List Int} (hb : Sl .u8 w B l b) (wb : ∀ x ∈ b, 0 ≤ x ∧ x ≤ 255) (hl : l < 2 ^ 40) :
    butteryref1_Crc n [.slice B l d] w = some ([.int .u32 (sum b)], w) := by
  obtain ⟨bs, rfl⟩ := bytes_of wb
  have h : butteryref1_Crc.l0 n n B l d 4294967295 0 w = _ := Crc_l0 (n := n) (d := d) (by omega) hb hl l 0 n top (by omega) (by omega)
  rw [butteryref1_Crc_eq, h, jb_exit, tC_mk, tI_mk, tN_mk, fin_ret, sum_I]
  have e : (4294967295 : Int) = I top := rfl
  rw [e, xor32]; rfl
section
variable {n : Nat} {w : World} {A B : Option Addr} {l c m d : Nat} {bs : List Int}
def RTab (w0 : World) : List Value × World → Prop := fun r => ∃ A c w', r = ([.slice A 256 c], w') ∧ Own .u32 52 w' w0.heap.size (.slice A 256 c) tab ∧ Kp w0 w'
theorem Table_rt (hn : 2 ^ 50 < n) : Rt (crc_Table n [] w) (RTab w) := by
  obtain ⟨A, c, w', h1, h2, h3⟩ := Table_spec (n := n) (by omega) w
  exact Rt.of h1 ⟨A, c, w', rfl, h2, h3⟩
theorem Sum_rt (hn : 2 ^ 50 < n) (ht : Sl .u32 w A 256 tab) (hb : Sl .u8 w B l bs) (hl : l < 2 ^ 50) : Rt (crc_Sum n [.slice A 256 c, .slice B l d] w) (RI .u32 (sum bs) w) :=
  Rt.of (Sum_spec (n := n) (by omega) hn A c tab ht B l d bs hb hl) ⟨w, rfl, Kp.rfl' w⟩
end
def mask (x : Int) : Int := IntKind.u32.wrap ((bits .or .u32 (Int.fdiv x (2 ^ 15)) (IntKind.u32.wrap (x * 2 ^ 17))) + 2726488792)
theorem mask_range (x : Int) : 0 ≤ mask x ∧ mask x < 2 ^ 32 := by
  unfold mask
  rw [IntKind.wrap_u32]
  omega
theorem Mask_spec {n : Nat} (x : Int) (w : World) : crc_Mask n [.int .u32 x] w = some ([.int .u32 (mask x)], w) := by rw [crc_Mask_eq, fin_ret, mask]
theorem RMask_spec {n : Nat} (x : Int) (w : World) : butteryref1_Mask n [.int .u32 x] w = some ([.int .u32 (mask x)], w) := by rw [butteryref1_Mask_eq, fin_ret, mask]
end Go.Proofs.YtebcmkohnebgmaaDoor.Crc
