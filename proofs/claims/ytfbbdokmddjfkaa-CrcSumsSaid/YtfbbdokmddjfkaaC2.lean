/- The sum as a walk over bit vectors: linear, and no two states fall together. -/
import Derived.Test.YtfbbdokmddjfkaaC1
namespace Go.Proofs.Ytfbbdokmddjfkaa.Crc
open Go Big Go.RowKit Go.IntWalk
set_option linter.unusedVariables false
set_option linter.unusedSimpArgs false
def poly : BitVec 32 := 2197175160#32
def oneB (x : BitVec 32) : BitVec 32 := cond (x.getLsbD 0) ((x >>> 1) ^^^ poly) (x >>> 1)
def manyB : Nat → BitVec 32 → BitVec 32
  | 0, x => x
  | n + 1, x => manyB n (oneB x)
abbrev I (x : BitVec 32) : Int := (x.toNat : Int)
abbrev J (x : BitVec 8) : Int := (x.toNat : Int)
theorem xor32 (a b : BitVec 32) : bits .xor .u32 (I a) (I b) = I (a ^^^ b) := by
  unfold bits
  simp only [IntKind.bits, BitVec.ofInt_natCast]
  have e : ∀ x : BitVec 32, BitVec.ofNat 32 x.toNat = x := fun x => by simp
  show IntKind.u32.wrap (((BitVec.ofNat 32 a.toNat ^^^ BitVec.ofNat 32 b.toNat).toNat : Nat) : Int) = _
  rw [e a, e b]
  have := (a ^^^ b).isLt
  exact u32_in _ (by omega)
theorem and32 (a b : BitVec 32) : bits .and .u32 (I a) (I b) = I (a &&& b) := by
  unfold bits
  simp only [IntKind.bits, BitVec.ofInt_natCast]
  have e : ∀ x : BitVec 32, BitVec.ofNat 32 x.toNat = x := fun x => by simp
  show IntKind.u32.wrap (((BitVec.ofNat 32 a.toNat &&& BitVec.ofNat 32 b.toNat).toNat : Nat) : Int) = _
  rw [e a, e b]
  have := (a &&& b).isLt
  exact u32_in _ (by omega)
theorem xor8 (a b : BitVec 8) : bits .xor .u8 (J a) (J b) = J (a ^^^ b) := by
  unfold bits
  simp only [IntKind.bits, BitVec.ofInt_natCast]
  have e : ∀ x : BitVec 8, BitVec.ofNat 8 x.toNat = x := fun x => by simp
  show IntKind.u8.wrap (((BitVec.ofNat 8 a.toNat ^^^ BitVec.ofNat 8 b.toNat).toNat : Nat) : Int) = _
  rw [e a, e b]
  have := (a ^^^ b).isLt
  exact u8_in _ (by omega)
theorem shr32 (a : BitVec 32) (k : Nat) : Int.fdiv (I a) (2 ^ k) = I (a >>> k) := by
  rw [Int.fdiv_eq_ediv_of_nonneg _ (Int.le_of_lt (Int.pow_pos (by decide)))]
  show ((a.toNat : Int)) / 2 ^ k = ((a >>> k).toNat : Int)
  rw [BitVec.toNat_ushiftRight, Nat.shiftRight_eq_div_pow, Int.natCast_ediv, Int.natCast_pow]; rfl
theorem wrap8 (a : BitVec 32) : IntKind.u8.wrap (I a) = J (a.setWidth 8) := by
  rw [IntKind.wrap_u8]
  show (a.toNat : Int) % 256 = ((a.setWidth 8).toNat : Int)
  rw [BitVec.toNat_setWidth]; omega
theorem low_bit (x : BitVec 32) : ((bits .and .u32 (I x) 1) == 1) = x.getLsbD 0 := by
  have h1 : (1 : Int) = I 1#32 := rfl
  rw [h1, and32]
  have e : (x &&& 1#32).toNat = x.toNat % 2 := by rw [BitVec.toNat_and]; exact Nat.and_one_is_mod _
  have e2 : x.getLsbD 0 = decide (x.toNat % 2 = 1) := by rw [BitVec.getLsbD, Nat.testBit_zero]
  rw [e2]
  show ((((x &&& 1#32).toNat : Nat) : Int) == ((1 : Nat) : Int)) = _
  rw [e, Bool.eq_iff_iff]
  simp; omega
theorem one_I (x : BitVec 32) : one (I x) = I (oneB x) := by
  unfold one oneB
  rw [low_bit, shr32]
  cases x.getLsbD 0
  · rfl
  · have h : (2197175160 : Int) = I poly := rfl
    rw [h, cond_true, cond_true, xor32]
theorem many_I : ∀ (n : Nat) (x : BitVec 32), many n (I x) = I (manyB n x)
  | 0, x => rfl
  | n + 1, x => by rw [many, one_I, many_I n, manyB]
theorem oneB_xor (a b : BitVec 32) : oneB (a ^^^ b) = oneB a ^^^ oneB b := by
  have hs : (a ^^^ b) >>> 1 = a >>> 1 ^^^ b >>> 1 := BitVec.ushiftRight_xor_distrib ..
  unfold oneB
  rw [BitVec.getLsbD_xor, hs]
  generalize a >>> 1 = u
  generalize b >>> 1 = v
  generalize poly = p
  cases a.getLsbD 0 <;> cases b.getLsbD 0 <;> simp only [cond_true, cond_false, Bool.xor_true, Bool.xor_false, Bool.not_true, Bool.not_false, Bool.false_xor, Bool.true_xor]
  · ac_rfl
  · ac_rfl
  · rw [show u ^^^ p ^^^ (v ^^^ p) = (u ^^^ v) ^^^ (p ^^^ p) by ac_rfl, BitVec.xor_self, BitVec.xor_zero]
theorem manyB_xor : ∀ (n : Nat) (a b : BitVec 32), manyB n (a ^^^ b) = manyB n a ^^^ manyB n b
  | 0, _, _ => rfl
  | n + 1, a, b => by rw [manyB, oneB_xor, manyB_xor n]; rfl
theorem oneB_zero {x : BitVec 32} (h : oneB x = 0#32) : x = 0#32 := by
  unfold oneB at h
  cases hb : x.getLsbD 0 with
  | true =>
    rw [hb, cond_true] at h
    have h' : x >>> 1 = poly := by
      have := congrArg (· ^^^ poly) h
      simpa [BitVec.xor_assoc] using this
    have := congrArg BitVec.toNat h'
    rw [BitVec.toNat_ushiftRight, Nat.shiftRight_eq_div_pow] at this
    have hl := x.isLt
    have hp : poly.toNat = 2197175160 := rfl
    rw [hp] at this
    omega
  | false =>
    rw [hb, cond_false] at h
    have := congrArg BitVec.toNat h
    rw [BitVec.toNat_ushiftRight, Nat.shiftRight_eq_div_pow] at this
    rw [BitVec.getLsbD, Nat.testBit_zero, decide_eq_false_iff_not] at hb
    apply BitVec.eq_of_toNat_eq
    have h0 : (0#32).toNat = 0 := rfl
    rw [h0] at this ⊢
    omega
theorem manyB_zero : ∀ (n : Nat) {x : BitVec 32}, manyB n x = 0#32 → x = 0#32
  | 0, _, h => h
  | n + 1, x, h => oneB_zero (manyB_zero n h)
theorem manyB_inj {n : Nat} {a b : BitVec 32} (h : manyB n a = manyB n b) : a = b := by
  have : manyB n (a ^^^ b) = 0#32 := by rw [manyB_xor, h, BitVec.xor_self]
  have := manyB_zero n this
  have h2 := congrArg (· ^^^ b) this
  simpa [BitVec.xor_assoc] using h2
theorem manyB_shift : ∀ (k : Nat) (v : BitVec 32) (u : Nat), v.toNat = 2 ^ k * u → (manyB k v).toNat = u
  | 0, v, u, h => by show v.toNat = u; simpa using h
  | k + 1, v, u, h => by
    refine manyB_shift k (oneB v) u ?_
    have h2 : v.toNat = 2 * (2 ^ k * u) := by rw [h, Nat.pow_succ]; ac_rfl
    unfold oneB
    have hb : v.getLsbD 0 = false := by rw [BitVec.getLsbD, Nat.testBit_zero, decide_eq_false_iff_not]; omega
    rw [hb, cond_false, BitVec.toNat_ushiftRight, Nat.shiftRight_eq_div_pow]
    omega
def stepB (s : BitVec 32) (b : BitVec 8) : BitVec 32 := manyB 8 (s ^^^ b.setWidth 32)
theorem step_table (x : BitVec 32) (b : BitVec 8) : (x >>> 8) ^^^ manyB 8 ((x.setWidth 8 ^^^ b).setWidth 32) = stepB x b := by
  have e : x ^^^ b.setWidth 32 = ((x >>> 8) <<< 8) ^^^ ((x.setWidth 8 ^^^ b).setWidth 32) := by
    apply BitVec.eq_of_getLsbD_eq
    intro i hi
    simp only [BitVec.getLsbD_xor, BitVec.getLsbD_setWidth, BitVec.getLsbD_shiftLeft, BitVec.getLsbD_ushiftRight]
    by_cases h8 : i < 8
    · simp [h8, hi, show i < 32 from hi]
    · have : b.getLsbD i = false := BitVec.getLsbD_of_ge b i (by omega)
      simp [h8, this, hi, show i < 32 from hi, show 8 + (i - 8) = i by omega]
  unfold stepB
  rw [e, manyB_xor]
  congr 1
  apply BitVec.eq_of_toNat_eq
  symm
  apply manyB_shift
  rw [BitVec.toNat_shiftLeft, BitVec.toNat_ushiftRight, Nat.shiftLeft_eq, Nat.shiftRight_eq_div_pow]
  have := x.isLt
  omega
def runB (s : BitVec 32) : List (BitVec 8) → BitVec 32
  | [] => s
  | b :: bs => runB (stepB s b) bs
theorem sumG_I : ∀ (bs : List (BitVec 8)) (s : BitVec 32), sumG tab (bs.map J) (I s) = I (runB s bs)
  | [], s => rfl
  | b :: bs, s => by
    rw [List.map_cons, sumG, shr32, wrap8, xor8, Int.toNat_natCast, tab_get (BitVec.isLt _)]
    have e : (((s.setWidth 8 ^^^ b).toNat : Nat) : Int) = I ((s.setWidth 8 ^^^ b).setWidth 32) := by
      have := (s.setWidth 8 ^^^ b).isLt
      show _ = (((s.setWidth 8 ^^^ b).setWidth 32).toNat : Int)
      rw [BitVec.toNat_setWidth]; omega
    rw [e, many_I, xor32, step_table, sumG_I bs]; rfl
def top : BitVec 32 := 4294967295#32
theorem sum_I (bs : List (BitVec 8)) : sum (bs.map J) = I (top ^^^ runB top bs) := by
  have e : (4294967295 : Int) = I top := rfl
  unfold sum
  rw [e, sumG_I, xor32]
/-- A list of bytes. -/
theorem bytes_of {xs : List Int} (h : ∀ x ∈ xs, 0 ≤ x ∧ x ≤ 255) : ∃ bs : List (BitVec 8), xs = bs.map J := by
  induction xs with
  | nil => exact ⟨[], rfl⟩
  | cons x xs ih =>
    obtain ⟨bs, hb⟩ := ih fun y hy => h y (List.mem_cons_of_mem _ hy)
    have := h x List.mem_cons_self
    refine ⟨BitVec.ofNat 8 x.toNat :: bs, ?_⟩
    rw [List.map_cons, ← hb]
    congr 1
    show x = ((BitVec.ofNat 8 x.toNat).toNat : Int)
    rw [BitVec.toNat_ofNat]; omega
theorem runB_xor3 : ∀ (a b c : List (BitVec 8)) (s t u : BitVec 32), b.length = a.length → c.length = a.length →
    runB s a ^^^ runB t b ^^^ runB u c = runB (s ^^^ t ^^^ u) ((a.zip (b.zip c)).map fun p => p.1 ^^^ p.2.1 ^^^ p.2.2)
  | [], [], [], s, t, u, _, _ => rfl
  | x :: a, y :: b, z :: c, s, t, u, h1, h2 => by
    simp only [runB, List.zip_cons_cons, List.map_cons]
    rw [runB_xor3 a b c _ _ _ (by simpa using h1) (by simpa using h2)]
    congr 1
    unfold stepB
    rw [← manyB_xor, ← manyB_xor]
    congr 1
    have : (x ^^^ y ^^^ z).setWidth 32 = x.setWidth 32 ^^^ y.setWidth 32 ^^^ z.setWidth 32 := by
      apply BitVec.eq_of_getLsbD_eq
      intro i hi
      simp only [BitVec.getLsbD_xor, BitVec.getLsbD_setWidth]
      cases decide (i < 32) <;> simp
    rw [this]; ac_rfl
theorem xor_right {s t u : BitVec 32} (h : s ^^^ u = t ^^^ u) : s = t := by
  have h3 := congrArg (· ^^^ u) h
  simpa only [BitVec.xor_assoc, BitVec.xor_self, BitVec.xor_zero] using h3
theorem xor_left {s t u : BitVec 32} (h : u ^^^ s = u ^^^ t) : s = t := xor_right (u := u) (by rw [BitVec.xor_comm s, BitVec.xor_comm t]; exact h)
theorem runB_inj : ∀ (a : List (BitVec 8)) {s t : BitVec 32}, runB s a = runB t a → s = t
  | [], _, _, h => h
  | x :: a, s, t, h => by
    rw [runB, runB] at h
    have h1 := runB_inj a h
    unfold stepB at h1
    have h2 := manyB_inj (n := 8) h1
    exact xor_right h2
theorem runB_app : ∀ (a b : List (BitVec 8)) (s : BitVec 32), runB s (a ++ b) = runB (runB s a) b
  | [], _, _ => rfl
  | x :: a, b, s => by simp only [List.cons_append, runB]; exact runB_app a b _
/-- One byte that is another. -/
theorem runB_turn (a : List (BitVec 8)) (i : Nat) (hi : i < a.length) (y : BitVec 8) (hy : y ≠ a[i]) (s : BitVec 32) : runB s a ≠ runB s (a.set i y) := by
  intro h
  have e1 : a = a.take i ++ a[i] :: a.drop (i + 1) := by rw [← List.drop_eq_getElem_cons hi, List.take_append_drop]
  have e2 : a.set i y = a.take i ++ y :: a.drop (i + 1) := by rw [List.set_eq_take_append_cons_drop, if_pos hi]
  rw [e2] at h
  have h : runB s (a.take i ++ a[i] :: a.drop (i + 1)) = runB s (a.take i ++ y :: a.drop (i + 1)) := by rw [← e1]; exact h
  rw [runB_app, runB_app, runB, runB] at h
  have h1 := runB_inj _ h
  unfold stepB at h1
  have h2 := manyB_inj (n := 8) h1
  have h3 : a[i].setWidth 32 = y.setWidth 32 := xor_left h2
  apply hy
  have := congrArg BitVec.toNat h3
  rw [BitVec.toNat_setWidth, BitVec.toNat_setWidth] at this
  have h4 := y.isLt
  have h5 := (a[i]).isLt
  exact BitVec.eq_of_toNat_eq (by omega)
end Go.Proofs.Ytfbbdokmddjfkaa.Crc
