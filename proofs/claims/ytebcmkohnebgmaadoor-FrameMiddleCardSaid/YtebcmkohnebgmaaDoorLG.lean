/- Numbers in so many bytes, as the document's own text writes and reads them. -/
import Derived.Test.YtebcmkohnebgmaaDoorCS
namespace Go.Proofs.YtebcmkohnebgmaaDoor.Low
open Go Big Go.RowKit Go.IntWalk
set_option linter.unusedVariables false
set_option linter.unusedSimpArgs false
theorem slV : ∃ i, SlT Tryd.prog 22 5 .u8 i := slT (by kernel_rfl)
abbrev Bytes (xs : List Int) : Prop := ∀ x ∈ xs, (Lit.int .u8 x).wf = true
section
variable {n : Nat} {w w0 : World} {A B : Option Addr} {l c m d : Nat} {xs ys : List Int}
theorem Low_l0 {base : Nat} {v : Int} {mm : Nat} (hv : 0 ≤ v ∧ v < 2 ^ 64) (hm : mm ≤ 8) {w0 : World} (hb0 : w0.heap.size ≤ base) : ∀ (q i j : Nat) (A : Option Addr) (c : Nat) (w : World), i + q = mm → q < j → xs.length ≤ 2 ^ 38 → Own .u8 5 w base (.slice A (xs.length + i) c) (xs ++ lowB i v) → Kp w0 w → base ≤ w.heap.size →
    Rt (butteryref1_Low.l0 n j v (mm : Int) A (xs.length + i) c (i : Int) w) fun r => r.ex = .exit 0 ∧ ∃ B d, r.vals = [.slice B (xs.length + mm) d] ∧ Own .u8 5 r.w base (.slice B (xs.length + mm) d) (xs ++ lowB mm v) ∧ Kp w0 r.w := by
  obtain ⟨t, hT⟩ := slV
  intro q
  induction q with
  | zero =>
    intro i j A c w hi hj hl ho hk hbs
    obtain ⟨j, rfl⟩ : ∃ j', j = j' + 1 := ⟨j - 1, by omega⟩
    obtain rfl : i = mm := by omega
    rw [butteryref1_Low.l0_succ]
    exact Rt.cDF (by omega) (Rt.some' ⟨rfl, A, c, rfl, ho, hk⟩)
  | succ q ih =>
    intro i j A c w hi hj hl ho hk hbs
    obtain ⟨j, rfl⟩ : ∃ j', j = j' + 1 := ⟨j - 1, by omega⟩
    rw [butteryref1_Low.l0_succ]
    have e1 : IntKind.u64.wrap (IntKind.i64.wrap (8 * (i : Int))) = ((8 * i : Nat) : Int) := by rw [i64_in _ (by omega), u64_in _ (by omega)]; omega
    have e2 : min (Int.toNat ((8 * i : Nat) : Int)) 64 = 8 * i := by omega
    have e3 : IntKind.u8.wrap (bits .and .u64 (Int.fdiv v (2 ^ (8 * i))) 255) = v / 256 ^ i % 256 := by
      have e4 : (2 : Int) ^ (8 * i) = 256 ^ i := by rw [Int.pow_mul]; rfl
      have hp : (0 : Int) < 256 ^ i := Int.pow_pos (by decide)
      have h0 : 0 ≤ v / 256 ^ i := Int.ediv_nonneg hv.1 (by omega)
      have h1 : v / 256 ^ i ≤ v := Int.ediv_le_self _ hv.1
      rw [fdivI, e4, and255 h0 (by omega), u8w]; omega
    refine Rt.cDT (by omega) (Rt.iF (by rw [e1]; omega) ?_)
    rw [e1, e2, e3]
    refine Rt.alo [_] 1 rfl rfl (by decide) fun w1 o1 k1 => ?_
    refine Rt.app hT (ho.kp k1) o1.sl.2 (fun h => by cases h) (by rw [List.length_append, lowB_len]; omega) (Nat.le_trans hbs k1.size) fun B d w2 o2 hk2 _ hsz => ?_
    (repeat (first | (with_reducible (first | refine Rt.fin ?_ | refine Rt.tL ?_ | refine Rt.tI ?_ | refine Rt.tB ?_ | refine Rt.tS ?_ | refine Rt.tP ?_ | refine Rt.tD ?_ | refine Rt.tM ?_ | refine Rt.tC ?_ | refine Rt.tN ?_ | refine Rt.tA ?_ | refine Rt.tG ?_ | refine Rt.tF ?_ | refine Rt.os ?_ | refine Rt.clS ?_ | refine Rt.jmN ?_ | refine Rt.jbN ?_ | refine Rt.jbE ?_)) | ((with_reducible (first | apply Rt.ld0 | apply Rt.ld1 | apply Rt.ld2 | apply Rt.ld3 | apply Rt.ld4 | apply Rt.ld5)); first | assumption | exact Lc.kp (by assumption) (by assumption)) | ((with_reducible apply Rt.ol); first | assumption | exact cell_kp (by assumption) (by assumption)) | ((with_reducible apply Rt.ckR); focus ((repeat (first | (with_reducible (first | refine Rt.fin ?_ | refine Rt.tL ?_ | refine Rt.tI ?_ | refine Rt.tB ?_ | refine Rt.tS ?_ | refine Rt.tP ?_ | refine Rt.tD ?_ | refine Rt.tM ?_ | refine Rt.tC ?_ | refine Rt.tN ?_ | refine Rt.tA ?_ | refine Rt.tG ?_ | refine Rt.tF ?_ | refine Rt.os ?_ | refine Rt.clS ?_ | refine Rt.jmN ?_ | refine Rt.jbN ?_ | refine Rt.jbE ?_)) | ((with_reducible (first | apply Rt.ld0 | apply Rt.ld1 | apply Rt.ld2 | apply Rt.ld3 | apply Rt.ld4 | apply Rt.ld5)); first | assumption | exact Lc.kp (by assumption) (by assumption)) | ((with_reducible apply Rt.ol); first | assumption | exact cell_kp (by assumption) (by assumption)))); exact Rt.some' rfl))))
    have hkk := hk2 w0 (hk.tr k1) hb0
    rw [List.length_append, lowB_len, List.append_assoc, ← lowB_snoc] at o2
    rw [List.length_append, lowB_len, i64_in _ (by omega), show ((i : Int) + 1) = ((i + 1 : Nat) : Int) by omega]
    exact ih (i + 1) j B d w2 (by omega) (by omega) hl o2 hkk (by have := k1.size; omega)
theorem Low_spec {v : Int} {mm : Nat} (hx : Bv .u8 w A l c xs) (hv : 0 ≤ v ∧ v < 2 ^ 64) (hm : mm ≤ 8) (hl : l ≤ 2 ^ 38) (hn : 10 < n) : Rt (butteryref1_Low n [.slice A l c, .int .u64 v, .int .i64 (mm : Int)] w) (RO .u8 5 w (xs ++ lowB mm v)) := by
  obtain ⟨t, hT⟩ := slV
  have hxl := hx.len
  rw [butteryref1_Low_eq]
  refine Rt.fin (Rt.app0 hT hx.sl hx.nil (by omega) fun B d w1 o1 k1 => ?_)
  (repeat (first | (with_reducible (first | refine Rt.fin ?_ | refine Rt.tL ?_ | refine Rt.tI ?_ | refine Rt.tB ?_ | refine Rt.tS ?_ | refine Rt.tP ?_ | refine Rt.tD ?_ | refine Rt.tM ?_ | refine Rt.tC ?_ | refine Rt.tN ?_ | refine Rt.tA ?_ | refine Rt.tG ?_ | refine Rt.tF ?_ | refine Rt.os ?_ | refine Rt.clS ?_ | refine Rt.jmN ?_ | refine Rt.jbN ?_ | refine Rt.jbE ?_)) | ((with_reducible (first | apply Rt.ld0 | apply Rt.ld1 | apply Rt.ld2 | apply Rt.ld3 | apply Rt.ld4 | apply Rt.ld5)); first | assumption | exact Lc.kp (by assumption) (by assumption)) | ((with_reducible apply Rt.ol); first | assumption | exact cell_kp (by assumption) (by assumption)) | ((with_reducible apply Rt.ckR); focus ((repeat (first | (with_reducible (first | refine Rt.fin ?_ | refine Rt.tL ?_ | refine Rt.tI ?_ | refine Rt.tB ?_ | refine Rt.tS ?_ | refine Rt.tP ?_ | refine Rt.tD ?_ | refine Rt.tM ?_ | refine Rt.tC ?_ | refine Rt.tN ?_ | refine Rt.tA ?_ | refine Rt.tG ?_ | refine Rt.tF ?_ | refine Rt.os ?_ | refine Rt.clS ?_ | refine Rt.jmN ?_ | refine Rt.jbN ?_ | refine Rt.jbE ?_)) | ((with_reducible (first | apply Rt.ld0 | apply Rt.ld1 | apply Rt.ld2 | apply Rt.ld3 | apply Rt.ld4 | apply Rt.ld5)); first | assumption | exact Lc.kp (by assumption) (by assumption)) | ((with_reducible apply Rt.ol); first | assumption | exact cell_kp (by assumption) (by assumption)))); exact Rt.some' rfl))))
  subst hxl
  refine Rt.jb (Rt.mono (Low_l0 (xs := xs) (base := w.heap.size) (w0 := w) hv hm (Nat.le_refl _) mm 0 n B d w1 (by omega) (by omega) hl (by simpa [lowB] using o1) k1 k1.size) ?_)
  rintro ⟨ex, vs, w2⟩ ⟨h1, C, e, h2, h3, h4⟩
  dsimp only at h1 h2 h3 h4
  subst h1 h2
  refine .inl ⟨.inr rfl, ?_⟩
  (repeat (first | (with_reducible (first | refine Rt.fin ?_ | refine Rt.tL ?_ | refine Rt.tI ?_ | refine Rt.tB ?_ | refine Rt.tS ?_ | refine Rt.tP ?_ | refine Rt.tD ?_ | refine Rt.tM ?_ | refine Rt.tC ?_ | refine Rt.tN ?_ | refine Rt.tA ?_ | refine Rt.tG ?_ | refine Rt.tF ?_ | refine Rt.os ?_ | refine Rt.clS ?_ | refine Rt.jmN ?_ | refine Rt.jbN ?_ | refine Rt.jbE ?_)) | ((with_reducible (first | apply Rt.ld0 | apply Rt.ld1 | apply Rt.ld2 | apply Rt.ld3 | apply Rt.ld4 | apply Rt.ld5)); first | assumption | exact Lc.kp (by assumption) (by assumption)) | ((with_reducible apply Rt.ol); first | assumption | exact cell_kp (by assumption) (by assumption)) | ((with_reducible apply Rt.ckR); focus ((repeat (first | (with_reducible (first | refine Rt.fin ?_ | refine Rt.tL ?_ | refine Rt.tI ?_ | refine Rt.tB ?_ | refine Rt.tS ?_ | refine Rt.tP ?_ | refine Rt.tD ?_ | refine Rt.tM ?_ | refine Rt.tC ?_ | refine Rt.tN ?_ | refine Rt.tA ?_ | refine Rt.tG ?_ | refine Rt.tF ?_ | refine Rt.os ?_ | refine Rt.clS ?_ | refine Rt.jmN ?_ | refine Rt.jbN ?_ | refine Rt.jbE ?_)) | ((with_reducible (first | apply Rt.ld0 | apply Rt.ld1 | apply Rt.ld2 | apply Rt.ld3 | apply Rt.ld4 | apply Rt.ld5)); first | assumption | exact Lc.kp (by assumption) (by assumption)) | ((with_reducible apply Rt.ol); first | assumption | exact cell_kp (by assumption) (by assumption)))); exact Rt.some' rfl))))
  exact Rt.endO h3 (Nat.le_refl _) h4
theorem shl_or {x y : Int} (h : 0 ≤ x ∧ x < 256) (hy : 0 ≤ y ∧ y < 2 ^ 56) : bits .or .u64 (IntKind.u64.wrap (y * 2 ^ 8)) (IntKind.u64.wrap x) = x + 256 * y := by
  have e : y * 2 ^ 8 = y * 256 := by rw [show (2 : Int) ^ 8 = 256 from rfl]
  rw [u64_in _ (by omega), u64_in x (by omega), (orI 8 (by omega) (by omega) (by omega) (by omega)).2]
  omega
theorem byte_at (hb : Bytes xs) {i : Nat} (hi : i < xs.length) : 0 ≤ xs.getD i 0 ∧ xs.getD i 0 < 256 := by
  have : xs.getD i 0 ∈ xs := by simp [List.getD_eq_getElem?_getD, hi]
  exact u8wf (hb _ this)
/-- So many bytes from a place on. -/
def slc (xs : List Int) (at_ m : Nat) : List Int := (xs.drop at_).take m
theorem slc_wf (hb : Bytes xs) (a m : Nat) : Bytes (slc xs a m) := fun z hz => hb z (List.mem_of_mem_drop (List.mem_of_mem_take hz))
theorem le_slc (hb : Bytes xs) {a m q : Nat} (h : a + m ≤ xs.length) (hq : q < m) : le ((slc xs a m).drop q) = xs.getD (a + q) 0 + 256 * le ((slc xs a m).drop (q + 1)) := by
  have hl : (slc xs a m).length = m := by simp [slc]; omega
  rw [List.drop_eq_getElem_cons (by omega), le]
  congr 1
  simp [slc, List.getD_eq_getElem?_getD, show a + q < xs.length by omega]
theorem le_small (hb : Bytes xs) (h : xs.length ≤ 7) : 0 ≤ le xs ∧ le xs < 2 ^ 56 := by
  have := le_nonneg hb
  have key : ∀ a : Nat, a < 8 → (256 : Int) ^ a ≤ 2 ^ 56 := by decide
  have h2 := key xs.length (by omega)
  omega
theorem Get_l0 (hx : Bv .u8 w A l c xs) {a mm : Nat} (h9 : a + mm ≤ l) (h8 : mm ≤ 8) (hl : l ≤ 2 ^ 38) : ∀ (q j : Nat), q ≤ mm → q < j →
    Rt (butteryref1_Get.l0 n j A l c (a : Int) (le ((slc xs a mm).drop q)) ((q : Int) - 1) w) fun r => r = ⟨.exit 0, [.int .u64 (le (slc xs a mm))], w⟩ := by
  have hxl := hx.len
  intro q
  induction q with
  | zero =>
    intro j _ hj
    obtain ⟨j, rfl⟩ : ∃ j', j = j' + 1 := ⟨j - 1, by omega⟩
    rw [butteryref1_Get.l0_succ]
    exact Rt.cDF (by omega) (Rt.some' rfl)
  | succ q ih =>
    intro j hq hj
    obtain ⟨j, rfl⟩ : ∃ j', j = j' + 1 := ⟨j - 1, by omega⟩
    rw [butteryref1_Get.l0_succ]
    have e0 : IntKind.i64.wrap ((a : Int) + (((q + 1 : Nat) : Int) - 1)) = ((a + q : Nat) : Int) := by rw [i64_in _ (by omega)]; omega
    have hl1 : (slc xs a mm).length = mm := by simp [slc]; omega
    rw [e0]
    refine Rt.cDT (by omega) (Rt.ix hx.sl (by omega) (by omega) ?_)
    rw [Int.toNat_natCast, shl_or (byte_at hx.rng (by omega)) (le_small (fun z hz => slc_wf hx.rng a mm z (List.mem_of_mem_drop hz)) (by rw [List.length_drop]; omega)), ← le_slc hx.rng (by omega) (by omega), i64_in _ (by omega),
      show ((q + 1 : Nat) : Int) - 1 - 1 = (q : Int) - 1 by omega]
    exact ih j (by omega) (by omega)
theorem Get_spec (hx : Bv .u8 w A l c xs) {a mm : Nat} (h9 : a + mm ≤ l) (h8 : mm ≤ 8) (hl : l ≤ 2 ^ 38) (hn : 20 < n) : butteryref1_Get n [.slice A l c, .int .i64 (a : Int), .int .i64 (mm : Int)] w = some ([.int .u64 (le (slc xs a mm))], w) := by
  have hxl := hx.len
  have hl1 : (slc xs a mm).length = mm := by simp [slc]; omega
  rw [butteryref1_Get_eq, i64_in _ (by omega)]
  have h := Get_l0 (n := n) hx h9 h8 hl mm n (by omega) (by omega)
  rw [List.drop_of_length_le (by omega)] at h
  obtain ⟨_, e, rfl⟩ := h
  have e' : butteryref1_Get.l0 n n A l c (a : Int) 0 ((mm : Int) - 1) w = _ := e
  rw [e', jb_exit]
  rfl
end
end Go.Proofs.YtebcmkohnebgmaaDoor.Low
