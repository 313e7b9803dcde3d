/- Numbers in so many bytes, as the document's own text writes and reads them. -/
import Derived.Test.YtdnbpgakmbamoaaVA
namespace Go.Proofs.Ytdnbpgakmbamoaa.Low
open Go Big Go.RowKit Go.IntWalk
set_option linter.unusedVariables false
set_option linter.unusedSimpArgs false
theorem slV : ∃ i, SlT Try.prog 30 5 .u8 i := slT (by kernel_rfl)
abbrev Bytes (xs : List Int) : Prop := ∀ x ∈ xs, (Lit.int .u8 x).wf = true
section
variable {n : Nat} {w w0 : World} {A B : Option Addr} {l c m d : Nat} {xs ys : List Int}
theorem shl_or {x y : Int} (h : 0 ≤ x ∧ x < 256) (hy : 0 ≤ y ∧ y < 2 ^ 56) : bits .or .u64 (IntKind.u64.wrap (y * 2 ^ 8)) (IntKind.u64.wrap x) = x + 256 * y := by
  have e : y * 2 ^ 8 = y * 256 := by rw [show (2 : Int) ^ 8 = 256 from rfl]
  rw [u64_in _ (by omega), u64_in x (by omega), (orI 8 (by omega) (by omega) (by omega) (by omega)).2]
  omega
theorem byte_at (hb : Bytes xs) {i : Nat} (hi : i < xs.length) : 0 ≤ xs.getD i 0 ∧ xs.getD i 0 < 256 := by
  have : xs.getD i 0 ∈ xs := by simp [List.getD_eq_getElem?_getD, hi]
  exact u8wf (hb _ this)
/-- So many bytes from a place on. -/
def slc (xs : List Int) (at_ m : Nat) : List Int := (xs.drop at_).take m
theorem slc_wf (hb : Bytes xs) (a m : Nat) : Bytes (slc xs a m) := fun z hz => hb z (List.mem_of_mem_drop (List.mem_of_mem_take hz))
theorem le_slc (hb : Bytes xs) {a m q : Nat} (h : a + m ≤ xs.length) (hq : q < m) : le ((slc xs a m).drop q) = xs.getD (a + q) 0 + 256 * le ((slc xs a m).drop (q + 1)) := by
  have hl : (slc xs a m).length = m := by simp [slc]; omega
  rw [List.drop_eq_getElem_cons (by omega), le]
  congr 1
  simp [slc, List.getD_eq_getElem?_getD, show a + q < xs.length by omega]
theorem le_small (hb : Bytes xs) (h : xs.length ≤ 7) : 0 ≤ le xs ∧ le xs < 2 ^ 56 := by
  have := le_nonneg hb
  have key : ∀ a : Nat, a < 8 → (256 : Int) ^ a ≤ 2 ^ 56 := by decide
  have h2 := key xs.length (by omega)
  omega
theorem Clone_spec (hx : Bv .u8 w A l c xs) (hl : l ≤ 2 ^ 38) : Rt (bytes_Clone n [.slice A l c] w) (RO .u8 5 w xs) := by
  obtain ⟨i, hT⟩ := slV
  have hxl := hx.len
  rw [bytes_Clone_eq]
  refine Rt.fin (Rt.cB (fun h => ?_) fun h => ?_)
  · have : A = none := by simpa using h
    have h2 := hx.nil this
    have : xs = [] := List.length_eq_zero_iff.1 (by omega)
    subst this
    exact Rt.endO (Own.nil w w.heap.size) (Nat.le_refl _) (Kp.rfl' w)
  · refine Rt.alo (k := .u8) [] 0 rfl rfl (by decide) fun w1 o1 k1 => ?_
    refine Rt.app hT o1 (hx.kp k1).sl hx.nil (by simp; omega) k1.size fun B d w2 o2 hk _ _ => ?_
    (repeat (first | (with_reducible (first | refine Rt.fin ?_ | refine Rt.tL ?_ | refine Rt.tI ?_ | refine Rt.tB ?_ | refine Rt.tS ?_ | refine Rt.tP ?_ | refine Rt.tD ?_ | refine Rt.tM ?_ | refine Rt.tC ?_ | refine Rt.tN ?_ | refine Rt.tA ?_ | refine Rt.tG ?_ | refine Rt.tF ?_ | refine Rt.os ?_ | refine Rt.clS ?_ | refine Rt.jmN ?_ | refine Rt.jbN ?_ | refine Rt.jbE ?_)) | ((with_reducible (first | apply Rt.ld0 | apply Rt.ld1 | apply Rt.ld2 | apply Rt.ld3 | apply Rt.ld4 | apply Rt.ld5)); first | assumption | exact Lc.kp (by assumption) (by assumption)) | ((with_reducible apply Rt.ol); first | assumption | exact cell_kp (by assumption) (by assumption)) | ((with_reducible apply Rt.ckR); focus ((repeat (first | (with_reducible (first | refine Rt.fin ?_ | refine Rt.tL ?_ | refine Rt.tI ?_ | refine Rt.tB ?_ | refine Rt.tS ?_ | refine Rt.tP ?_ | refine Rt.tD ?_ | refine Rt.tM ?_ | refine Rt.tC ?_ | refine Rt.tN ?_ | refine Rt.tA ?_ | refine Rt.tG ?_ | refine Rt.tF ?_ | refine Rt.os ?_ | refine Rt.clS ?_ | refine Rt.jmN ?_ | refine Rt.jbN ?_ | refine Rt.jbE ?_)) | ((with_reducible (first | apply Rt.ld0 | apply Rt.ld1 | apply Rt.ld2 | apply Rt.ld3 | apply Rt.ld4 | apply Rt.ld5)); first | assumption | exact Lc.kp (by assumption) (by assumption)) | ((with_reducible apply Rt.ol); first | assumption | exact cell_kp (by assumption) (by assumption)))); exact Rt.some' rfl))))
    have hk2 := hk w k1 (Nat.le_refl _)
    rw [List.nil_append] at o2
    exact Rt.endO o2 (Nat.le_refl _) hk2
end
end Go.Proofs.Ytdnbpgakmbamoaa.Low
